/- A part of the proof. No condition. -/
import Derived.Test.YtecbfpngkfdkoaaGreatP5
import Derived.Test.YtecbfpngkfdkoaaGreatP4
import Derived.Laws.IdiomRangeMap
set_option linter.unusedSimpArgs false
set_option linter.unusedVariables false
set_option linter.unusedSectionVars false
namespace Go.Sx
open Go.RowKit
def mH(p:List (Nat×Key×ah)):List Nat:=p.map (·.2.1.toNat)
def Ek(P:Program)(ρ:Nat→Int)(orc:gD)(nt:Nat)(w0:W0)(cs:List Frame)(K:List Item)(ops:Array Oper)(pl:List J)(bf:List Nat)(fr:Frame)(w:World)(μ:Mu)(G:Key→Option ah)(H:T ah)(nx:Key)(aj:List (Nat×Key×ah)):RS→Prop
 |.fin an h' nx'=>∃ dp w' μ' G',Steps P (lone fr cs w) (lone {fr with tmps:=dp,todo:=K} cs w')∧μ.le μ'∧aP P ρ w0 μ' G' nx'.toNat w'∧HSub h' G'∧je ρ μ' nt an dp∧zq (mH aj) H h' nx nx' μ μ' G G'
 |.ev r EA pend' an h' nx'=>(∃ n,r=.bad n)∨∃ dp w' μ' G' g' i po o ad os Ov jD jj,
   Steps P (lone fr cs w) (lone {fr with tmps:=dp,todo:=.inRegion ops (i ::jj) ::K} cs w')∧μ.le μ'∧aP P ρ w0 μ' G' nx'.toNat w'∧HSub h' G'∧
   EA=.H i po ad ::.R os ::jD∧pl[i]?=some po∧Ov.mapM (Bh pl)=some jD∧wa ops pl bf (Fj (Gh.L g') i) Ov=true∧hasB g'.L i=false∧(∀ j,j<ops.size→hasB (eu bf i) j=true→hasB g'.L j=true)∧
   (∀ i po,(i,po)∈os→pl[i]?=some po∧Bf ops bf i=true∧nZ pl i=0)∧(∀ j,hasB g'.L j=true→fa pl j=true→hasB (eu bf i) j=true∨∃ po,(j,po)∈os)∧
   fc P ρ orc nt ops pl bf μ' G' h' nx' g' (fun i=>fa pl i=true) pend' an dp (i ::jj)∧ops[i]?=some o∧IS P nt ops o=some po∧Region.wanted o (yielded ops dp)=true∧
   aOp orc po.op an h' nx'=r∧¬ yB r∧zq (mH aj) H h' nx nx' μ μ' G G'∧(∀ x∈mH pend',x∈mH aj∨nx.toNat≤x)
section
variable{P:Program}{ρ:Nat→Int}{orc:gD}{nt:Nat}{ops:Array Oper}{pl:List J}{bf:List Nat}{w0:W0}{cs:List Frame}{K:List Item}
theorem Ek.step{fr:Frame}{w:World}{μ:Mu}{G:Key→Option ah}{H:T ah}{nx:Key}{aj:List (Nat×Key×ah)}{tmps2:Array Value}{rest2:List Nat}{w2:World}{μ2:Mu}{G2:Key→Option ah}{H2:T ah}{aI:Key}{pend2:List (Nat×Key×ah)}{r:RS}
  (dQ:Steps P (lone fr cs w) (lone {fr with tmps:=tmps2,todo:=.inRegion ops rest2 ::K} cs w2)) (hle:μ.le μ2) (hk:zq (mH aj) H H2 nx aI μ μ2 G G2) (hE:∀ x∈mH pend2,x∈mH aj∨nx.toNat≤x)
  (h:Ek P ρ orc nt w0 cs K ops pl bf {fr with tmps:=tmps2,todo:=.inRegion ops rest2 ::K} w2 μ2 G2 H2 aI pend2 r):Ek P ρ orc nt w0 cs K ops pl bf fr w μ G H nx aj r:=by
 cases r with
 |fin an h' nx'=>
  obtain⟨dp,w',μ',G',s1,s2,s3,s4,s5,s6⟩:=h
  exact⟨dp,w',μ',G',dQ.trans s1,Mu.le_trans hle s2,s3,s4,s5,hk.trans s6 hE⟩
 |ev rr it pd an h' nx'=>
  rcases h with hb|⟨dp,w',μ',G',g',i,po,o,ad,os,Ov,jD,jj,s1,s2,s3,s4,s5,s6,s7,s8,s9,s10,s11,s12,s13,s14,s15,s16,s17,s18,s19,s20⟩
  ·exact .inl hb
  ·refine .inr ⟨dp,w',μ',G',g',i,po,o,ad,os,Ov,jD,jj,dQ.trans s1,Mu.le_trans hle s2,s3,s4,s5,s6,s7,s8,s9,s10,s11,s12,s13,s14,s15,s16,s17,s18,hk.trans s19 hE,fun x hx=>?_⟩
   rcases s20 x hx with h|h
   ·exact hE x h
   ·exact .inr (Nat.le_trans hk.n h)
theorem gZ{α β:Type}{f:α→Option β}{a:α}{l:List α}{r:List β}(h:(a ::l).mapM f=some r):∃ b r',f a=some b∧l.mapM f=some r'∧r=b ::r':=by
 rw[List.mapM_cons] at h
 cases hf:f a with
 |none=>rw[hf] at h;cases h
 |some b=>
  cases hl:l.mapM f with
  |none=>rw[hf] at h;simp[hl] at h
  |some r'=>rw[hf] at h;simp[hl] at h;exact⟨b,r',rfl,rfl,h.symm⟩
theorem S0(orc:gD)(hO:List (Nat×List Nat))(i:Nat)(o:J)(rest:List aN)(aj:List (Nat×Key×ah))(tm:T AV)(h:T ah)(nx:Key):fP orc hO (.L i o ::rest) aj tm h nx=(match b9 o.guard tm with
   |none=>.ev (.bad 31) (.L i o ::rest) aj tm h nx
   |some false=>tT o.dst (some (.tuple [])) tm fun tm=>fP orc hO rest aj tm h nx
   |some true=>match lightOp orc o.op tm (tU (AX i hO) aj h) with
    |some v=>tT o.dst (some v) tm fun tm=>fP orc hO rest aj tm h nx
    |none=>.ev (.bad 32) (.L i o ::rest) aj tm h nx):=rfl
theorem S6(orc:gD)(hO:List (Nat×List Nat))(i:Nat)(o:J)(rest:List aN)(aj:List (Nat×Key×ah))(tm:T AV)(h:T ah)(nx:Key):fP orc hO (.A i o ::rest) aj tm h nx=(match b9 o.guard tm with
   |none=>.ev (.bad 33) (.A i o ::rest) aj tm h nx
   |some false=>tT o.dst (some (.tuple [])) tm fun tm=>fP orc hO rest aj tm h nx
   |some true=>match allocOp o.op tm with
    |some (v,b)=>tT o.dst (some (v nx)) tm fun tm=>fP orc hO rest ((i,nx,b) ::aj) tm h nx.succ
    |none=>.ev (.bad 34) (.A i o ::rest) aj tm h nx):=rfl
theorem S7(orc:gD)(hO:List (Nat×List Nat))(i:Nat)(o:J)(l:List Nat)(rest:List aN)(aj:List (Nat×Key×ah))(tm:T AV)(h:T ah)(nx:Key):fP orc hO (.H i o l ::rest) aj tm h nx=(Bg l aj h fun aj h=>match b9 o.guard tm with
   |none=>.ev (.bad 35) (.H i o l ::rest) aj tm h nx
   |some false=>tT o.dst (some (.tuple [])) tm fun tm=>fP orc hO rest aj tm h nx
   |some true=>match aOp orc o.op tm h nx with
    |.val v h nx=>tT o.dst (some v) tm fun tm=>fP orc hO rest aj tm h nx
    |r=>.ev r (.H i o l ::rest) aj tm h nx):=rfl
theorem R6(orc:gD)(hO:List (Nat×List Nat))(os:List (Nat×J))(rest:List aN)(aj:List (Nat×Key×ah))(tm:T AV)(h:T ah)(nx:Key):fP orc hO (.R os ::rest) aj tm h nx =
  (bif recheck orc hO aj tm h os then fP orc hO rest aj tm h nx else .ev (.bad 36) (.R os ::rest) aj tm h nx):=rfl
theorem auj{os:List Nat}{l:List (Nat×J)}(h:(os.mapM fun i=>(pl[i]?).map fun o=>(i,o))=some l):(∀ i po,(i,po)∈l→i∈os∧pl[i]?=some po)∧(∀ i∈os,∃ po,(i,po)∈l):=by
 induction os generalizing l with
 |nil=>simp at h;subst h;simp
 |cons a os ih=>
  obtain⟨b,r,h1,h2,rfl⟩:=gZ h
  obtain⟨po,Rg,rfl⟩:=map_some h1
  obtain⟨e1,e2⟩:=ih h2
  refine⟨fun i Oo hm=>?_,fun i hi=>?_⟩
  ·rcases JY.1 hm with h|h
   ·cases h;exact⟨by simp,Rg⟩
   ·exact⟨List.mem_cons_of_mem _ (e1 i Oo h).1,(e1 i Oo h).2⟩
  ·rcases JY.1 hi with h|h
   ·subst h;exact⟨po,by simp⟩
   ·obtain⟨q,hq⟩:=e2 i h;exact⟨q,List.mem_cons_of_mem _ hq⟩
theorem aBr{μ:Mu}{G:Key→Option ah}{nx:Key}{w:World}(hM:aP P ρ w0 μ G nx.toNat w):G nx=none:=by
 cases h:G nx with
 |none=>rfl
 |some B=>
  obtain⟨l,o,h1,_⟩:=hM.nM nx B h
  exact absurd (hM.new nx l h1) (Nat.lt_irrefl _)
theorem Q4{α:Type}{f:α→Nat}:∀ {l:List α},(l.map f).Nodup→∀ x∈l,∀ y∈l,f x=f y→x=y
 | [],_,x,hx,_,_,_=>by cases hx
 |a ::l,h,x,hx,y,hy,e=>by
  simp only[zqx,List.nodup_cons] at h
  rcases JY.1 hx with GO|GO<;>rcases JY.1 hy with Sa|Sa
  ·rw[GO,Sa]
  ·exact(h.1 (zqv.2 ⟨y,Sa,by rw[← e,GO]⟩)).elim
  ·exact(h.1 (zqv.2 ⟨x,GO,by rw[e,Sa]⟩)).elim
  ·exact Q4 h.2 x GO y Sa e
theorem yp{α:Type}{f:α→Nat}(p:α→Bool){l:List α}(h:(l.map f).Nodup):((l.filter p).map f).Nodup:=
 List.Nodup.sublist (List.Sublist.map f List.filter_sublist) h
theorem fc.Bg{μ:Mu}{G:Key→Option ah}{H:T ah}{nx:Key}{g:Gh}{aj:List (Nat×Key×ah)}{tm:T AV}{tmps:Array Value}{rest:List Nat}(S:fc P ρ orc nt ops pl bf μ G H nx g (fun _=>False) aj tm tmps rest){l:List Nat}(hl:∀ j∈l,j<ops.size→g.D j=true) :
  fc P ρ orc nt ops pl bf μ G (cK (aj.filter fun x=>memN x.1 l) H) nx g (fun i=>fa pl i=true) (aj.filter fun x=>!(memN x.1 l)) tm tmps rest:=by
 refine⟨S.Lg,S.ord,S.cl,S.sub,S.ET,S.lcl,S.a1,S.a2,S.sz,S.c1,S.c2,?_,?_,yp _ S.nk,yp _ S.ni⟩
 ·intro i hi hD
  cases S.pd i hi hD with
  |skip po kg h1 h2 h3 h4 h5=>exact .skip po kg h1 h2 h3 h4 fun x hx=>h5 x ((List.mem_filter.1 hx).1)
  |light po kg v h1 h2 h3 qq h4 h5 h6=>
   refine .light po kg v h1 h2 h3 qq (fun hu=>?_) h5 fun x hx=>h6 x ((List.mem_filter.1 hx).1)
   obtain⟨V,a1,_⟩:=h4 (fun h=>h)
   refine⟨_,?_,VOk.refl _ _ _ _⟩
   rw[← a1]
   apply Hi
   have:fa pl i=HB po.op:=by simp[fa,h1]
   rw[this] at hu
   simpa using hu
  |alloc po kg f B k h1 h2 h3 qq h4 h5 h6=>
   refine .alloc po kg f B k h1 h2 h3 qq h4 h5 (List.mem_filter.2 ⟨h6,?_⟩)
   show(!(memN i l))=true
   cases hm:memN i l with
   |false=>rfl
   |true=>rw[hl i (Hl hm) (S.ET i hi)] at hD;cases hD
 ·intro x hx
  obtain⟨GO,hx2⟩:=List.mem_filter.1 hx
  obtain⟨p1,p2,p3,p4,p5⟩:=S.pe x GO
  refine⟨p1,p2,p3,v5 p4 fun y hy e=>?_,p5⟩
  obtain⟨Sa,hy2⟩:=List.mem_filter.1 hy
  have:=Q4 S.nk y Sa x GO e
  subst this
  rw[hy2] at hx2;cases hx2
theorem Q5{hO:List (Nat×List Nat)}(hor:cY ρ orc){rest:List Nat}{g:Gh}{fr:Frame}{w:World}{μ:Mu}{G:Key→Option ah}{H:T ah}{nx:Key}{tm:T AV}{aj:List (Nat×Key×ah)}(hc:wa ops pl bf g.L []=true)(hM:aP P ρ w0 μ G nx.toNat w)(hH:HSub H G)
  (S:fc P ρ orc nt ops pl bf μ G H nx g (fun _=>False) aj tm fr.tmps rest) (hm:fr.mode=.run) (ht:fr.todo=.inRegion ops rest ::K):Ek P ρ orc nt w0 cs K ops pl bf fr w μ G H nx aj (fP orc hO [] aj tm H nx):=by
 have EV:∀ j,j<ops.size→hasB g.L j=true:=by
  intro j hj
  simp only[wa,zr] at hc
  exact hc j (by simpa using hj)
 have ch:fP orc hO [] aj tm H nx=.fin tm (cK aj H) nx:=by
  show BE aj H (fun h=>RS.fin tm h nx)=_
  rw[CB]
 rw[ch]
 obtain⟨dp,w',μ',G',D',jj,s1,s2,s3,s4,s5,s6,rfl⟩:=al8 (cs:=cs) hM hH hor S EV hm ht
 have hD:∀ j,j<ops.size→D' j=true:=s5.ord
 refine⟨dp,w',μ',G',s1.trans (.one (DX hm rfl)),s2,s3,E7 s4 (fun x hx=>(s5.pe x hx).2.1 (hD _ (s5.ET _ (s5.pe x hx).1))),?_,?_⟩
 ·refine⟨s5.sz,fun k a ha=>?_⟩
  by_cases h:∃ j,kM ops j=some k.toNat
  ·obtain⟨j,hj⟩:=h
   have aR:=Il hj
   exact s5.c1 k j a (hD j aR) hj (by rw[← s5.a1 k j (EV j aR) hj];exact ha)
  ·have sE:∀ j,kM ops j≠some k.toNat:=fun j hj=>h ⟨j,hj⟩
   exact s5.c2 k a (fun j _=>sE j) (by rw[← s5.a2 k (fun j _=>sE j)];exact ha)
 ·refine⟨fun b hb hg hl=>?_,fe _⟩
  have bI:∀ x∈aj,x.2.1.toNat≠b.toNat:=fun x hx e=>hb (zqv.2 ⟨x,hx,e⟩)
  obtain⟨k1,k2⟩:=s6 b (fun x hx e=>bI x hx (by rw[e]))
  exact⟨k1,k2,v5 hg bI⟩
theorem TO{hO:List (Nat×List Nat)}(aiH:wU bf hO=true)(hor:cY ρ orc):∀ (n:Nat) (sA:List IIt) (items:List aN) (rest:List Nat) (g:Gh) (fr:Frame) (w:World) (μ:Mu) (G:Key→Option ah) (H:T ah) (nx:Key) (tm:T AV) (aj:List (Nat×Key×ah)),sA.length≤n→
  sA.mapM (Bh pl)=some items→wa ops pl bf g.L sA=true→aP P ρ w0 μ G nx.toNat w→HSub H G→fc P ρ orc nt ops pl bf μ G H nx g (fun _=>False) aj tm fr.tmps rest→fr.mode=.run→fr.todo=.inRegion ops rest ::K→
  Ek P ρ orc nt w0 cs K ops pl bf fr w μ G H nx aj (fP orc hO items aj tm H nx):=by
 intro n
 induction n with
 |zero=>
  intro sA items rest g fr w μ G H nx tm aj hn hf hc hM hH S hm ht
  have:sA=[]:=TW (by omega)
  subst this
  simp at hf
  subst hf
  exact Q5 hor hc hM hH S hm ht
 |succ n ih=>
  intro sA items rest g fr w μ G H nx tm aj hn hf hc hM hH S hm ht
  cases sA with
  |nil=>
   simp at hf
   subst hf
   exact Q5 hor hc hM hH S hm ht
  |cons x sA=>
   obtain⟨y,EA,hy,hf',rfl⟩:=gZ hf
   have hn':sA.length≤n:=by simpa using hn
   have hrefl:Steps P (lone fr cs w) (lone {fr with tmps:=fr.tmps,todo:=.inRegion ops rest ::K} cs w):=by rw[← ht];exact Steps.refl _ _
   cases x with
   |L i=>
    obtain⟨po,nR,rfl⟩:=map_some hy
    simp only[wa,iE,bltN_eq,decide_eq_true_eq,Bool.not_eq_true',CR] at hc
    obtain⟨⟨⟨⟨hi,hk⟩,hL⟩,hb⟩,hc⟩:=hc
    have hk:=ml hk
    have hii:hasB (eu bf i) i=false:=by
     cases h:hasB (eu bf i) i with
     |false=>rfl
     |true=>have:=hb i hi h;rw[hL] at this;cases this
    have htm:=S.aug hi hL hb
    have TK:∀ x∈aj,x.1≠i:=by
     intro x hx e
     have:=(S.pe x hx).1
     rw[e,hL] at this;cases this
    rw[S0]
    cases hw:b9 po.guard tm with
    |none=>exact Or.inl ⟨_,rfl⟩
    |some b=>
     cases b with
     |false=>
      simp only[da]
      have S':=S.add (nx':=nx) (pend':=aj) (v:=.tuple []) nR hL hb (fun _ h=>h) (fun _ h=>.inl h) (.skip po tm nR (uV hii htm) hw (by simp[vh]) TK) (fun y hy hny=>absurd hy hny) (fe _) S.nk S.ni
      exact ih sA EA rest _ fr w μ G H nx _ aj hn' hf' hc hM hH S' hm ht
     |true=>
      cases hl:lightOp orc po.op tm (tU (AX i hO) aj H) with
      |none=>exact Or.inl ⟨_,rfl⟩
      |some v=>
       simp only[da]
       have S':=S.add (nx':=nx) (pend':=aj) (v:=v) nR hL hb (fun _ h=>h) (fun _ h=>.inl h) (.light po tm v nR (uV hii htm) hw hk (fun _=>⟨_,hl,VOk.view aiH _ _ _⟩) (by simp[vh]) TK) (fun y hy hny=>absurd hy hny) (fe _) S.nk S.ni
       exact ih sA EA rest _ fr w μ G H nx _ aj hn' hf' hc hM hH S' hm ht
   |A i=>
    obtain⟨po,nR,rfl⟩:=map_some hy
    simp only[wa,iE,bltN_eq,decide_eq_true_eq,Bool.not_eq_true',CR] at hc
    obtain⟨⟨⟨⟨hi,hk⟩,hL⟩,hb⟩,hc⟩:=hc
    have hk:=ml hk
    have hii:hasB (eu bf i) i=false:=by
     cases h:hasB (eu bf i) i with
     |false=>rfl
     |true=>have:=hb i hi h;rw[hL] at this;cases this
    have htm:=S.aug hi hL hb
    have TK:∀ x∈aj,x.1≠i:=by
     intro x hx e
     have:=(S.pe x hx).1
     rw[e,hL] at this;cases this
    have hss:=kTSu nx
    rw[S6]
    cases hw:b9 po.guard tm with
    |none=>exact Or.inl ⟨_,rfl⟩
    |some b=>
     cases b with
     |false=>
      simp only[da]
      have S':=S.add (nx':=nx) (pend':=aj) (v:=.tuple []) nR hL hb (fun _ h=>h) (fun _ h=>.inl h) (.skip po tm nR (uV hii htm) hw (by simp[vh]) TK) (fun y hy hny=>absurd hy hny) (fe _) S.nk S.ni
      exact ih sA EA rest _ fr w μ G H nx _ aj hn' hf' hc hM hH S' hm ht
     |true=>
      cases hl:allocOp po.op tm with
      |none=>exact Or.inl ⟨_,rfl⟩
      |some fB=>
       obtain⟨f,B⟩:=fB
       simp only[da]
       have hgn:=aBr hM
       have hHn:aa nx H=none:=by
        cases h:aa nx H with
        |none=>rfl
        |some B=>rw[hH nx B h] at hgn;cases hgn
       have S':=S.add (nx':=nx.succ) (pend':=(i,nx,B) ::aj) (v:=f nx) nR hL hb (fun _ h=>List.mem_cons_of_mem _ h) (fun y h=>by rcases JY.1 h with h|h;exact .inr (by rw[h]);exact .inl h)
        (.alloc po tm f B nx nR (uV hii htm) hw hk hl (by simp[vh]) (by simp))
        (fun y hy hny=>by
         have:y=(i,nx,B):=(JY.1 hy).resolve_right hny
         subst this
         exact⟨hM.mQ,hgn,hHn,by show nx.toNat<nx.succ.toNat;omega⟩) (by omega)
        (by
         simp only[zqx,List.nodup_cons]
         refine⟨fun h=>?_,S.nk⟩
         obtain⟨x,hx,e⟩:=zqv.1 h
         have:=(S.pe x hx).2.2.2.2
         omega)
        (by
         simp only[zqx,List.nodup_cons]
         refine⟨fun h=>?_,S.ni⟩
         obtain⟨x,hx,e⟩:=zqv.1 h
         exact TK x hx e)
       have:=ih sA EA rest _ fr w μ G H nx.succ _ ((i,nx,B) ::aj) hn' hf' hc (hM.aDn (by omega)) hH S' hm ht
       refine Ek.step (tmps2:=fr.tmps) (rest2:=rest) (w2:=w) (pend2:=(i,nx,B) ::aj) hrefl μ.le_refl ⟨fun b _ hg hl=>⟨rfl,rfl,hg⟩,Nat.le_of_lt (show nx.toNat<nx.succ.toNat by omega)⟩ ?_ (by rw[← ht];exact this)
       intro x hx
       simp only[mH,zqx,JY] at hx
       rcases hx with h|h
       ·exact .inr (Nat.le_of_eq h.symm)
       ·exact .inl h
   |H i ad=>
    obtain⟨po,nR,rfl⟩:=map_some hy
    cases sA with
    |nil=>simp[wa] at hc
    |cons x2 Ov=>
    cases x2 with
    |L _=>simp[wa] at hc
    |A _=>simp[wa] at hc
    |H _ _=>simp[wa] at hc
    |R osn=>
    obtain⟨y2,jD,hy2,hf2,rfl⟩:=gZ hf'
    obtain⟨os,Tw,rfl⟩:=map_some hy2
    obtain⟨aLs,aLt⟩:=auj Tw
    have hn2:Ov.length≤n:=by simp at hn;omega
    simp only[wa,iE,bltN_eq,decide_eq_true_eq,Bool.not_eq_true',CR] at hc
    obtain⟨⟨⟨⟨⟨⟨⟨⟨hi,hk⟩,hL⟩,hb⟩,aiA⟩,kP⟩,Eu⟩,aLu⟩,hc⟩:=hc
    have hk:=ml hk
    have aFh:∀ j q,(j,q)∈os→pl[j]?=some q∧Bf ops bf j=true∧nZ pl j=0:=by
     intro j q hj
     obtain⟨e1,e2⟩:=aLs j q hj
     have:=zr.1 aLu j e1
     simp only[iE] at this
     exact⟨e2,this.2,ml this.1.2⟩
    have ayH:∀ j,hasB g.L j=true→fa pl j=true→hasB (eu bf i) j=true∨∃ q,(j,q)∈os:=by
     intro j hj hr
     have:=zr.1 Eu j (by simpa using S.ET j hj)
     simp only[hj,hr,Bool.not_true,Bool.false_or,Bool.or_eq_true] at this
     rcases this with h|h
     ·exact .inl h
     ·exact .inr (aLt j (by simpa using h))
    have aBt:∀ j,j<ops.size→hasB g.L j=true∨j=i∨∃ q,q<ops.size∧hasB (eu bf j) q=true∧hasB g.L q=false:=by
     intro j hj
     have:=zr.1 aiA j (by simpa using hj)
     simp only[Bool.or_eq_true,Bool.not_eq_true'] at this
     rcases this with(h|h)|h
     ·exact .inl h
     ·exact .inr (.inl (ml h))
     ·refine .inr (.inr (Classical.byContradiction fun sE=>?_))
      have:ai3 ops.size (eu bf j) g.L=true:=CR.2 fun q hq hbq=>by
       cases hLq:hasB g.L q with
       |true=>rfl
       |false=>exact absurd ⟨q,hq,hbq,hLq⟩ sE
      rw[this] at h;cases h
    obtain⟨Hm,w1,μ1,G1,D1,aO9,s1,s2,s3,s4,S1,s6,r1,rfl⟩:=Td (cs:=cs) hM hH hor S hi hL aBt hm ht
    have aFi:∀ j∈ad,j<ops.size→D1 j=true:=by
     intro j hj aR
     exact S1.ready.2.2 j aR (zr.1 kP j hj)
    have S2:=S1.Bg (l:=ad) aFi
    rw[S7,ux]
    generalize hpf:(aj.filter fun x=>!(memN x.1 ad))=pend2 at S2
    generalize hHf:cK (aj.filter fun x=>memN x.1 ad) H=H2 at S2
    have hH2:HSub H2 G1:=by
     rw[← hHf]
     refine E7 s4 fun x hx=>?_
     obtain⟨GO,hx2⟩:=List.mem_filter.1 hx
     exact(S1.pe x GO).2.1 (aFi _ (Hl hx2) (S1.ET _ (S1.pe x GO).1))
    have aFj:∀ x∈pend2,x∈aj:=by intro x hx;rw[← hpf] at hx;exact(List.mem_filter.1 hx).1
    have auk:∀ x∈mH pend2,x∈mH aj∨nx.toNat≤x:=by
     intro x hx
     obtain⟨y,hy,e⟩:=zqv.1 hx
     exact .inl (zqv.2 ⟨y,aFj y hy,e⟩)
    have hK2:zq (mH aj) H H2 nx nx μ μ1 G G1:=by
     refine⟨fun b fb hg bN=>?_,fe _⟩
     have bI:∀ x∈aj,x.2.1.toNat≠b.toNat:=fun x hx e=>fb (zqv.2 ⟨x,hx,e⟩)
     obtain⟨k1,k2⟩:=s6 b (fun x hx e=>bI x hx (by rw[e]))
     rw[← hHf]
     exact⟨k1,k2,v5 hg fun x hx=>bI x ((List.mem_filter.1 hx).1)⟩
    obtain⟨o,Oo,ID,Rg,Dh⟩:=S.Lg.at hi
    rw[nR] at Dh;cases Dh
    obtain⟨jx,Rh,yC⟩:=gp Rg
    have hsl:=S2.Lx hL hb ID
    have hE:=CO (P:=P) (nt:=nt) (o:=o) (fr:={fr with tmps:=Hm,todo:=.inRegion ops (i ::r1) ::K}) s3 hsl
    have go:∀ (a:AV) (v:Value) (w3:World) (μ3:Mu) (G3:Key→Option ah) (H3:T ah) (bu:Key),step P (lone {fr with tmps:=Hm,todo:=.inRegion ops (i ::r1) ::K} cs w1)=.next (lone {fr with tmps:=Dg o.dst v Hm,todo:=.inRegion ops r1 ::K} cs w3)→
      aC ρ μ3 a v→μ1.le μ3→aP P ρ w0 μ3 G3 bu.toNat w3→HSub H3 G3→Kept H2 H3 nx bu μ1 μ3 G1 G3→Ek P ρ orc nt w0 cs K ops pl bf fr w μ G H nx aj (fP orc hO (.R os ::jD) pend2 (bp po.dst a tm) H3 bu):=by
     intro a v w3 μ3 G3 H3 bu dQ hv hle hM3 hH3 hK3
     have S3:=S2.kN hle hK3.n (G':=G3) (H':=H3) (fun x hx=>by
      obtain⟨p1,p2,p3,p4,p5⟩:=S2.pe x hx
      exact⟨hK3.m _ p5,hK3.g _ p4 p5,hK3.h _ p4 p5⟩)
     have S4:=S3.ayB nR hL hb ID hv
     rw[R6]
     cases hrc:recheck orc hO pend2 (bp po.dst a tm) H3 os with
     |false=>exact Or.inl ⟨_,rfl⟩
     |true=>
      simp only[cond_true]
      have S5:=S4.Qs aiH hrc aFh (by
       intro j hj hDj hrj
       have hDj:(D1 j||j==i)=false:=hDj
       rw[Bool.or_eq_false_iff] at hDj
       have bI:j≠i:=by simpa using hDj.2
       have hj:hasB (Fj g.L i) j=true:=hj
       rw[Fy,Bool.or_eq_true,decide_eq_true_eq] at hj
       have hjL:=hj.resolve_right (fun e=>bI e.symm)
       rcases ayH j hjL hrj with h|h
       ·have:=S1.ready.2.2 j (S.ET j hjL) h
        have:D1 j=true:=this
        rw[hDj.1] at this;cases this
       ·exact h)
      have hE3:=ih Ov jD r1 _ {fr with tmps:=Dg o.dst v Hm,todo:=.inRegion ops r1 ::K} w3 μ3 G3 H3 bu _ pend2 hn2 hf2 hc hM3 hH3 S5 hm rfl
      exact Ek.step (s1.trans (.one dQ)) (Mu.le_trans s2 hle) (hK2.trans (hK3.toE (mH pend2)) auk) (fun x hx=>(auk x hx)) hE3
    have evt:∀ r:OR,Region.wanted o (yielded ops Hm)=true→aOp orc po.op tm H2 nx=r→¬ yB r→Ek P ρ orc nt w0 cs K ops pl bf fr w μ G H nx aj (.ev r (.H i po ad ::.R os ::jD) pend2 tm H2 nx):=by
     intro r lD ha hr
     exact Or.inr ⟨Hm,w1,μ1,G1,{g with D:=D1},i,po,o,ad,os,Ov,jD,r1,s1,s2,s3,hH2,rfl,nR,hf2,hc,hL,hb,aFh,ayH,S2,ID,Rg,lD,ha,hr,hK2,auk⟩
    show Ek P ρ orc nt w0 cs K ops pl bf fr w μ G H nx aj (match b9 po.guard tm with
     |none=>.ev (.bad 35) (.H i po ad ::.R os ::jD) pend2 tm H2 nx
     |some false=>tT po.dst (some (.tuple [])) tm fun tm=>fP orc hO (.R os ::jD) pend2 tm H2 nx
     |some true=>match aOp orc po.op tm H2 nx with
      |.val v h nx=>tT po.dst (some v) tm fun tm=>fP orc hO (.R os ::jD) pend2 tm h nx
      |r=>.ev r (.H i po ad ::.R os ::jD) pend2 tm H2 nx)
    cases hw:b9 po.guard tm with
    |none=>exact Or.inl ⟨_,rfl⟩
    |some b=>
     have lD:=xI Rh hsl hw
     cases b with
     |false=>
      simp only[da]
      have dQ:=EW (P:=P) (cs:=cs) (w:=w1) (fr:={fr with tmps:=Hm,todo:=.inRegion ops (i ::r1) ::K}) hm rfl ID lD
      rw[cr rfl ID] at dQ
      exact go _ _ w1 μ1 G1 H2 nx dQ (.tuple _ _ .nil) μ1.le_refl s3 hH2 (Kept.refl _ _ _ _)
     |true=>
      cases ha:aOp orc po.op tm H2 nx with
      |val a H3 bu=>
       simp only[da]
       obtain⟨n,w3,μ3,G3,q1,q2,q3,q4,q5,q6⟩:=QG s3 hH2 hor jx hE ha
       have Dn:fr.roundOf=none∨dP o.op=false:=.inr (tA jx (by rw[ha];intro f l e;cases e) (by rw[ha];intro n e;cases e))
       cases n with
       |value v=>
        have dQ:=Lw (P:=P) (cs:=cs) (fr:={fr with tmps:=Hm,todo:=.inRegion ops (i ::r1) ::K}) hm rfl ID lD Dn q1
        rw[cr rfl ID] at dQ
        exact go _ _ w3 μ3 G3 H3 bu dQ q2 q3 q4 q5 q6
       |skip=>
        have q2:a=.tuple []:=q2
        subst q2
        have dQ:=amZ (P:=P) (cs:=cs) (fr:={fr with tmps:=Hm,todo:=.inRegion ops (i ::r1) ::K}) hm rfl ID lD Dn q1
        rw[cr rfl ID] at dQ
        exact go _ _ w3 μ3 G3 H3 bu dQ (.tuple _ _ .nil) q3 q4 q5 q6
       |_=>exact q2.elim
      |bad n=>exact Or.inl ⟨_,rfl⟩
      |call f args=>exact evt _ lD ha (by rintro(⟨_,_,_,e⟩|⟨_,e⟩)<;>cases e)
      |yld k args=>exact evt _ lD ha (by rintro(⟨_,_,_,e⟩|⟨_,e⟩)<;>cases e)
      |pan v=>exact evt _ lD ha (by rintro(⟨_,_,_,e⟩|⟨_,e⟩)<;>cases e)
      |dfr f args=>exact evt _ lD ha (by rintro(⟨_,_,_,e⟩|⟨_,e⟩)<;>cases e)
      |recover=>exact evt _ lD ha (by rintro(⟨_,_,_,e⟩|⟨_,e⟩)<;>cases e)
      |alt la=>exact evt _ lD ha (by rintro(⟨_,_,_,e⟩|⟨_,e⟩)<;>cases e)
   |R os=>simp[wa] at hc
end
end Go.Sx
/-
 SX: simulation: frames that are entered, finished, left. No condition.
-/
namespace Go.Sx
open Go.RowKit
def LA(P:Program)(ρ:Nat→Int)(w0:W0)(f:Nat)(l:List AV)(H:T ah)(nx:Key)(a:AV)(H':T ah)(nx':Key):Prop:=∀ (args:Array Value) (w:World) (μ:Mu) (G:Key→Option ah),aP P ρ w0 μ G nx.toNat w→HSub H G→al ρ μ l args.toList→
 Calls P f args w fun e w'=>∃ u μ' G',e=.returned u∧aC ρ μ' a u∧μ.le μ'∧aP P ρ w0 μ' G' nx'.toNat w'∧HSub H' G'∧Kept H H' nx nx' μ μ' G G'
structure Ctx(P:Program)(ρ:Nat→Int)(w0:W0)(C:dm):Prop where
 sum:∀ f l H nx a H' nx',C.sum f l H nx=some (a,H',nx')→LA P ρ w0 f l H nx a H' nx'
 has : ∀ f l H nx r, C.sum f l H nx = some r → ∃ fn, P.funcs[f]? = some fn ∧ fn.body.isSome = true ∧ fn.name ≠ "runtime.NumGoroutine"
 orc:cY ρ C.orc
 fns:∀ f p,(bif Nat.beq (Key.eA 12 f).toNat f then aa (Key.eA 12 f) C.fns else none)=some p→iI P f=some p
 mix:P.follows .mixedOrders=true
section
variable{P:Program}{ρ:Nat→Int}{orc:gD}{nt:Nat}{w0:W0}{w:World}{μ:Mu}{G:Key→Option ah}{H:T ah}{nx:Key}
theorem alV{id:Nat}{k:List dn}{K:List Item}(h:kG P μ nt k K) :
  (∀ k',mO id k=some k'→∃ K',exitTo id K=some K'∧kG P μ nt k' K')∧(mO id k=none→exitTo id K=none):=by
 induction h with
 |nil=>exact⟨fun k' e=>(by cases e),fun _=>rfl⟩
 |cons a x l k h h' ih=>
  cases h with
  |inBlock id'=>
   simp only[mO,exitTo,beqN_eq]
   by_cases e:id'=id
   ·subst e
    simp only[decide_true,cond_true,beq_self_eq_true,if_true]
    exact⟨fun k' e=>(by cases e;exact⟨_,rfl,h'⟩),fun e=>(by cases e)⟩
   ·have:(id'==id)=false:=by simpa using e
    simp only[e,decide_false,cond_false,this,Ow,if_false]
    exact ih
  |code pc c h=>exact ih
  |inLoop pc c h=>exact ih
  |ops l ops rest h=>exact ih
  |inRF k l r h hr=>exact ih
  |endRF k l r h hr=>exact ih
  |beginRound=>exact ih
  |scope c=>exact ih
noncomputable def gI:List AV→Key→T AV→T AV
 | [],_,tm=>tm
 |v ::l,k,tm=>gI l k.succ (av k (some v) tm)
theorem Ey{R:Type}:∀ (l:List AV) (k:Key) (tm:T AV) (c:T AV→R),Rs l k tm c=c (gI l k tm)
 | [],_,_,_=>rfl
 |v ::l,k,tm,c=>by
  show sx k (some v) tm (fun tm=>Rs l k.succ tm c)=_
  rw[sTCe,Ey l];rfl
theorem JJ:∀ (l:List AV) (k:Key) (tm:T AV) (q:Key) (a:AV),aa q (gI l k tm)=some a→(k.toNat≤q.toNat∧l[q.toNat-k.toNat]?=some a)∨aa q tm=some a
 | [],_,_,_,_,h=>.inr h
 |v ::l,k,tm,q,a,h=>by
  have hs:=kTSu k
  rcases JJ l k.succ _ q a h with⟨h1,h2⟩|h1
  ·refine .inl ⟨by omega,?_⟩
   have:q.toNat-k.toNat=(q.toNat-k.succ.toNat)+1:=by omega
   rw[this];simpa using h2
  ·by_cases e:q=k
   ·subst e;rw[gTSm] at h1;cases h1;exact .inl ⟨fe _,by simp⟩
   ·rw[bZ _ _ _ _ e] at h1;exact .inr h1
theorem alW{args:Array Value}{l:List AV}(h:al ρ μ l args.toList):je ρ μ nt (gI l .z .nil) (args++Array.replicate (nt-args.size) undef):=by
 refine⟨by simp;omega,fun q a hq=>?_⟩
 rcases JJ l .z .nil q a hq with⟨_,h2⟩|h2
 ·have h2:l[q.toNat]?=some a:=by simpa[Key.toNat] using h2
  obtain⟨v,hv,hr⟩:=h.get _ _ h2
  refine⟨v,?_,hr⟩
  have bN:q.toNat<args.size:=by
   rcases Dp q.toNat args.size with h'|h'
   ·exact h'
   ·rw[zqo (by simpa using h')] at hv;cases hv
  rw[Array.getElem?_append_left bN]
  simpa using hv
 ·simp at h2
theorem wX {f : Nat} {p : fO} (h : iI P f = some p) : ∃ fn c, P.funcs[f]? = some fn ∧ fn.body = some c ∧ fn.name ≠ "runtime.NumGoroutine" ∧ fF P fn.ntmps c = some p.body ∧ Oq P fn.ntmps fn.results.toList = some p.res := by
 unfold iI at h
 split at h
 ·cases h
 ·rename_i fn hfn
  split at h
  ·cases h
  ·rename_i c hc
   cases hn : (fn.name == "runtime.NumGoroutine") with
   |true=>rw[hn] at h;cases h
   |false=>
    rw[hn] at h
    simp only[cond_false] at h
    split at h
    ·rename_i b r hb hr
     cases h
     exact⟨fn,c,hfn,hc,by simpa using hn,hb,hr⟩
    ·cases h
theorem tB{f:Nat}{p:fO}(hp:iI P f=some p){l:List AV}{args:Array Value}(hl:al ρ μ l args.toList)(Bs:Bool) :
  Cur P ρ orc μ G H nx {fn:=f,tm:=gI l .z .nil,todo:=[.code p.body],dfs:=[],mode:=.run,Bs,sy:=none,res:=p.res} (Frame.enter P f args (if Bs then .deferred else .normal)):=by
 obtain⟨fn,c,h1,h2,h3,h4,h5⟩:=wX hp
 refine .run fn.ntmps ⟨rfl,⟨fn,h1,rfl,h5⟩,trivial,rfl,trivial,fun h=>absurd rfl h⟩ rfl rfl ?_
 simp only[Frame.enter,h1,Option.map_some,Option.getD_some,Option.bind_some,h2]
 exact .plain _ _ _ _ (.cons _ _ _ _ (.code _ _ h4) .nil) (alW hl)
theorem je.set{tm:T AV}{tmps:Array Value}(h:je ρ μ nt tm tmps){k:Key}(bN:k.toNat<nt){a:AV}{v:Value}(hv:aC ρ μ a v):je ρ μ nt (av k (some a) tm) (tmps.setIfInBounds k.toNat v):=by
 refine⟨by simp;exact h.1,fun q b hb=>?_⟩
 by_cases hq:q=k
 ·subst hq
  rw[gTSm] at hb;cases hb
  have:q.toNat<tmps.size:=LO bN h.1
  exact⟨v,by simp[this],hv⟩
 ·rw[bZ _ _ _ _ hq] at hb
  obtain⟨u,hu,hr⟩:=h.2 q b hb
  refine⟨u,?_,hr⟩
  rw[zqn]
  ·exact hu
  ·intro e;exact hq (Key.toNat_inj e.symm)
noncomputable def au0:List Key→List AV→T AV→T AV
 |k ::l,v ::m,tm=>au0 l m (av k (some v) tm)
 |_,_,tm=>tm
theorem PZ{R:Type}:∀ (ks:List Key) (vs:List AV) (tm:T AV) (bad:R) (c:T AV→R),Rt ks vs tm bad c=bad∨(ks.length=vs.length∧Rt ks vs tm bad c=c (au0 ks vs tm))
 | [],[],tm,bad,c=>.inr ⟨rfl,rfl⟩
 | [],_ ::_,tm,bad,c=>.inl rfl
 |_ ::_,[],tm,bad,c=>.inl rfl
 |k ::l,v ::m,tm,bad,c=>by
  have e:Rt (k ::l) (v ::m) tm bad c=Rt l m (av k (some v) tm) bad c:=by
   show sx k (some v) tm (fun tm=>Rt l m tm bad c)=_
   rw[sTCe]
  rw[e]
  rcases PZ l m (av k (some v) tm) bad c with h|⟨h1,h2⟩
  ·exact .inl h
  ·exact .inr ⟨by simp[h1],h2⟩
theorem TL:∀ {ks:List Key} {vs:List AV} {us:List Value} {tm:T AV} {tmps:Array Value},(∀ k∈ks,k.toNat<nt)→ks.length=vs.length→al ρ μ vs us→je ρ μ nt tm tmps→
  je ρ μ nt (au0 ks vs tm) (((ks.map Key.toNat).zip us).foldl (fun tmps (x:Nat×Value)=>tmps.setIfInBounds x.1 x.2) tmps)
 | [],[],_,_,_,_,_,.nil,h=>h
 | [],_ ::_,_,_,_,_,hl,_,_=>by cases hl
 |_ ::_,[],_,_,_,_,hl,_,_=>by cases hl
 |k ::ks,v ::vs,_,tm,tmps,hk,hl,.cons _ _ u us h h',ht=>by
  exact TL (ks:=ks) (vs:=vs) (fun q hq=>hk q (by simp[hq])) (by simpa using hl) h' (ht.set (hk k (by simp)) h)
noncomputable def iy:List Key→T AV→T AV
 | [],tm=>tm
 |k ::l,tm=>iy l (av k none tm)
theorem mh{R:Type}:∀ (l:List Key) (tm:T AV) (c:T AV→R),Ez l tm c=c (iy l tm)
 | [],_,_=>rfl
 |k ::l,tm,c=>by
  show sx k none tm (fun tm=>Ez l tm c)=_
  rw[sTCe,mh l];rfl
theorem NL:∀ (l:List Key) (tm:T AV) (q:Key) (a:AV),aa q (iy l tm)=some a→(∀ k∈l,k≠q)∧aa q tm=some a
 | [],_,_,_,h=>⟨fun _ h=>(by cases h),h⟩
 |k ::l,tm,q,a,h=>by
  obtain⟨h1,h2⟩:=NL l _ q a h
  have bI:k≠q:=by
   intro e;subst e;rw[gTSm] at h2;cases h2
  rw[bZ _ _ _ _ (fun e=>bI e.symm)] at h2
  refine⟨fun x hx=>?_,h2⟩
  rcases JY.1 hx with e|e
  ·rw[e];exact bI
  ·exact h1 x e
theorem fc.erase{ops:Array Oper}{pl:List J}{bf:List Nat}{g:Gh}{zG:Nat→Prop}{aj:List (Nat×Key×ah)}{tm:T AV}{tmps:Array Value}{rest:List Nat}(S:fc P ρ orc nt ops pl bf μ G H nx g zG aj tm tmps rest){gL:List Key}(hd:HF ops gL) :
  je ρ μ nt (iy gL tm) tmps:=by
 refine⟨S.sz,fun q a hq=>?_⟩
 obtain⟨h1,h2⟩:=NL _ _ _ _ hq
 have sE:∀ j,kM ops j≠some q.toNat:=by
  intro j hj
  obtain⟨k,hk,e⟩:=hd j _ hj
  exact h1 k hk (Key.toNat_inj e)
 rw[S.a2 q fun j _=>sE j] at h2
 exact S.c2 q a (fun j _=>sE j) h2
theorem Fu.finish{k:List dn}{tm:T AV}{K:List Item}{tmps:Array Value}(h:Fu P ρ orc μ G H nx nt k tm K tmps){af af':kU}(hk:af.todo=k)(ht:af.tm=tm){fr:Frame}(hK:fr.todo=K)(hT:fr.tmps=tmps){a:AV}{v:Value}(hv:aC ρ μ a v)
  (hf:bB a af=some af'):TN P ρ orc μ G H nx nt af'.todo af'.tm (fr.finish v).todo (fr.finish v).tmps∧pk af'=pk af∧(∃ tm2 k2,af'={af with tm:=tm2,todo:=k2})∧(∃ tmps2 K2,fr.finish v={fr with tmps:=tmps2,todo:=K2}):=by
 cases h with
 |ops o l ops i rest k K tm tmps hp h ht'=>
  subst ht hT
  simp only[bB,hk,da,cS] at hf
  subst hf
  have hp0:=hp
  simp only[kK] at hp
  split at hp
  ·cases hp
  ·rename_i oo ID
   split at hp
   ·rename_i Oo l' h1 h2
    simp only[cS,List.cons.injEq] at hp
    obtain⟨rfl,rfl⟩:=hp
    obtain⟨jx,Rh,yC⟩:=gp h1
    rw[cr hK ID]
    exact⟨.plain _ _ _ _ (.cons _ _ _ _ (.ops _ _ _ h2) h) (ht'.put yC hv),by simp[pk,hk],⟨_,_,rfl⟩,⟨_,_,rfl⟩⟩
   ·cases hp
 |staged ops pl bf g i po ad os sA items gL aj k K tm tmps rest nR hf' hc hL PW hd h Tw Eu S=>
  subst ht hT
  simp only[bB,hk,da,cS] at hf
  subst hf
  obtain⟨hi,hDi,og⟩:=S.ready
  obtain⟨o,Oo,ID,Rg,Dh⟩:=S.Lg.at hi
  rw[nR] at Dh;cases Dh
  rw[cr hK ID]
  have S4:=S.ayB nR hL PW ID hv
  refine⟨.back ops pl bf _ os sA items gL aj k K _ _ rest hf' hc hd h Tw ?_ S4,by simp[pk,hk],⟨_,_,rfl⟩,⟨_,_,rfl⟩⟩
  intro j hj hDj hrj
  have hDj:(g.D j||j==i)=false:=hDj
  rw[Bool.or_eq_false_iff] at hDj
  have bI:j≠i:=by simpa using hDj.2
  have hj:hasB (Fj g.L i) j=true:=hj
  rw[Fy,Bool.or_eq_true,decide_eq_true_eq] at hj
  have hjL:=hj.resolve_right (fun e=>bI e.symm)
  rcases Eu j hjL hrj with h|h
  ·have:=og j (S.ET j hjL) h
   rw[hDj.1] at this;cases this
  ·exact h
 |rf key l k K tm tmps aA9 h ht'=>
  subst ht hT
  simp only[bB,hk,cS] at hf
  subst hf
  have e:fr.finish v={fr with todo:=.endRangeFunc l.c ::K}:=by simp[Frame.finish,hK]
  rw[e]
  exact⟨.plain _ _ _ _ (.cons _ _ _ _ (.endRF _ _ _ aA9 rfl) h) ht',by simp[pk,hk],⟨_,_,rfl⟩,⟨_,_,rfl⟩⟩
def aqC(tmps:Array Value):ResultVar→Sem Value
 |.tmp t=>pure (tmps.getD t undef)
 |.cell a t=>do loadVar t (← asAddr (tmps.getD a undef))
theorem zn(hM:aP P ρ w0 μ G nx.toNat w)(hH:HSub H G){tm:T AV}{tmps:Array Value}(hT:je ρ μ nt tm tmps):∀ {rs:List ResultVar} {res:List RV} {l:List AV},Oq P nt rs=some res→resultsA H tm res=some l→
  ∃ vs,(rs.mapM (aqC tmps)).run P w=.ok vs w∧al ρ μ l vs
 | [],res,l,hp,hr=>by
  simp only[Oq,cS] at hp;subst hp
  simp only[resultsA,cS] at hr;subst hr
  exact⟨[],by simp[qi],.nil⟩
 |.tmp t ::rs,res,l,hp,hr=>by
  simp only[Oq] at hp
  split at hp
  ·rename_i k r hk hrs
   cases hp
   simp only[resultsA] at hr
   split at hr
   ·rename_i a l' ha Ur
    cases hr
    obtain⟨vs,h1,h2⟩:=zn hM hH hT hrs Ur
    obtain⟨v,hv,hvr⟩:=hT.2 _ _ ha
    rw[(l7 hk).1] at hv
    refine⟨v ::vs,?_,.cons _ _ _ _ hvr h2⟩
    have hg:tmps.getD t undef=v:=by simp[Array.getD_eq_getD_getElem?,hv]
    rw[List.mapM_cons]
    simp only[aqC,lF,qi,iZ,hg,h1]
   ·cases hr
  ·cases hp
 |.cell a t ::rs,res,l,hp,hr=>by
  simp only[Oq] at hp
  split at hp
  ·rename_i k i r hk hi hrs
   cases hp
   simp only[resultsA] at hr
   split at hr
   ·rename_i b off l' ha Ur
    split at hr
    ·rename_i x hx
     cases hr
     obtain⟨vs,h1,h2⟩:=zn hM hH hT hrs Ur
     obtain⟨v,hv,hvr⟩:=hT.2 _ _ ha
     rw[(l7 hk).1] at hv
     have hg:tmps.getD a undef=v:=by simp[Array.getD_eq_getD_getElem?,hv]
     cases hvr with|ptr _ _ lc ad ig kP=>
     subst kP
     simp only[loadB] at hx
     split at hx
     ·rename_i L ck hL
      obtain⟨ii,d,z,e1,e2,e3,e4,e5,e6⟩:=iJ hi
      rw[e5,e6] at hx
      obtain⟨u,hu,hur⟩:=Dq hM (hH _ _ hL) e1 e2 hx ig
      refine⟨u ::vs,?_,.cons _ _ _ _ hur h2⟩
      rw[List.mapM_cons]
      simp only[aqC,lF,qi,iZ,hg,asAddr,hu,h1]
     ·cases hx
    ·cases hr
   ·cases hr
  ·cases hp
def GN(vs:List Value):Value:=if h:vs.toArray.size=1 then vs.toArray[0] else .tuple vs.toArray
theorem ajO{l:List AV}{vs:List Value}(h:al ρ μ l vs):aC ρ μ (mP l) (GN vs):=by
 cases h with
 |nil=>exact .tuple _ _ .nil
 |cons a l v vs h h'=>
  cases h' with
  |nil=>exact h
  |cons b l v2 vs h5 h6=>
   have:GN (v ::v2 ::vs)=.tuple (v ::v2 ::vs).toArray:=by simp[GN]
   rw[this]
   exact .tuple _ _ (.cons _ _ _ _ h (.cons _ _ _ _ h5 h6))
theorem O9(hM:aP P ρ w0 μ G nx.toNat w)(hH:HSub H G){tm:T AV}{tmps:Array Value}(hT:je ρ μ nt tm tmps){fn:Func}{res:List RV}{l:List AV}(hp:Oq P nt fn.results.toList=some res)(hr:resultsA H tm res=some l) :
  ∃ vs,(results fn tmps).run P w=.ok (GN vs) w∧al ρ μ l vs:=by
 obtain⟨vs,h1,h2⟩:=zn hM hH hT hp hr
 have aKV:results fn tmps=(do
   let vs ← fn.results.mapM (aqC tmps)
   pure (if h:vs.size=1 then vs[0] else .tuple vs)):=by
  unfold results
  congr 1
 refine⟨vs,?_,h2⟩
 have hm:fn.results.mapM (aqC tmps)=Functor.map List.toArray (fn.results.toList.mapM (aqC tmps)):=by
  rw[← List.mapM_toArray]
 rw[aKV,hm]
 simp only[map_eq_pure_bind,bind_assoc,pure_bind,lF,h1,iZ,qi]
 rfl
end
end Go.Sx
/-
 SX: the next entry of a range over a map. No condition.
-/
namespace Go.Sx
open Go.RowKit
section
variable{P:Program}{ρ:Nat→Int}{w0:W0}{w:World}{μ:Mu}{G:Key→Option ah}{nx:Key}{orc:gD}{nt:Nat}{tm:T AV}{H:T ah}{ev:Operand→Value}
theorem amf(i:Nat):∀ (l:List Nat),au1 i l=l.contains i
 | []=>rfl
 |j ::l=>by
  simp only[au1,beqN_eq,amf i l,List.contains_cons]
  by_cases h:i=j
  ·subst h;simp
  ·have:(i==j)=false:=by simpa using h
   simp[h,this]
theorem Ly{seen:List Nat}:∀ {L:List (Nat×AV×AV)} {es:List MapEntry},gv ρ μ L es→gv ρ μ (Fx seen L) (es.filter fun e=>!seen.contains e.born)
 | [],[],_=>trivial
 |(s,k,a) ::l,e ::es,h=>by
  obtain⟨h0,h1,h2,h3⟩:=h
  subst h0
  simp only[Fx,amf,List.filter_cons]
  cases hc:seen.contains e.born with
  |true=>simp only[cond_true,Bool.not_true,Ow,if_false];exact Ly h3
  |false=>simp only[cond_false,Bool.not_false,if_true];exact⟨rfl,h1,h2,Ly h3⟩
 | [],_ ::_,h=>h.elim
 |(_,_,_) ::_,[],h=>h.elim
theorem Lz{n:Nat}:∀ {L:List (Nat×AV×AV)} {es:List MapEntry},gv ρ μ L es→HG n L=true→∀ e∈es,e.born<n
 | [],[],_,_,e,he=>by cases he
 |(s,k,a) ::l,e ::es,h,hu,x,hx=>by
  obtain⟨h0,h1,h2,h3⟩:=h
  simp only[HG,iE,bltN_eq,decide_eq_true_eq] at hu
  rcases JY.1 hx with rfl|hx
  ·omega
  ·exact Lz h3 hu.2 x hx
 | [],_ ::_,h,_,_,_=>h.elim
 |(_,_,_) ::_,[],h,_,_,_=>h.elim
theorem gv.get:∀ {L:List (Nat×AV×AV)} {es:List MapEntry} {t:Nat} {e:MapEntry},gv ρ μ L es→es[t]?=some e→∃ s k a,(s,k,a)∈L∧e.born=s∧aC ρ μ k e.key∧aC ρ μ a e.val
 | [],[],t,e,_,h=>by simp at h
 |(s,k,a) ::l,x ::es,t,e,hp,h=>by
  obtain⟨h0,h1,h2,h3⟩:=hp
  cases t with
  |zero=>simp at h;subst h;exact⟨s,k,a,by simp,h0,h1,h2⟩
  |succ t=>
   obtain⟨s',k',a',q,r⟩:=gv.get h3 (t:=t) (by simpa using h)
   exact⟨s',k',a',by simp[q],r⟩
 | [],_ ::_,_,_,h,_=>h.elim
 |(_,_,_) ::_,[],_,_,h,_=>h.elim
theorem P0{b m:Key}{n:Nat}{seen:List Nat}{s:Nat}{k v:AV}:∀ {L:List (Nat×AV×AV)},(s,k,v)∈L→(AV.tuple [.bool true,k,v],av b (some (.iter m n (seen ++ [s]))) H)∈TP b m n seen H L
 | [],h=>by cases h
 |(s',k',v') ::l,h=>by
  simp only[TP,sTCe]
  rcases JY.1 h with e|h
  ·cases e;simp
  ·exact List.mem_cons_of_mem _ (P0 h)
theorem TQ(ty:TypeId){r bm n:Nat}{seen:Array Nat}{es:Array MapEntry}(hi:w.heap[r]?=some (.mapIter (some bm) n seen n))(hb:w.heap[bm]?=some (.map es n))(hold:∀ x∈es.toList,x.born<n) :
  ((leftOf es seen).size=0∧(Instr.next (.pointer (some ⟨r,0,none⟩)) false ty).run P w=.ok (.tuple #[.bool false]) w)∨
  ∃ e∈(leftOf es seen).toList,∃ d:Nat,w.drawn≤d∧(Instr.next (.pointer (some ⟨r,0,none⟩)) false ty).run P w=.ok (.tuple #[.bool true,e.key,e.val]) {w with drawn:=d,heap:=w.heap.setIfInBounds r (.mapIter (some bm) n (seen.push e.born) n)}:=by
 simp only[Instr.next,getObj,lF,Sem.run,hi,hb,Result.andThen,next_test_false seen es n n hold (fe _),Ow,if_false]
 unfold leftOf
 have gq:∀ x∈(Array.filter (fun e=>!seen.contains e.born) es).toList,x.born<n:=fun x hx=>hold x (by simp at hx ⊢;exact hx.1)
 generalize Array.filter (fun e=>!seen.contains e.born) es=L at gq ⊢
 have e1:L.filter (fun x=>decide (x.born<n))=L:=Array.filter_eq_self.2 (fun x hx=>by simpa using gq x (by simpa using hx))
 have e2:L.filter (fun x=>decide (x.born≥n))=#[]:=by
  rw[Array.filter_eq_empty_iff]
  intro x hx
  have:=gq x (by simpa using hx)
  simp
  omega
 simp only[e1,e2,Array.append_empty]
 by_cases h0:L.size=0
 ·left
  have:L=#[]:=Array.eq_empty_of_size_eq_zero h0
  subst this
  refine⟨rfl,?_⟩
  simp[choose,Sem.run,Question.forced]
 ·right
  have bI:L.isEmpty=false:=by simp[Array.isEmpty,h0]
  simp only[bI,Ow,if_false,Array.empty_append,Array.size_map]
  have hch:∃ (j d:Nat),j<L.size∧w.drawn≤d∧(choose (Question.mapNext L.size)).run P w=.ok j {w with drawn:=d}:=by
   by_cases hf:L.size≤1
   ·exact⟨0,w.drawn,by omega,fe _,by simp[choose,Sem.run,Question.forced,hf]⟩
   ·exact⟨_,w.drawn+1,Nat.mod_lt _ (by omega),Nat.le_succ _,by
     simp only[choose,Sem.run,Question.forced,decide_eq_true_eq,hf,if_false,Question.cut]
     rfl⟩
  obtain⟨j,d,hj,hd,ch⟩:=hch
  refine⟨L[j],by simp,d,hd,?_⟩
  simp only[ch,Result.andThen]
  have mI:(L.map some)[j]?=some (some L[j]):=by simp[hj]
  simp only[mI]
  simp[setObj,Sem.run,hi,Result.andThen]
theorem apm(hM:aP P ρ w0 μ G nx.toNat w)(hH:HSub H G){o:Oper}{op:Fa}(hp:gi P nt o=some op)(hE:sY P ρ μ nt o.op.operands.toList tm ev){alts:List (AV×T ah)}(h:aOp orc op tm H nx=.alt alts) :
  ∃ a H' v w' μ' G',(a,H')∈alts∧(Go.execOp ev o).run P w=.ok (.value v) w'∧aC ρ μ' a v∧μ.le μ'∧aP P ρ w0 μ' G' nx.toNat w'∧HSub H' G'∧Kept H H' nx nx μ μ' G G':=by
 have he:=CP h (by rintro(⟨_,_,_,e⟩|⟨_,e⟩)<;>cases e)
 obtain⟨dst,tC,ty,pos,after,guard⟩:=o
 cases op<;>first|(cases he;done)|skip
 ·rename_i px
  obtain⟨x,e0,hx⟩:=dY hp
  simp only at e0
  subst e0
  simp only[aOp] at h
  split at h
  ·rename_i b hb
   split at h
   ·rename_i m n seen hit
    split at h
    ·rename_i L c dQ
     cases vj:(Nat.beq c n&&HG n L) with
     |false=>rw[vj] at h;cases h
     |true=>
      rw[vj] at h
      simp only[cond_true] at h
      simp only[iE] at vj
      obtain⟨hcn,hun⟩:=vj
      have hcn:=ml hcn
      subst hcn
      have hv:=hE x (by simp[Op.operands]) px _ hx hb
      generalize hU:ev x=xx at hv
      cases hv with|ptr _ _ l a ig ha=>
      subst ha
      have hg:=hH _ _ hit
      obtain⟨l',o',h1,h2,h3⟩:=hM.nM b _ hg
      rw[ig] at h1;cases h1
      cases h3 with|iter _ _ _ _ lm sa Oh hsa hzero=>
      obtain⟨B,l2,es,hB,k1,k2,dA,aLU,aPD⟩:=yD hM hH dQ
      rw[Oh] at k1;cases k1
      subst hsa
      have axB:(⟨l.c,l.base+0,none⟩:Addr)=⟨l.c,l.base,none⟩:=rfl
      have nP:w0.heap.size≤l.c:=(hM.own b _ l hg ig).resolve_left (by simp[ah.ro])
      have Hy:l.c<w.heap.size:=hM.wb b l ig
      have hex:∀ v w',(Instr.next (ev x) false ty).run P w=.ok v w'→(Go.execOp ev ⟨dst,.next x false,ty,pos,after,guard⟩).run P w=.ok (.value v) w':=fun v w' hr=>cP hr
      have TR:=Ly (seen:=sa.toList) dA
      have u6:(leftOf es sa).toList=es.toList.filter fun e=>!sa.toList.contains e.born:=by
       simp[leftOf]
      rw[← u6] at TR
      rcases TQ (P:=P) (w:=w) ty h2 k2 (Lz dA hun) with⟨hz,hr⟩|⟨e,gq,d,hd,hr⟩
      ·have aGU:Fx sa.toList L=[]:=by
        have h0:(leftOf es sa).toList=[]:=by simpa using hz
        rw[h0] at TR
        cases hl:Fx sa.toList L with
        |nil=>rfl
        |cons y r=>rw[hl] at TR;obtain⟨_,_,_⟩:=y;exact TR.elim
       rw[aGU] at h
       simp only[OR.alt.injEq] at h
       subst h
       refine⟨.tuple [.bool false],H,.tuple #[.bool false],w,μ,G,by simp,hex _ _ (by rw[hU,hzero];exact hr),.tuple _ _ (.one (.bool _)),μ.le_refl,hM,hH,Kept.refl _ _ _ _⟩
      ·obtain⟨t,ht⟩:=List.getElem?_of_mem gq
       obtain⟨s,k,a,q1,q2,q3,q4⟩:=TR.get ht
       have hal:alts=TP b m c sa.toList H (Fx sa.toList L):=by
        cases hl:Fx sa.toList L with
        |nil=>rw[hl] at q1;cases q1
        |cons y r=>rw[hl] at h;simp only[OR.alt.injEq] at h;exact h.symm
       have hMd:=hM.drawn d hd
       have C4:μ.le (μ.put b l):=Mu.tM (.inr ig)
       obtain⟨g1,g2⟩:=hMd.put (w':={w with drawn:=d,heap:=w.heap.setIfInBounds l.c (.mapIter (some lm.c) c (sa.push e.born) c)}) b (.iter m c (sa.toList ++ [s])) l (.mapIter (some lm.c) c (sa.push e.born) c) (.inr ig)
        ⟨rfl,rfl,rfl,by simp,fun j hj _=>by show(w.heap.setIfInBounds l.c _)[j]?=_;rw[zqn (Ne.symm hj)],fe _⟩
        (by show(w.heap.setIfInBounds l.c _)[l.c]?=_;simp[Hy]) (.iter m c _ l lm _ (C4.l _ _ Oh) (by simp[q2]) hzero) (fun b' B' l' g m' ne=>hM.sep b' b B' _ l' l g hg m' ig ne) nP (fe _) (hM.new b l ig) (hM.lo0 hg ig rfl)
       refine⟨.tuple [.bool true,k,a],av b (some (.iter m c (sa.toList ++ [s]))) H,.tuple #[.bool true,e.key,e.val],_,_,_,by rw[hal];exact P0 q1,hex _ _ (by rw[hU,hzero];exact hr),.tuple _ _ (.cons _ _ _ _ (.bool _) (.cons _ _ _ _ (q3.mono C4) (.one (q4.mono C4)))),g1,g2,hH.set b _,mn hit ig _ _⟩
    ·cases h
   ·cases h
  ·cases h
 all_goals (simp only[aOp] at h;repeat' (first|(cases h;done)|split at h))
end
end Go.Sx
/-
 SX: simulation: events, regions. No condition.
-/
namespace Go.Sx
open Go.RowKit
def Good(P:Program)(ρ:Nat→Int)(C:dm)(w0:W0)(μ0:Mu)(rest:List Frame)(m:Machine):SR→Prop
 |.next am'=>∃ ej yw w',Steps P m (lone ej (yw++rest) w')∧yz P ρ C.orc w0 μ0 am' ej yw w'
 |.alt l=>∃ am'∈l,∃ ej yw w',Steps P m (lone ej (yw++rest) w')∧yz P ρ C.orc w0 μ0 am' ej yw w'
 |.done f v h nx=>∃ ej w' μ G u,Steps P m (lone ej rest w')∧ej.fn=f∧ej.leaving P w' (.returned u)∧aC ρ μ v u∧μ0.le μ∧aP P ρ w0 μ G nx.toNat w'∧HSub h G
 |_=>True
section
variable{P:Program}{ρ:Nat→Int}{C:dm}{nt:Nat}{w0:W0}{w:World}{μ0 μ:Mu}{G:Key→Option ah}{H:T ah}{nx:Key}{rest cs:List Frame}{fr:Frame}{af:kU}{hN:List kU}{K:List Item}{k:List dn}
theorem Good.steps{m m':Machine}{r:SR}(h:Steps P m m')(g:Good P ρ C w0 μ0 rest m' r):Good P ρ C w0 μ0 rest m r:=by
 cases r with
 |next am'=>obtain⟨ej,yw,w',h1,h2⟩:=g;exact⟨ej,yw,w',h.trans h1,h2⟩
 |done f v hh nx=>obtain⟨ej,w',μ,G,u,h1,h2⟩:=g;exact⟨ej,w',μ,G,u,h.trans h1,h2⟩
 |alt l=>obtain⟨am',hm,ej,yw,w',h1,h2⟩:=g;exact⟨am',hm,ej,yw,w',h.trans h1,h2⟩
 |pan v hh nx=>trivial
 |bad n m=>trivial
theorem TH{fr ej:kU}{cs:List kU}{nx:Key}{v:AV}{h:T ah}(hf:bB v fr=some ej):∀ {l:List (AV×T ah)},(v,h)∈l→(⟨ej,cs,h,nx⟩:AM)∈ai5 fr cs nx l
 | [],hm=>by cases hm
 |(v',h') ::l,hm=>by
  simp only[ai5]
  rcases JY.1 hm with e|hm
  ·cases e;rw[hf];simp
  ·exact List.mem_cons_of_mem _ (TH hf hm)
theorem TJ{fr ej:kU}{v:AV}(hf:bB v fr=some ej)(u:AV):∃ Hx,bB u fr=some Hx:=by
 unfold bB at hf ⊢
 split at hf
 ·exact⟨_,by simp only[da];rfl⟩
 ·exact⟨_,by simp only[da];rfl⟩
 ·exact⟨_,rfl⟩
 ·cases hf
theorem wV.todo(h:wV P ρ μ nt af fr)(t:T AV)(k:List dn)(T:Array Value)(K:List Item):wV P ρ μ nt {af with tm:=t,todo:=k} {fr with tmps:=T,todo:=K}:=
 ⟨h.fn,h.fnr,h.dfs,h.kind,h.sy,h.rd⟩
theorem ard{af:kU}(h:kG P μ nt af.todo K):pk af=[]:=by
 unfold pk
 split
 ·rename_i i d p k' e
  rw[e] at h
  cases h with|cons _ _ _ _ h _=>cases h
 ·rfl
theorem axu:∀ {hN:List kU} {cs:List Frame},cT P ρ C.orc μ G H nx hN cs→∀ x∈bk hN,x<nx.toNat
 | [],[],_,x,hx=>by cases hx
 | [],_ ::_,h,_,_=>h.elim
 |_ ::_,[],h,_,_=>h.elim
 |a ::hN,f ::cs,h,x,hx=>by
  simp only[bk,List.mem_append] at hx
  rcases hx with hx|hx
  ·cases h.1 with
   |wait nt hb h1 h2 h=>
    unfold pk at hx
    split at hx
    ·rename_i i d p k' e
     rw[e] at h
     generalize f.todo=KK at h
     generalize f.tmps=TT at h
     generalize a.tm=tt at h
     cases h with
     |staged ops pl bf g i po ad os sA items gL aj k K tm tmps rest nR hf hc hL PW hd h Tw Eu S=>
      obtain⟨y,hy,e⟩:=zqv.1 hx
      rw[← e]
      exact(S.pe y hy).2.2.2.2
    ·cases hx
   |unw h hm=>
    cases h with
    |run nt hb h1=>exact absurd h1 hm
    |ret nt hb h1 h2 h3 h=>
     unfold pk at hx
     rcases h3 with h3|⟨k,h3⟩<;>rw[h3] at hx<;>cases hx
    |pan nt hb v u r h1 h2 hv h3 h=>
     unfold pk at hx
     rw[h3] at hx;cases hx
  ·exact axu h.2 x hx
theorem cT.kept{μ':Mu}{G':Key→Option ah}{H':T ah}{nx':Key}(hm:μ.le μ')(hk:Kept H H' nx nx' μ μ' G G')(h:cT P ρ C.orc μ G H nx hN cs):cT P ρ C.orc μ' G' H' nx' hN cs:=
 h.kN hm hk.n fun b _ hg hl=>⟨hk.m b hl,hk.g b hg hl,hk.h b hg hl⟩
theorem cT.axv{E:List Nat}{μ':Mu}{G':Key→Option ah}{H':T ah}{nx':Key}(hm:μ.le μ')(hk:zq E H H' nx nx' μ μ' G G')(hE:∀ x∈E,x∉bk hN)(h:cT P ρ C.orc μ G H nx hN cs):cT P ρ C.orc μ' G' H' nx' hN cs:=
 h.kN hm hk.n fun b hb hg hl=>hk.k b (fun he=>hE _ he hb) hg hl
theorem n8(h0:μ0.le μ)(hM:aP P ρ w0 μ G nx.toNat w)(hH:HSub H G)(hb:wV P ρ μ nt af fr)(h1:af.mode=.run)(h2:fr.mode=.run)(hk:kG P μ nt af.todo fr.todo)(hT:je ρ μ nt af.tm fr.tmps)
  (hS:cT P ρ C.orc μ G H nx hN cs) (hn:(bk hN).Nodup):yz P ρ C.orc w0 μ0 ⟨af,hN,H,nx⟩ fr cs w:=
 ⟨μ,G,h0,hM,hH,.run nt hb h1 h2 (.plain _ _ _ _ hk hT),hS,by simp[bk,ard hk,hn]⟩
theorem Sus.finish{c c':kU}{cf:Frame}(h:Sus P ρ C.orc μ G H nx c cf){a:AV}{v:Value}(hv:aC ρ μ a v)(hf:bB a c=some c'):Cur P ρ C.orc μ G H nx c' (cf.finish v)∧pk c'=pk c:=by
 cases h with
 |wait nt hb h1 h2 h=>
  obtain⟨h3,h4,⟨tm2,k2,h5⟩,⟨T2,K2,h6⟩⟩:=h.finish rfl rfl rfl rfl hv hf
  refine⟨?_,h4⟩
  rw[h6] at h3 ⊢
  subst h5
  exact .run nt (hb.todo _ _ _ _) h1 h2 h3
 |unw h hm=>
  cases h with
  |run nt hb h1=>exact absurd h1 hm
  |ret nt hb h1 h2 h3 h=>rcases h3 with h3|⟨k,h3⟩<;>simp[bB,h3] at hf
  |pan nt hb v u r h1 h2 hv h3 h=>simp[bB,h3] at hf
noncomputable def cj(raw:Bool)(l:List AV)(H:T ah):List AV×T ah:=bif raw then(l,H) else cn (aY 9999) l H
theorem wW{R:Type}(raw:Bool)(l:List AV)(H:T ah)(c:List AV→T ah→R):arf raw l H c=c (cj raw l H).1 (cj raw l H).2:=by
 cases raw
 ·show HE (frz 9999) l H c=_
  rw[sX (Bq 9999)];rfl
 ·rfl
theorem Fq(raw:Bool)(hM:aP P ρ w0 μ G nx.toNat w)(hH:HSub H G){l:List AV}{us:List Value}(h:al ρ μ l us):∃ μ' G',gC P ρ w0 w nx μ G H μ' G' (cj raw l H).2∧al ρ μ' (cj raw l H).1 us:=by
 cases raw
 ·exact mg (yA 9999) l us μ G H hM hH h
 ·exact⟨μ,G,gC.refl hM hH,h⟩
theorem Br(X:Ctx P ρ w0 C)(f:Nat)(args:List AV)(Bs:Bool)(bad:SR)(c:kU→SR):Ew C f args Bs bad c=bad∨
  ∃ p,iI P f=some p∧Ew C f args Bs bad c=c {fn:=f,tm:=gI args .z .nil,todo:=[.code p.body],dfs:=[],mode:=.run,Bs,sy:=none,res:=p.res}:=by
 unfold Ew
 split
 ·rename_i p hp
  exact .inr ⟨p,X.fns f p hp,by rw[Ey]⟩
 ·exact .inl rfl
theorem apj{l:Nat}{L:Loop}{args:Array Value}(h:w.heap[l]?=some (.loop L))(hs:args.size=L.params.size) :
  (Instr.yield l args).run P w=.ok (.round l L.fn ((L.params.zip args).foldl (fun tmps (x:Nat×Value)=>tmps.setIfInBounds x.1 x.2) L.tmps) L.assign L.body) w:=by
 simp[Instr.yield,Instr.getLoop,getObj,Sem.run,h,hs]
theorem Ft(hM:aP P ρ w0 μ G nx.toNat w){b:Key}{st:LS}{pd:Option aG}{fn:Nat}{tm:T AV}{res:List RV}{params:List Key}{as bd:aG}{dfs:Key}(hb:G b=some (.loop st pd fn tm res params as bd dfs)) :
  ∃ l L nt ld,μ b=some l∧w.heap[l.c]?=some (.loop L)∧amb st L.state∧(∀ n,PY P n pd L.pending)∧L.fn=fn∧je ρ μ nt tm L.tmps∧Rf params L.params.toList∧(∀ k∈params,k.toNat<nt)∧arh P nt as L.assign∧arh P nt bd L.body∧μ dfs=some ld∧L.defers=ld.c∧ari P fn nt res:=by
 obtain⟨l,o,h1,h2,h3⟩:=hM.nM b _ hb
 cases h3 with
 |loop st pd fn nt tm res params as bd dfs ld l L e1 e2 e3 e4 e5 e5' e6 e7 e8 e9 e10=>exact⟨l,L,nt,ld,h1,h2,e1,e2,e3,e4,e5,e5',e6,e7,e8,e9,e10⟩
theorem Ls(X:Ctx P ρ w0 C){ops:Array Oper}{i:Nat}{jj:List Nat}{o:Oper}{po:J}{r:OR}{tm2:T AV}(h0:μ0.le μ)(hM:aP P ρ w0 μ G nx.toNat w)(hH:HSub H G)(hb:wV P ρ μ nt af fr)(h1:af.mode=.run)(hm:fr.mode=.run)
  (ht:fr.todo=.inRegion ops (i ::jj) ::K) (ho:ops[i]?=some o) (Rg:IS P nt ops o=some po) (hw:Region.wanted o (yielded ops fr.tmps)=true)
  (hE:sY P ρ μ nt o.op.operands.toList af.tm fr.eval) (ha:aOp C.orc po.op af.tm H nx=r) (hr:¬ yB r)
  (hW:Fu P ρ C.orc μ G H nx nt af.todo af.tm fr.todo fr.tmps) (hS:cT P ρ C.orc μ G H nx hN cs) (hn:(bk (af ::hN)).Nodup) (hT2:je ρ μ nt tm2 fr.tmps) :
  Good P ρ C w0 μ0 rest (lone fr (cs++rest) w) (fG C r af {af with tm:=tm2,todo:=[]} hN H nx):=by
 obtain⟨jx,Rh,yC⟩:=gp Rg
 have apk:Sus P ρ C.orc μ G H nx af fr:=.wait nt hb h1 hm hW
 have TK:(bk hN).Nodup:=(List.nodup_append.1 hn).2.1
 cases r with
 |val a H' nx'=>exact absurd (kO _ _ _) hr
 |bad n=>exact absurd (bJ _) hr
 |call f l=>
  have Dn:fr.roundOf=none∨dP o.op=false:=.inr (tA jx (by rw[ha];intro f l e;cases e) (by rw[ha];intro n e;cases e))
  simp only[fG,wW]
  have key : ∀ {fn : Func}, P.funcs[f]? = some fn → fn.body.isSome = true → fn.name ≠ "runtime.NumGoroutine" → ∃ args μ1 G1, step P (lone fr (cs ++ rest) w) = .next (lone (Frame.enter P f args .normal) (fr :: cs ++ rest) w) ∧
    gC P ρ w0 w nx μ G H μ1 G1 (cj (C.raw f) l H).2∧al ρ μ1 (cj (C.raw f) l H).1 args.toList:=by
   intro fn f1 f2 f3
   obtain⟨args,q1,q2⟩:=ai7 (w:=w) jx hE ha f1 f2 f3
   obtain⟨μ1,G1,x1,x2⟩:=Fq (C.raw f) hM hH q2
   exact⟨args,μ1,G1,arj (P:=P) (cs:=cs++rest) hm ht ho hw Dn q1,x1,x2⟩
  generalize cj (C.raw f) l H=lh at key
  obtain⟨l1,H1⟩:=lh
  simp only at key ⊢
  split
  ·rename_i v H2 aI ark
   split
   ·rename_i af' hf
    have hso:=X.sum f l1 H1 nx v H2 aI ark
    obtain⟨fn,f1,f2,f3⟩:=X.has f l1 H1 nx _ ark
    obtain⟨args,μ1,G1,dQ,x1,x2⟩:=key f1 f2 f3
    obtain⟨e,w',ej,⟨u,μ',G',rfl,y2,y3,y4,y5,y6⟩,ayP,hfn,ayR⟩:=hso args w μ1 G1 x1.M x1.hs x2 (fr ::cs++rest)
    have hS1:cT P ρ C.orc μ1 G1 H1 nx (af ::hN) (fr ::cs):=cT.kept x1.le x1.kept ⟨apk,hS⟩
    have hS2:cT P ρ C.orc μ' G' H2 aI (af ::hN) (fr ::cs):=cT.kept y3 y6 hS1
    obtain⟨Lt,hpk⟩:=hS2.1.finish y2 hf
    refine⟨_,cs,w',Steps.trans (.head dQ ayP) (.one (step_leave_returned ayR)),μ',G',Mu.le_trans h0 (Mu.le_trans x1.le y3),y4,y5,Lt,hS2.2,?_⟩
    show(bk (af' ::hN)).Nodup
    simp only[bk,hpk] at hn ⊢
    exact hn
   ·trivial
  ·rcases Br X f l1 false (.bad 40 ⟨af,hN,H1,nx⟩) (fun ej=>.next ⟨ej,af ::hN,H1,nx⟩) with e|⟨p,hp,e⟩
   ·rw[e];trivial
   ·rw[e]
    obtain⟨fn,c,f1,f2,f3,f4,f5⟩:=wX hp
    obtain⟨args,μ1,G1,dQ,x1,x2⟩:=key f1 (by rw[f2];rfl) f3
    refine⟨_,fr ::cs,w,.one dQ,μ1,G1,Mu.le_trans h0 x1.le,x1.M,x1.hs,tB hp x2 false,cT.kept x1.le x1.kept ⟨apk,hS⟩,?_⟩
    show(bk (_ ::af ::hN)).Nodup
    simp only[bk,pk,List.nil_append]
    exact hn
 |yld key l=>
  have Dn:fr.roundOf=none∨dP o.op=false:=.inr (tA jx (by rw[ha];intro f l e;cases e) (by rw[ha];intro n e;cases e))
  simp only[fG]
  split
  ·rename_i st pd fn tm res params as bd dfs hk
   rcases PZ params l tm (SR.bad 41 ⟨af,hN,H,nx⟩) (fun tm=>.next ⟨{fn,tm,todo:=[.code as,.beginRound,.code bd],dfs:=[],mode:=.run,Bs:=false,sy:=some key,res},af ::hN,H,nx⟩) with e|⟨hlen,e⟩
   ·rw[e];trivial
   ·rw[e]
    obtain⟨args,lc,q1,q2,q3⟩:=apl (w:=w) jx hE ha
    obtain⟨lc',L,ntl,ld,e0,Lu,e1,e2,e3,e4,e5,e5',e6,e7,e8,e9,e10⟩:=Ft hM (hH _ _ hk)
    rw[q1] at e0;cases e0
    have tL:args.size=L.params.size:=by
     have a1:=q3.length
     have a2:(params.map Key.toNat).length=L.params.toList.length:=by rw[e5]
     simp at a1 a2
     omega
    rw[apj Lu tL] at q2
    have dQ:=arl (P:=P) (cs:=cs++rest) hm ht ho hw Dn q2
    refine⟨_,fr ::cs,w,.one dQ,μ,G,h0,hM,hH,?_,⟨apk,hS⟩,?_⟩
    ·refine .run ntl ⟨e3,e10,trivial,rfl,⟨_,q1,rfl⟩,fun _=>rfl⟩ rfl rfl (.plain _ _ _ _ (.cons _ _ _ _ (.code _ _ e6) (.cons _ _ _ _ .beginRound (.cons _ _ _ _ (.code _ _ e7) .nil))) ?_)
     have:=TL (ks:=params) e5' hlen q3 e4
     have hl:(L.params.zip args).foldl (fun tmps (x:Nat×Value)=>tmps.setIfInBounds x.1 x.2) L.tmps=((params.map Key.toNat).zip args.toList).foldl (fun tmps (x:Nat×Value)=>tmps.setIfInBounds x.1 x.2) L.tmps:=by
      rw[e5,← Array.foldl_toList,Array.toList_zip]
     show je ρ μ ntl (au0 params l tm) ((L.params.zip args).foldl (fun tmps (x:Nat×Value)=>tmps.setIfInBounds x.1 x.2) L.tmps)
     rw[hl];exact this
    ·show(bk (_ ::af ::hN)).Nodup
     simp only[bk,pk,List.nil_append]
     exact hn
  ·trivial
 |alt la=>
  have Dn:fr.roundOf=none∨dP o.op=false:=.inr (tA jx (by rw[ha];intro f l e;cases e) (by rw[ha];intro n e;cases e))
  simp only[fG]
  split
  ·trivial
  ·rename_i fr0 hf0
   obtain⟨a,H',v,w',μ',G',gq,q1,q2,q3,q4,q5,q6⟩:=apm (w:=w) hM hH jx hE ha
   obtain⟨fr1,hf1⟩:=TJ hf0 a
   have dQ:=Lw (P:=P) (cs:=cs++rest) hm ht ho hw Dn q1
   have hS1:cT P ρ C.orc μ' G' H' nx (af ::hN) (fr ::cs):=cT.kept q3 q6 ⟨apk,hS⟩
   obtain⟨Lt,hpk⟩:=hS1.1.finish q2 hf1
   refine⟨⟨fr1,hN,H',nx⟩,TH hf1 gq,_,cs,w',.one dQ,μ',G',Mu.le_trans h0 q3,q4,q5,Lt,hS1.2,?_⟩
   show(bk (fr1 ::hN)).Nodup
   simp only[bk,hpk] at hn ⊢
   exact hn
 |pan a=>
  have Dn:fr.roundOf=none∨dP o.op=false:=.inr (tA jx (by rw[ha];intro f l e;cases e) (by rw[ha];intro n e;cases e))
  obtain⟨v,q1,q2⟩:=apn (w:=w) jx hE ha
  have dQ:=arn (P:=P) (cs:=cs++rest) hm ht ho hw Dn q1
  refine⟨_,cs,w,.one dQ,μ,G,h0,hM,hH,?_,hS,?_⟩
  ·exact .pan nt ⟨hb.fn,hb.fnr,hb.dfs,hb.kind,hb.sy,hb.rd⟩ a v false rfl rfl q2 rfl hT2
  ·show(bk (_ ::hN)).Nodup
   simp only[bk,pk,List.nil_append]
   exact TK
 |dfr f l=>
  simp only[fG]
  split
  ·rename_i hrn
   split
   ·rename_i af' hf
    obtain⟨c,ws,vs,q0,q1,q2,q3⟩:=apo (w:=w) jx hE ha
    have Fv:fr.roundOf=none:=by
     have:=hb.sy
     rw[hrn] at this
     cases hh:fr.roundOf with
     |none=>rfl
     |some x=>rw[hh] at this;exact this.elim
    have dQ:=arp (P:=P) (cs:=cs++rest) hm ht ho hw (.inl Fv) q2
    obtain⟨h3,h4,⟨t2,k2,h5⟩,⟨T2,K2,h6⟩⟩:=hW.finish (fr:=fr) rfl rfl rfl rfl (aC.tuple (ρ:=ρ) (μ:=μ) [] #[] .nil) hf
    have JZ:({fr with defers:=⟨.fn (.func f) ws,vs⟩ ::fr.defers}:Frame).finish undef={fr with defers:=⟨.fn (.func f) ws,vs⟩ ::fr.defers,tmps:=T2,todo:=K2}:=by
     have hf1:=cr ht ho undef
     have hf2:=cr (fr:={fr with defers:=⟨.fn (.func f) ws,vs⟩ ::fr.defers}) ht ho undef
     rw[hf2]
     have h6:fr.finish undef={fr with tmps:=T2,todo:=K2}:=h6
     rw[hf1] at h6
     have e1:=congrArg Frame.tmps h6
     have e2:=congrArg Frame.todo h6
     simp only at e1 e2
     rw[e1,e2]
    rw[JZ] at dQ
    have h3:TN P ρ C.orc μ G H nx nt af'.todo af'.tm (fr.finish undef).todo (fr.finish undef).tmps:=h3
    have h6:fr.finish undef={fr with tmps:=T2,todo:=K2}:=h6
    rw[h6] at h3
    refine⟨_,cs,w,.one dQ,μ,G,h0,hM,hH,?_,hS,?_⟩
    ·subst h5
     exact .run nt ⟨hb.fn,hb.fnr,⟨⟨ws,rfl,q3⟩,hb.dfs⟩,hb.kind,hb.sy,hb.rd⟩ h1 hm h3
    ·have:pk {af' with dfs:=ai8.fn f l ::af'.dfs}=pk af:=by rw[← h4];rfl
     show(bk (_ ::hN)).Nodup
     simp only[bk,this]
     exact hn
   ·trivial
  ·trivial
 |recover=>
  simp only[fG]
  split
  ·rename_i c aCP hrn hdf
   have Fv:fr.roundOf=none:=by
    have:=hb.sy
    rw[hrn] at this
    cases hh:fr.roundOf with
    |none=>rfl
    |some x=>rw[hh] at this;exact this.elim
   have hkd:fr.kind=.deferred:=by rw[hb.kind,hdf];rfl
   have q1:=Ot (P:=P) (w:=w) (ev:=fr.eval) jx ha
   cases cs with
   |nil=>exact hS.elim
   |cons cf yw=>
   split
   ·rename_i v J0
    split
    ·rename_i af' hf
     cases hS.1 with
     |wait K1 fb pT=>rw[pT] at J0;cases J0
     |unw Ou bI=>
      cases Ou with
      |run K1 fb pT=>rw[pT] at J0;cases J0
      |ret K1 fb pT=>rw[pT] at J0;cases J0
      |pan K1 fb v' u r' pT PU Ri PV hT'=>
       rw[pT] at J0
       simp only[arq.pan.injEq] at J0
       obtain⟨rfl,rfl⟩:=J0
       have ai9:tryRecover fr (cf ::(yw++rest))=some (u,{cf with mode:=.panicking [{v:=u,recovered:=true}]} ::(yw++rest)):=by
        simp[tryRecover,hkd,PU]
       have dQ:=J1 (P:=P) (cs:=cf ::(yw++rest)) hm ht ho hw Fv q1 ai9
       obtain⟨Lt,hpk⟩:=apk.finish Ri hf
       refine⟨_,{cf with mode:=.panicking [{v:=u,recovered:=true}]} ::yw,w,.one dQ,μ,G,h0,hM,hH,Lt,⟨.unw (.pan K1 ⟨fb.fn,fb.fnr,fb.dfs,fb.kind,fb.sy,fb.rd⟩ v' u true rfl rfl Ri PV hT') (by intro e;cases e),hS.2⟩,?_⟩
       show(bk (_ ::_ ::aCP)).Nodup
       simp only[bk,hpk] at hn ⊢
       exact hn
    ·trivial
   ·rename_i J0
    split
    ·rename_i af' hf
     cases hS.1 with
     |wait K1 fb pT=>rw[pT] at J0;cases J0
     |unw Ou bI=>
      have ai9:tryRecover fr (cf ::(yw++rest))=none:=by
       cases Ou with
       |run K1 fb pT=>rw[pT] at J0;cases J0
       |ret K1 fb pT PU=>simp[tryRecover,hkd,PU]
       |pan K1 fb v' u r' pT=>rw[pT] at J0;cases J0
      have dQ:=J2 (P:=P) (cs:=cf ::(yw++rest)) hm ht ho hw Fv q1 ai9
      obtain⟨Lt,hpk⟩:=apk.finish (.nili) hf
      refine⟨_,cf ::yw,w,.one dQ,μ,G,h0,hM,hH,Lt,hS,?_⟩
      show(bk (_ ::_ ::aCP)).Nodup
      simp only[bk,hpk] at hn ⊢
      exact hn
    ·trivial
   ·trivial
  ·trivial
theorem ars(X:Ctx P ρ w0 C){l:List J}(h0:μ0.le μ)(hM:aP P ρ w0 μ G nx.toNat w)(hH:HSub H G)(hb:wV P ρ μ nt af fr)(h1:af.mode=.run)(hm:fr.mode=.run)
  {ops:Array Oper} {rs:List Nat} (hp:kK P nt ops rs=some l) (ht:fr.todo=.inRegion ops rs ::K) (hk:kG P μ nt k K) (hT:je ρ μ nt af.tm fr.tmps) (hS:cT P ρ C.orc μ G H nx hN cs) (hn:(bk hN).Nodup) :
  Good P ρ C w0 μ0 rest (lone fr (cs++rest) w) (match ic C.orc l af.tm H nx with
   |.fin tm h nx=>.next ⟨{af with tm,todo:=k},hN,h,nx⟩
   |.ev r rest tm h nx=>fG C r {af with tm,todo:=.ops rest ::k} {af with tm,todo:=[]} hN h nx):=by
 have key:=Fw (P:=P) (ρ:=ρ) (orc:=C.orc) (nt:=nt) (w0:=w0) (cs:=cs++rest) (K:=K) (ops:=ops) X.orc l rs fr w μ G H nx af.tm hp hM hH hT hm ht
 cases JX:ic C.orc l af.tm H nx with
 |fin an h' nx'=>
  rw[JX] at key
  obtain⟨dp,w',μ',G',s1,s2,s3,s4,s5,s6⟩:=key
  exact⟨_,cs,w',s1,n8 (Mu.le_trans h0 s2) s3 s4 ((hb.mono s2).todo _ _ _ _) h1 hm (hk.mono s2) s5 (hS.kept s2 s6) hn⟩
 |ev r l' an h' nx'=>
  rw[JX] at key
  rcases key with⟨n,rfl⟩|⟨dp,w',μ',G',i,jj,po,ll,o,s1,s2,s3,s4,s5,s6,rfl,s8,s9,s10,s11,s12,s13⟩
  ·trivial
  ·have hE:=CO (P:=P) (nt:=nt) (ops:=ops) (o:=o) (fr:={fr with tmps:=dp,todo:=.inRegion ops (i ::jj) ::K}) s3 (fun k a _ hg=>s5.2 k a hg)
   refine Good.steps s1 ?_
   have hpk:(bk ({af with tm:=an,todo:=.ops (po ::ll) ::k} ::hN)).Nodup:=by
    simp only[bk,pk,List.nil_append];exact hn
   exact Ls (fr:={fr with tmps:=dp,todo:=.inRegion ops (i ::jj) ::K}) (af:={af with tm:=an,todo:=.ops (po ::ll) ::k}) X (Mu.le_trans h0 s2) s3 s4 ((hb.mono s2).todo _ _ _ _) h1 hm rfl s9 s10 s11 hE s12 s13
    (.ops po ll ops i jj k K an dp s8 (hk.mono s2) s5) (hS.kept s2 s6) hpk s5
theorem IV(X:Ctx P ρ w0 C){ops:Array Oper}{pl:List J}{bf:List Nat}{g:Gh}{sA:List IIt}{items:List aN}{gL:SD}{aj:List (Nat×Key×ah)}{rs:List Nat}(h0:μ0.le μ)(hM:aP P ρ w0 μ G nx.toNat w)(hH:HSub H G)(hb:wV P ρ μ nt af fr)(h1:af.mode=.run)(hm:fr.mode=.run)
  (hf:sA.mapM (Bh pl)=some items) (hc:wa ops pl bf g.L sA=true) (hd:HF ops gL.ds∧wU bf gL.hO=true) (ht:fr.todo=.inRegion ops rs ::K) (hk:kG P μ nt k K)
  (S:fc P ρ C.orc nt ops pl bf μ G H nx g (fun _=>False) aj af.tm fr.tmps rs) (hS:cT P ρ C.orc μ G H nx hN cs) (hn:(mH aj++bk hN).Nodup) :
  Good P ρ C w0 μ0 rest (lone fr (cs++rest) w) (match fP C.orc gL.hO items aj af.tm H nx with
   |.fin tm h nx=>.next ⟨{af with tm,todo:=k},hN,h,nx⟩
   |.ev r rest aj tm h nx=>Ez gL.ds tm fun an=>fG C r {af with tm,todo:=.staged rest gL aj ::k} {af with tm:=an,todo:=[]} hN h nx):=by
 have key:=TO (P:=P) (ρ:=ρ) (orc:=C.orc) (nt:=nt) (w0:=w0) (cs:=cs++rest) (K:=K) (ops:=ops) (pl:=pl) (bf:=bf) hd.2 X.orc sA.length sA items rs g fr w μ G H nx af.tm aj (fe _) hf hc hM hH S hm ht
 have ayU:∀ x∈mH aj,x∉bk hN:=fun x hx Og=>(List.nodup_append.1 hn).2.2 x hx x Og rfl
 have TK:=(List.nodup_append.1 hn).2.1
 cases JX:fP C.orc gL.hO items aj af.tm H nx with
 |fin an h' nx'=>
  rw[JX] at key
  obtain⟨dp,w',μ',G',s1,s2,s3,s4,s5,s6⟩:=key
  exact⟨_,cs,w',s1,n8 (Mu.le_trans h0 s2) s3 s4 ((hb.mono s2).todo _ _ _ _) h1 hm (hk.mono s2) s5 (hS.axv s2 s6 ayU) TK⟩
 |ev r EA pend' an h' nx'=>
  rw[JX] at key
  simp only[mh]
  rcases key with⟨n,rfl⟩|⟨dp,w',μ',G',g',i,po,o,ad,os,Ov,jD,jj,s1,s2,s3,s4,rfl,s6,s7,s8,s9,s10,s11,s12,S',s14,s15,s16,s17,s18,s19,s20⟩
  ·trivial
  ·have hsl:=S'.Lx s9 s10 s14
   have hE:=CO (P:=P) (nt:=nt) (ops:=ops) (o:=o) (fr:={fr with tmps:=dp,todo:=.inRegion ops (i ::jj) ::K}) s3 hsl
   refine Good.steps s1 ?_
   have hpk:(bk ({af with tm:=an,todo:=.staged (.H i po ad ::.R os ::jD) gL pend' ::k} ::hN)).Nodup:=by
    simp only[bk,pk]
    refine List.nodup_append.2 ⟨S'.nk,TK,?_⟩
    rintro x hx y hy rfl
    rcases s20 x hx with h|h
    ·exact ayU x h hy
    ·exact absurd (axu hS x hy) (by omega)
   exact Ls (fr:={fr with tmps:=dp,todo:=.inRegion ops (i ::jj) ::K}) (af:={af with tm:=an,todo:=.staged (.H i po ad ::.R os ::jD) gL pend' ::k}) X (Mu.le_trans h0 s2) s3 s4 ((hb.mono s2).todo _ _ _ _) h1 hm rfl s14 s15 s16 hE s17 s18
    (.staged ops pl bf g' i po ad os Ov jD gL pend' k K an dp jj s6 s7 s8 s9 s10 hd (hk.mono s2) s11 s12 S') (hS.axv s2 s19 ayU) hpk (S'.erase hd.1)
end
end Go.Sx
/-
 SX: simulation: one step of the machine, and its whole run. No condition.
-/
namespace Go.Sx
open Go.RowKit
section
variable{P:Program}{nt:Nat}{ops:Array Oper}
theorem aqM{pl:List J}{x:IIt}{y:aN}(h:Bh pl x=some y):iOf y=x:=by
 cases x with
 |L i=>obtain⟨a,_,rfl⟩:=map_some h;rfl
 |A i=>obtain⟨a,_,rfl⟩:=map_some h;rfl
 |H i l=>obtain⟨a,_,rfl⟩:=map_some h;rfl
 |R os=>
  obtain⟨l,hl,rfl⟩:=map_some h
  show IIt.R (l.map (·.1))=IIt.R os
  congr 1
  induction os generalizing l with
  |nil=>simp at hl;subst hl;rfl
  |cons i os ih=>
   obtain⟨b,r,e1,e2,rfl⟩:=gZ hl
   obtain⟨o,_,rfl⟩:=map_some e1
   simp[ih r e2 (by simp[Bh,e2])]
theorem aiK{pl:List J}:∀ {sA:List IIt} {items:List aN},sA.mapM (Bh pl)=some items→items.map iOf=sA
 | [],items,h=>by simp at h;subst h;rfl
 |x ::sA,items,h=>by
  obtain⟨y,r,e1,e2,rfl⟩:=gZ h
  simp[aqM e1,aiK e2]
theorem Oc:∀ {pl:List J} {po:J} {d:Key},po∈pl→po.dst=some d→d∈dstsOf pl
 | [],_,_,h,_=>by cases h
 |o ::l,po,d,h,hd=>by
  rcases JY.1 h with e|e
  ·subst e;simp[dstsOf,hd]
  ·have:=Oc e hd
   simp only[dstsOf]
   split
   ·exact List.mem_cons_of_mem _ this
   ·exact this
theorem PO{pc:aG}(h:Fk P nt ops false=some pc):∃ l,kK P nt ops (List.range ops.size)=some l∧pc=.ops l:=by
 unfold Fk at h
 split at h
 ·cases h
 ·rename_i l hl
  simp only[cond_false,cS] at h
  exact⟨l,hl,h.symm⟩
theorem Tr{pc:aG}(h:Fk P nt ops true=some pc):∃ pl sA items hO,pc=.staged items ⟨dstsOf pl,hO⟩∧P1 P nt ops pl (mG ops)∧sA.mapM (Bh pl)=some items∧wa ops pl (mG ops) 0 sA=true∧HF ops (dstsOf pl)∧wU (mG ops) hO=true:=by
 unfold Fk at h
 split at h
 ·cases h
 ·rename_i l hl
  simp only[cond_true] at h
  split at h
  ·rename_i st dQ
   split at h
   ·rename_i st' axd
    cases mM:(ayO ops l (mG ops) (st'.map iOf)&&wU (mG ops) (CN (l.zip (mG ops)) (l.zip (mG ops)) 0)) with
    |false=>rw[mM] at h;cases h
    |true=>
     rw[mM] at h
     simp only[cond_true,cS] at h
     simp only[ayO,iE] at mM
     obtain⟨mM,aiH⟩:=mM
     have auo:P1 P nt ops l (mG ops):=⟨hl,mM.1.1,mM.1.2⟩
     refine⟨l,st'.map iOf,st',_,h.symm,auo,by rw[aiK axd];exact axd,mM.2,?_,aiH⟩
     intro j t hj
     obtain⟨o,po,ho,Rg,aLG⟩:=auo.at (Il hj)
     obtain⟨_,_,hd⟩:=gp Rg
     have hjd:o.dst=some t:=by simpa[kM,ho] using hj
     rcases hd with⟨e,_⟩|⟨k,e1,e2,_⟩
     ·rw[e] at hjd;cases hjd
     ·rw[hjd] at e1
      simp only[cS] at e1
      exact⟨k,Oc (List.mem_of_getElem? aLG) e2,e1.symm⟩
   ·cases h
  ·cases h
end
section
variable{P:Program}{ρ:Nat→Int}{C:dm}{nt:Nat}{w0:W0}{w:World}{μ0 μ:Mu}{G:Key→Option ah}{H:T ah}{nx:Key}{rest cs:List Frame}{fr:Frame}{af:kU}{hN:List kU}{K:List Item}{k:List dn}
theorem fc.init{ops:Array Oper}{pl:List J}{bf:List Nat}(R:P1 P nt ops pl bf){tm:T AV}{tmps:Array Value}(hT:je ρ μ nt tm tmps){rs:List Nat}(hv:KJ ops (fun _=>false) rs) :
  fc P ρ C.orc nt ops pl bf μ G H nx {L:=0,D:=fun _=>false,a0:=fun k=>aa k tm,val:=fun _=>none} (fun _=>False) [] tm tmps rs:=by
 refine⟨R,hv,?_,?_,?_,?_,?_,?_,hT.1,?_,?_,?_,?_,?_,?_⟩
 ·intro i o h;cases h
 ·intro i h;cases h
 ·intro i h;rw[show hasB 0 i=false from CQ i] at h;cases h
 ·intro i h;rw[show hasB 0 i=false from CQ i] at h;cases h
 ·intro k j h;rw[show hasB 0 j=false from CQ j] at h;cases h
 ·intro k _;rfl
 ·intro k j a h;cases h
 ·intro k a _ h;exact hT.2 k a h
 ·intro i h;rw[show hasB 0 i=false from CQ i] at h;cases h
 ·intro x h;cases h
 ·exact List.nodup_nil
 ·exact List.nodup_nil
theorem Ts(hM:aP P ρ w0 μ G nx.toNat w){x:Operand}{px:PX}{a:AV}(hp:pX P nt x=some px)(ha:px.at af.tm=some a)(hT:je ρ μ nt af.tm fr.tmps):aC ρ μ a (fr.eval x):=
 apb hM hp ha fun t k _ hk hg=>by rw[← hk];exact hT.2 k a hg
theorem MT(hM:aP P ρ w0 μ G nx.toNat w)(hH:HSub H G){b:Key}{st st':LS}{pd pd':Option aG}{fn:Nat}{tm:T AV}{res:List RV}{params:List Key}{as bd:aG}{dfs:Key}(hb:aa b H=some (.loop st pd fn tm res params as bd dfs))
  {l:Loc} (hl:μ b=some l) {L:Loop} (hL:w.heap[l.c]?=some (.loop L)) {s:LoopState} {pc:Option Code} (hs:amb st' s) (hpd:(∀ n,PY P n pd L.pending)→∀ n,PY P n pd' pc) :
  let w':={w with heap:=w.heap.setIfInBounds l.c (.loop {L with state:=s,pending:=pc})}
  let B':=ah.loop st' pd' fn tm res params as bd dfs
  ∃ μ' G',μ.le μ'∧aP P ρ w0 μ' G' nx.toNat w'∧HSub (av b (some B') H) G'∧Kept H (av b (some B') H) nx nx μ μ' G G':=by
 intro w' B'
 have hg:=hH _ _ hb
 obtain⟨l',L',ntl,ld,e0,Lu,e1,e2,e3,e4,e5,e5',e6,e7,e8,e9,e10⟩:=Ft hM hg
 rw[hl] at e0;cases e0
 rw[hL] at Lu;cases Lu
 have Hy:l.c<w.heap.size:=hM.wb b l hl
 have nP:w0.heap.size≤l.c:=(hM.own b _ l hg hl).resolve_left (by simp[ah.ro])
 have hle:μ.le (μ.put b l):=Mu.tM (.inr hl)
 obtain⟨m1,m2⟩:=hM.put (w':=w') b B' l (.loop {L with state:=s,pending:=pc}) (nx':=nx.toNat) (.inr hl)
  ⟨rfl,rfl,rfl,by simp[w'],fun j hj _=>by show(w.heap.setIfInBounds l.c _)[j]?=_;rw[zqn (Ne.symm hj)],fe _⟩
  (by show(w.heap.setIfInBounds l.c _)[l.c]?=_;simp[Hy])
  (.loop st' pd' fn ntl tm res params as bd dfs ld l _ hs (hpd e2) e3 (e4.mono hle) e5 e5' e6 e7 (hle.l _ _ e8) e9 e10)
  (fun b' B' l' g m' ne=>hM.sep b' b B' _ l' l g hg m' hl ne) nP (fe _) (hM.new b l hl) (hM.lo0 hg hl rfl)
 exact⟨_,_,m1,m2,hH.set b (some B'),mn hb hl _ _⟩
inductive axm(P:Program)(nt:Nat)(fr:Frame):Option aG→Option Code→Prop
 |fin (h:fr.todo=[]):axm P nt fr none none
 |ret (K:List Item) (h:fr.todo=.code .ret ::K):axm P nt fr (some .ret) (some .ret)
 |exit (id:Nat) (K:List Item) (h:fr.todo=.code (.exit id) ::K) (he:exitTo id K=none):axm P nt fr (some (.exit id)) (some (.exit id))
theorem Tt{l:Nat}{L:Loop}(h:w.heap[l]?=some (.loop L))(j:Option Code):(Instr.endRound l j).run P w=.ok (.bool j.isNone) {w with heap:=w.heap.setIfInBounds l (.loop {L with state:=if j.isNone then .ready else .done,pending:=j})}:=by
 simp[Instr.endRound,Instr.getLoop,getObj,setObj,Sem.run,h]
theorem MU{l:Nat}{L:Loop}(h:w.heap[l]?=some (.loop L))(hs:L.state=.ready):(Instr.beginRound l).run P w=.ok () {w with heap:=w.heap.setIfInBounds l (.loop {L with state:=.busy,pending:=L.pending})}:=by
 simp[Instr.beginRound,Instr.getLoop,getObj,setObj,Sem.run,h,hs]
theorem Uz{l:Nat}{L:Loop}(h:w.heap[l]?=some (.loop L))(hs:L.state≠.busy):(Instr.endLoop l).run P w=.ok L.pending {w with heap:=w.heap.setIfInBounds l (.loop {L with state:=.exhausted,pending:=L.pending})}:=by
 simp[Instr.endLoop,Instr.getLoop,getObj,setObj,Sem.run,h,hs]
theorem ER(X:Ctx P ρ w0 C){j:Option aG}{jc:Option Code}(hj:axm P nt fr j jc)(h0:μ0.le μ)(hM:aP P ρ w0 μ G nx.toNat w)(hH:HSub H G)(hb:wV P ρ μ nt af fr)(h1:af.mode=.run)(hm:fr.mode=.run)
  (hk:af.todo=[]∨(∃ k,af.todo=.code .ret ::k)∨∃ id k,af.todo=.code (.exit id) ::k) (hjr:j=some .ret→∃ k,af.todo=.code .ret ::k) (hjn:j=none→af.todo=[]) (hT:je ρ μ nt af.tm fr.tmps) (hS:cT P ρ C.orc μ G H nx hN cs) (hn:(bk hN).Nodup) :
  Good P ρ C w0 μ0 rest (lone fr (cs++rest) w) (EF j af hN H nx):=by
 unfold EF
 split
 ·rename_i hrn
  have Fv:fr.roundOf=none:=by
   have:=hb.sy
   rw[hrn] at this
   cases hh:fr.roundOf with
   |none=>rfl
   |some x=>rw[hh] at this;exact this.elim
  cases hj with
  |fin ht=>
   refine⟨_,cs,w,.one (aAM hm ht Fv),μ,G,h0,hM,hH,.ret nt ⟨hb.fn,hb.fnr,hb.dfs,hb.kind,hb.sy,hb.rd⟩ rfl rfl (.inl (hjn rfl)) hT,hS,?_⟩
   show(bk (_ ::hN)).Nodup
   simp only[bk,pk,hjn rfl,List.nil_append];exact hn
  |ret KK ht=>
   obtain⟨kk,qq⟩:=hjr rfl
   refine⟨_,cs,w,.one (aAN hm ht Fv),μ,G,h0,hM,hH,.ret nt ⟨hb.fn,hb.fnr,hb.dfs,hb.kind,hb.sy,hb.rd⟩ rfl rfl (.inr ⟨kk,qq⟩) hT,hS,?_⟩
   show(bk (_ ::hN)).Nodup
   simp only[bk,pk,qq,List.nil_append];exact hn
  |exit id KK ht he=>trivial
 ·rename_i key hrn
  cases hN with
  |nil=>trivial
  |cons c hN=>
  cases cs with
  |nil=>exact hS.elim
  |cons cf cs=>
  have hdf:af.Bs=false:=hb.rd (by rw[hrn];intro e;cases e)
  have MI:fr.kind=.normal:=by rw[hb.kind,hdf];rfl
  have Fv:∃ lc,μ key=some lc∧fr.roundOf=some lc.c:=by
   have:=hb.sy
   rw[hrn] at this
   cases hh:fr.roundOf with
   |none=>rw[hh] at this;exact this.elim
   |some x=>rw[hh] at this;obtain⟨lc,e1,e2⟩:=this;exact⟨lc,e1,by rw[e2]⟩
  obtain⟨lc,ig,Fv⟩:=Fv
  simp only
  split
  ·rename_i st pd fn tm res params as bd dfs hbl
   simp only[sTCe]
   obtain⟨lc',L,ntl,ld,e0,Lu,e1,e2,e3,e4,e5,e5',e6,e7,e8,e9,e10⟩:=Ft hM (hH _ _ hbl)
   rw[ig] at e0;cases e0
   split
   ·rename_i c' hf
    have hpd:(∀ n,PY P n pd L.pending)→∀ n,PY P n j jc:=by
     intro _ K1
     cases hj with
     |fin ht=>trivial
     |ret KK ht=>exact(rfl:fF P K1 .ret=some .ret)
     |exit id KK ht he=>exact(rfl:fF P K1 (.exit id)=some (.exit id))
    have hsr:amb (match (generalizing:=false) j with|none=>LS.ready|some _=>LS.done) (if jc.isNone then .ready else .done):=by
     cases hj<;>trivial
    obtain⟨μ',G',g1,g2,g3,g4⟩:=MT hM hH hbl ig Lu hsr hpd
    have ch:=Tt (P:=P) Lu jc
    have dQ:step P (lone fr (cf ::cs++rest) w)=.next (lone (cf.finish (.bool jc.isNone)) (cs++rest) {w with heap:=w.heap.setIfInBounds lc.c (.loop {L with state:=if jc.isNone then .ready else .done,pending:=jc})}):=by
     cases hj with
     |fin ht=>exact Nr hm ht Fv MI ch
     |ret KK ht=>exact SE hm ht Fv MI ch
     |exit id KK ht he=>exact Po hm ht he Fv MI ch
    have hS':=hS.kept g1 g4
    have hbv:aC ρ μ' (.bool (match (generalizing:=false) j with|none=>true|some _=>false)) (.bool jc.isNone):=by
     cases hj<;>exact .bool _
    obtain⟨q1,q2⟩:=hS'.1.finish hbv hf
    refine⟨_,cs,_,.one dQ,μ',G',Mu.le_trans h0 g1,g2,g3,q1,hS'.2,?_⟩
    show(bk (c' ::hN)).Nodup
    simp only[bk,q2] at hn ⊢
    exact hn
   ·trivial
  ·trivial
theorem PQ{fn:FuncId}{tmps:Array Value}{params:Array Tmp}{as bd:Code}:(Instr.enterLoop fn tmps params as bd none).run P w =
  .ok (w.heap.size+1,[⟨.collected w.heap.size,#[]⟩]) ((w.alloc (.deferred (some []))).alloc (.loop {state:=.ready,pending:=none,fn,tmps,params,assign:=as,body:=bd,defers:=w.heap.size})):=by
 simp[Instr.enterLoop,newObj,Sem.run]
theorem Od{nt:Nat}:∀ {l:List Nat} {ks:List Key},l.mapM (Dl nt)=some ks→Rf ks l∧∀ k∈ks,k.toNat<nt
 | [],ks,h=>by simp at h;subst h;exact⟨rfl,fun _ h=>by cases h⟩
 |t ::l,ks,h=>by
  obtain⟨k,r,e1,e2,rfl⟩:=gZ h
  obtain⟨h1,h2⟩:=Od e2
  obtain⟨h3,h4⟩:=l7 e1
  refine⟨?_,fun q hq=>?_⟩
  ·show(k ::r).map Key.toNat=t ::l
   rw[zqx,h3,h1]
  ·rcases JY.1 hq with e|e
   ·rw[e,h3];exact h4
   ·exact h2 q e
theorem ap1(X:Ctx P ρ w0 C){pc:aG}{c:Code}(hc:fF P nt c=some pc)(h0:μ0.le μ)(hM:aP P ρ w0 μ G nx.toNat w)(hH:HSub H G)(hb:wV P ρ μ nt af fr)(h1:af.mode=.run)(hm:fr.mode=.run)
  (EP:af.todo=.code pc ::k) (ht:fr.todo=.code c ::K) (hk:kG P μ nt k K) (hT:je ρ μ nt af.tm fr.tmps) (hS:cT P ρ C.orc μ G H nx hN cs) (hn:(bk hN).Nodup) :
  Good P ρ C w0 μ0 rest (lone fr (cs++rest) w) (cb C af hN H nx):=by
 have go:∀ (k':List dn) (K':List Item),kG P μ nt k' K'→step P (lone fr (cs++rest) w)=.next (lone {fr with todo:=K'} (cs++rest) w)→Good P ρ C w0 μ0 rest (lone fr (cs++rest) w) (.next ⟨{af with todo:=k'},hN,H,nx⟩):=by
  intro k' K' hk' dQ
  exact⟨_,cs,w,.one dQ,n8 h0 hM hH (hb.todo af.tm k' fr.tmps K') h1 hm hk' hT hS hn⟩
 unfold cb
 rw[EP]
 cases c with
 |skip=>
  simp only[fF,cS] at hc;subst hc
  exact go _ _ hk (awA hm ht)
 |region id ops draw=>
  simp only[fF] at hc
  cases draw with
  |false=>
   obtain⟨l,hl,rfl⟩:=PO hc
   exact go _ _ (.cons _ _ _ _ (.ops _ _ _ hl) hk) (aqi hm ht)
  |true=>
   obtain⟨pl,sA,items,hO,rfl,auo,hf,aLI,hd,aiH⟩:=Tr hc
   obtain⟨t,dQ⟩:=awC (P:=P) (cs:=cs++rest) (w:=w) hm ht
   rw[X.mix] at dQ
   have hv:=Oe auo.down t
   refine⟨_,cs,_,.one dQ,μ,G,h0,hM.drawn _ (Nat.le_succ _),hH,.run nt (hb.todo af.tm _ fr.tmps _) h1 hm (.ready ops pl _ _ sA items _ [] k K _ _ _ hf aLI ⟨hd,aiH⟩ hk (fc.init auo hT hv)),hS,?_⟩
   show(bk (_ ::hN)).Nodup
   simp only[bk,pk,List.map_nil,List.nil_append];exact hn
 |seq a b=>
  simp only[fF] at hc
  split at hc
  ·rename_i a' b' ha fb
   cases hc
   exact go _ _ (.cons _ _ _ _ (.code _ _ ha) (.cons _ _ _ _ (.code _ _ fb) hk)) (aAL hm ht)
  ·cases hc
 |cond x a b=>
  simp only[fF] at hc
  split at hc
  ·rename_i x' a' b' hx ha fb
   cases hc
   simp only
   split
   ·rename_i hxa
    have hv:=Ts hM hx hxa hT
    have he:fr.eval x=.bool true:=by generalize fr.eval x=u at hv;cases hv;rfl
    exact go _ _ (.cons _ _ _ _ (.code _ _ ha) hk) (amY hm ht he)
   ·rename_i hxa
    have hv:=Ts hM hx hxa hT
    have he:fr.eval x=.bool false:=by generalize fr.eval x=u at hv;cases hv;rfl
    exact go _ _ (.cons _ _ _ _ (.code _ _ fb) hk) (amY hm ht he)
   ·trivial
  ·cases hc
 |block id a=>
  simp only[fF] at hc
  split at hc
  ·rename_i a' ha
   cases hc
   exact go _ _ (.cons _ _ _ _ (.code _ _ ha) (.cons _ _ _ _ (.inBlock _) hk)) (as3 hm ht)
  ·cases hc
 |loop a=>
  simp only[fF] at hc
  split at hc
  ·rename_i a' ha
   cases hc
   exact go _ _ (.cons _ _ _ _ (.code _ _ ha) (.cons _ _ _ _ (.inLoop _ _ ha) hk)) (Su hm ht)
  ·cases hc
 |rangeFunc f params a b=>
  simp only[fF] at hc
  split at hc
  ·rename_i f' ps a' b' hf hps ha fb
   cases hc
   simp only
   split
   ·rename_i g first cap hrn hfa
    simp only[sTCe]
    rcases Br X g (first ++ .yld nx.succ ::cap) false (.bad 61 ⟨af,hN,av nx.succ (some (.loop .ready none af.fn af.tm af.res ps a' b' nx)) (av nx (some (.dfs false)) H),nx⟩)
     (fun ej=>.next ⟨ej,{af with todo:=.inRF nx.succ ::k,dfs:=.coll nx ::af.dfs} ::hN,av nx.succ (some (.loop .ready none af.fn af.tm af.res ps a' b' nx)) (av nx (some (.dfs false)) H),nx.succ.succ⟩) with e|⟨p,hp,e⟩
    ·rw[e];trivial
    ·rw[e]
     have Fv:fr.roundOf=none:=by
      have:=hb.sy
      rw[hrn] at this
      cases hh:fr.roundOf with
      |none=>rfl
      |some x=>rw[hh] at this;exact this.elim
     obtain⟨fn,c,f1,f2,f3,f4,f5⟩:=wX hp
     have hv:=Ts hM hf hfa hT
     obtain⟨vs,ws,ev,hv1,hv2⟩:=amH hv
     have hs1:=kTSu nx
     have hs2:=kTSu nx.succ
     obtain⟨m1,M1⟩:=hM.alloc nx (.dfs false) (.deferred (some [])) 0 (nx':=nx.succ.toNat) hM.mQ (.dfs false _) (by omega) (by omega)
     have hu1:(μ.put nx ⟨w.heap.size,0,0⟩) nx=some ⟨w.heap.size,0,0⟩:=Mu.dq _ _ _
     have tL:(w.alloc (.deferred (some []))).heap.size=w.heap.size+1:=by simp
     obtain⟨hkr,OA⟩:=Od hps
     have hn1:(μ.put nx ⟨w.heap.size,0,0⟩) nx.succ=none:=M1.mQ
     have JA:Mu.le (μ.put nx ⟨w.heap.size,0,0⟩) ((μ.put nx ⟨w.heap.size,0,0⟩).put nx.succ ⟨(w.alloc (.deferred (some []))).heap.size,0,0⟩):=Mu.tM (.inl hn1)
     obtain⟨m2,M2⟩:=M1.alloc nx.succ (.loop .ready none af.fn af.tm af.res ps a' b' nx) (.loop {state:=.ready,pending:=none,fn:=fr.fn,tmps:=fr.tmps,params,assign:=a,body:=b,defers:=w.heap.size}) 0 (nx':=nx.succ.succ.toNat) hn1
      (.loop .ready none af.fn nt af.tm af.res ps a' b' nx ⟨w.heap.size,0,0⟩ _ _ trivial (fun _=>trivial) hb.fn (hT.mono (Mu.le_trans m1 JA)) hkr OA ha fb (JA.l _ _ hu1) rfl hb.fnr) (by omega) (by omega)
     have hK:Kept H (av nx.succ (some (.loop .ready none af.fn af.tm af.res ps a' b' nx)) (av nx (some (.dfs false)) H)) nx nx.succ.succ μ _ G _:=(w9 (H:=H) (nx:=nx) (μ:=μ) (G:=G) ⟨w.heap.size,0,0⟩ (some (.dfs false)) (some (.dfs false))).trans
      (w9 (nx:=nx.succ) ⟨(w.alloc (.deferred (some []))).heap.size,0,0⟩ (some (.loop .ready none af.fn af.tm af.res ps a' b' nx)) (some (.loop .ready none af.fn af.tm af.res ps a' b' nx)))
     have hle:=Mu.le_trans m1 m2
     have dQ:=SG (P:=P) (cs:=cs++rest) (w:=w) hm ht Fv PQ ev f1 (by rw[f2];rfl) f3
     have hu2:((μ.put nx ⟨w.heap.size,0,0⟩).put nx.succ ⟨(w.alloc (.deferred (some []))).heap.size,0,0⟩) nx.succ=some ⟨(w.alloc (.deferred (some []))).heap.size,0,0⟩:=Mu.dq _ _ _
     refine⟨_,{fr with todo:=.inRangeFunc (w.heap.size+1) ::K,defers:=[⟨.collected w.heap.size,#[]⟩]++fr.defers} ::cs,_,.one dQ,_,_,Mu.le_trans h0 hle,M2,(hH.set nx _).set nx.succ _,tB hp ?_ false,⟨?_,hS.kept hle hK⟩,?_⟩
     ·have hy:aC ρ ((μ.put nx ⟨w.heap.size,0,0⟩).put nx.succ ⟨(w.alloc (.deferred (some []))).heap.size,0,0⟩) (.yld nx.succ) (.func (.yield (w.heap.size+1)) #[] #[]):=.yld _ _ _ hu2 tL.symm
      have:=(hv1.mono hle).append (al.cons _ _ _ _ hy (hv2.mono hle))
      simpa using this
     ·refine .wait nt ⟨hb.fn,hb.fnr,⟨⟨_,m2.l _ _ hu1,rfl⟩,hb.dfs.mono hle⟩,hb.kind,?_,hb.rd⟩ h1 hm ?_
      ·have:=hb.sy
       rw[hrn,Fv] at this
       show aE5 _ af.sy fr.roundOf
       rw[hrn,Fv];trivial
      ·have:=Fu.rf (P:=P) (ρ:=ρ) (orc:=C.orc) (nt:=nt) (G:=nN (nN G nx (some (ah.dfs false))) nx.succ (some (.loop .ready none af.fn af.tm af.res ps a' b' nx))) (H:=av nx.succ (some (.loop .ready none af.fn af.tm af.res ps a' b' nx)) (av nx (some (.dfs false)) H)) (nx:=nx.succ.succ) nx.succ _ k K af.tm fr.tmps hu2 (hk.mono hle) (hT.mono hle)
       simp only[tL] at this ⊢
       exact this
     ·show(bk (_ ::_ ::hN)).Nodup
      simp only[bk,pk,List.nil_append];exact hn
   ·trivial
  ·cases hc
 |exit id=>
  simp only[fF,cS] at hc;subst hc
  obtain⟨x1,x2⟩:=alV (id:=id) hk
  simp only
  split
  ·rename_i k' hk'
   obtain⟨K',e1,e2⟩:=x1 k' hk'
   exact go _ _ e2 (awB hm ht e1)
  ·rename_i hk'
   exact ER X (.exit id K ht (x2 hk')) h0 hM hH hb h1 hm (.inr (.inr ⟨id,k,EP⟩)) (by intro e;cases e) (by intro e;cases e) hT hS hn
 |ret=>
  simp only[fF,cS] at hc;subst hc
  exact ER X (.ret K ht) h0 hM hH hb h1 hm (.inr (.inl ⟨k,EP⟩)) (fun _=>⟨k,EP⟩) (by intro e;cases e) hT hS hn
 |scope a=>
  simp only[fF] at hc
  split at hc
  ·rename_i a' ha
   cases hc
   exact go _ _ (.cons _ _ _ _ (.code _ _ ha) (.cons _ _ _ _ (.scope _) hk)) (as4 hm ht)
  ·cases hc
 |label l=>
  simp only[fF,cS] at hc;subst hc
  exact go _ _ hk (as5 hm ht)
 |goto l=>simp[fF] at hc
 |refuse s=>simp[fF] at hc
end
end Go.Sx
