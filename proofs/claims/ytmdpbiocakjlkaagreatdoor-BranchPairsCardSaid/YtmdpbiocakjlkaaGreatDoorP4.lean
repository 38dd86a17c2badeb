/- A part of the proof. No condition. -/
import Derived.Test.YtmdpbiocakjlkaaGreatDoorP3
import Derived.Shelf.SlSortCmp.NoneTotal
set_option linter.unusedSimpArgs false
set_option linter.unusedVariables false
set_option linter.unusedSectionVars false
namespace Go.Sx
def K(n:Nat):Key:=bif Nat.blt n 4095 then Key.lZ 12 n else Key.lZ n n
theorem xA:∀ (f n:Nat),n+1<2^(f+1)→(Key.lZ f n).toNat=n
 |0,n,h=>by
  have:n=0:=by omega
  subst this;rfl
 |f+1,n,h=>by
  unfold Key.lZ
  have hp:2^(f+1+1)=2*2^(f+1):=by rw[Nat.pow_succ,Nat.mul_comm]
  cases h0:Nat.beq n 0 with
  |true=>have:=yB h0;subst this;rfl
  |false=>
   have hn:n≠0:=by intro e;subst e;cases h0
   simp only[cond_false]
   cases h1:Nat.beq (n%2) 1 with
   |true=>
    have h1:=yB h1
    simp only[cond_true,Key.toNat,xA f (n / 2) (by omega)]
    omega
   |false=>
    have h1:n%2≠1:=by intro e;rw[e] at h1;cases h1
    simp only[cond_false,Key.toNat,xA f (n / 2-1) (by omega)]
    omega
theorem Yf(n:Nat):(K n).toNat=n:=by
 unfold K
 cases h:Nat.blt n 4095 with
 |true=>
  rw[bltN_eq,decide_eq_true_eq] at h
  exact xA 12 n (by omega)
 |false=>
  refine xA n n ?_
  have:n+1<2^(n+1):=Nat.lt_two_pow_self
  exact this
theorem axs{i j:Nat}(h:K i=K j):i=j:=by rw[← Yf i,← Yf j,h]
theorem asi(n:Nat):(K n).succ=K (n+1):=Key.toNat_inj (by rw[kTSu,Yf,Yf])
theorem get_set_K{α:Type}(i j:Nat)(v:Option α)(t:T α):aa (K i) (aK (K j) v t)=if i=j then v else aa (K i) t:=by
 by_cases h:i=j
 ·subst h;rw[if_pos rfl,gTSm]
 ·rw[if_neg h,bU _ _ _ _ (fun e=>h (axs e))]
section
variable{orc:pF}{tm:T AV}{h:T ab}{nx:Key}
theorem at_t(k:Key):(PX.t k).at tm=aa k tm:=rfl
theorem at_v(a:AV):(PX.v a).at tm=some a:=rfl
theorem agd:pW orc [] tm h nx=.fin tm h nx:=rfl
theorem putTm_some(k:Key)(v:AV):cx (some k) v tm=aK k (some v) tm:=rfl
theorem putTm_none(v:AV):cx none v tm=tm:=rfl
theorem wants_none:dm none tm=some true:=rfl
theorem wants_some(k:Key)(b:Bool):dm (some (k,b)) tm=match aa k tm with
  |some (.bool c)=>some (c==b)
  |some (.tuple [])=>some false
  |_=>none:=rfl
theorem ltI_dec(a b:Int):ltI a b=decide (a<b):=ZE a b
theorem br{n:Int}(h1:-9223372036854775808≤n)(h2:n<9223372036854775808):aW .i64 n=n:=by
 rw[nu]
 have:IntKind.wrap .i64 n=n:=by
  rw[← nu]
  simp only[aW,full,half,ZE]
  have h3:Int.emod n 18446744073709551616=n%18446744073709551616:=rfl
  rw[h3]
  by_cases h0:0≤n
  ·rw[show n%18446744073709551616=n by omega]
   have:decide (n<9223372036854775808)=true:=by simpa using h2
   rw[this];rfl
  ·rw[show n%18446744073709551616=n+18446744073709551616 by omega]
   have:decide (n+18446744073709551616<9223372036854775808)=false:=by simp;omega
   rw[this]
   show n+18446744073709551616-18446744073709551616=n
   omega
 exact this
end
end Go.Sx
/-
 SX: what must hold ahead of code, reckoned by program. No condition.
-/
namespace Go.Sx
open Go.RowKit
def wpG(t:Option Bool)(A B:Prop):Prop:=match t with
 |none=>False
 |some t=>(t=true→A)∧(t=false→B)
noncomputable def eu(C:cU)(Q:bp):List J→T AV→T ab→Key→Prop
 | [],tm,h,nx=>Q .norm tm h nx
 |o ::l,tm,h,nx=>wpG (dm o.guard tm)
   (match aOp C.orc o.op tm h nx with
   |.val v h nx=>eu C Q l (cx o.dst v tm) h nx
   |.call f args=>aO C f (cW (C.raw f) args h).1 (cW (C.raw f) args h).2 nx (fun out h nx=>match out with
    |.ret v=>eu C Q l (cx o.dst v tm) h nx
    |.pan a=>Q (.pan a) tm h nx)
   |.pan a=>Q (.pan a) tm h nx
   |.alt la=>∀ v h2,(v,h2)∈la→eu C Q l (cx o.dst v tm) h2 nx
   |_=>False)
   (eu C Q l (cx o.dst (.tuple []) tm) h nx)
noncomputable def wpS(C:cU)(Q:bp)(d:SD):List bx→List (Nat×Key×ab)→T AV→T ab→Key→Prop
 | [],an,tm,h,nx=>Q .norm tm (ew an h) nx
 |.L i o ::l,an,tm,h,nx=>wpG (dm o.guard tm)
   (match lightOp C.orc o.op tm (Ey (NR i d.mN) an h) with
   |some v=>wpS C Q d l an (cx o.dst v tm) h nx
   |none=>False)
   (wpS C Q d l an (cx o.dst (.tuple []) tm) h nx)
 |.A i o ::l,an,tm,h,nx=>wpG (dm o.guard tm)
   (match allocOp o.op tm with
   |some (v,b)=>wpS C Q d l ((i,nx,b) ::an) (cx o.dst (v nx) tm) h nx.succ
   |none=>False)
   (wpS C Q d l an (cx o.dst (.tuple []) tm) h nx)
 |.H i o ad ::l,an,tm,h,nx=>wpG (dm o.guard tm)
   (match aOp C.orc o.op tm (ew (an.filter fun x=>memN x.1 ad) h) nx with
   |.val v h nx=>wpS C Q d l (an.filter fun x=>!(memN x.1 ad)) (cx o.dst v tm) h nx
   |.call f args=>aO C f (cW (C.raw f) args (ew (an.filter fun x=>memN x.1 ad) h)).1 (cW (C.raw f) args (ew (an.filter fun x=>memN x.1 ad) h)).2 nx (fun out h nx=>match out with
    |.ret v=>wpS C Q d l (an.filter fun x=>!(memN x.1 ad)) (cx o.dst v tm) h nx
    |.pan a=>Q (.pan a) (tV d.ds tm) h nx)
   |.pan a=>Q (.pan a) (tV d.ds tm) (ew (an.filter fun x=>memN x.1 ad) h) nx
   |_=>False)
   (wpS C Q d l (an.filter fun x=>!(memN x.1 ad)) (cx o.dst (.tuple []) tm) (ew (an.filter fun x=>memN x.1 ad) h) nx)
 |.R os ::l,an,tm,h,nx=>recheck C.orc d.mN an tm h os=true∧wpS C Q d l an tm h nx
def ak(W:T AV→T ab→Key→Prop)(Q:bp):bp:=fun e tm h nx=>match e with
 |.norm=>W tm h nx
 |e=>Q e tm h nx
def ai(id:Nat)(Q:bp):bp:=fun e tm h nx=>match e with
 |.exit j=>if j=id then Q .norm tm h nx else Q (.exit j) tm h nx
 |e=>Q e tm h nx
noncomputable def bt(C:cU):U→bp→T AV→T ab→Key→Prop
 |.skip,Q,tm,h,nx=>Q .norm tm h nx
 |.ops l,Q,tm,h,nx=>eu C Q l tm h nx
 |.staged l d,Q,tm,h,nx=>wpS C Q d l [] tm h nx
 |.seq a b,Q,tm,h,nx=>bt C a (ak (bt C b Q) Q) tm h nx
 |.cond x a b,Q,tm,h,nx=>match x.at tm with
  |some (.bool t)=>(t=true→bt C a Q tm h nx)∧(t=false→bt C b Q tm h nx)
  |_=>False
 |.block id c,Q,tm,h,nx=>bt C c (ai id Q) tm h nx
 |.loop c,Q,tm,h,nx=>W C (.loop c) Q tm h nx
 |.rangeF f ps a b,Q,tm,h,nx=>W C (.rangeF f ps a b) Q tm h nx
 |.exit id,Q,tm,h,nx=>Q (.exit id) tm h nx
 |.ret,Q,tm,h,nx=>Q .ret tm h nx
section
variable{C:cU}{Q:bp}
theorem WI.same{x y:fE}{tm xD:T AV}{h h2:T ab}{nx aH:Key}(hy:∀ id,y≠.code (.exit id))(hs:∀ (af:xC) (k:List fE) (cs:List xC),af.mode=.run→dX C {af with tm:=tm,todo:=x ::k} cs h nx=dX C {af with tm:=xD,todo:=y ::k} cs h2 aH)
  (hw:WI C y Q xD h2 aH):WI C x Q tm h nx:=by
 intro af k cs h1 W9
 exact Ev.same (by rw[eE (m:=⟨{af with tm:=xD,todo:=y ::k},cs,h2,aH⟩) h1 rfl,eE (m:=⟨{af with tm:=tm,todo:=x ::k},cs,h,nx⟩) h1 rfl];exact hs af k cs h1)
  (Stop.not hy h1) (hw af k cs h1 W9)
theorem Rv:∀ {l:List J} {tm:T AV} {h:T ab} {nx:Key},eu C Q l tm h nx→WI C (.ops l) Q tm h nx
 | [],tm,h,nx,hw=>WI.anW agd hw
 |o ::l,tm,h,nx,hw=>by
  unfold eu at hw
  cases hg:dm o.guard tm with
  |none=>rw[hg] at hw;exact hw.elim
  |some t=>
   rw[hg] at hw
   have SX:∀ {xD:T AV} {h2:T ab} {aH:Key},pW C.orc (o ::l) tm h nx=pW C.orc l xD h2 aH→eu C Q l xD h2 aH→WI C (.ops (o ::l)) Q tm h nx:=by
    intro xD h2 aH he TO
    refine WI.same (y:=.ops l) (fun id e=>by cases e) ?_ (Rv TO)
    intro af k cs _
    show(match pW C.orc (o ::l) tm h nx with|.fin tm h nx=>_|.ev r rest tm h nx=>_)=(match pW C.orc l xD h2 aH with|.fin tm h nx=>_|.ev r rest tm h nx=>_)
    rw[he]
   cases t with
   |false=>
    refine SX ?_ (hw.2 rfl)
    rw[vE,hg]
    simp only[fj]
   |true=>
    have hw:=hw.1 rfl
    cases ha:aOp C.orc o.op tm h nx with
    |val v h' nx'=>
     rw[ha] at hw
     refine SX ?_ hw
     rw[vE,hg,ha]
     simp only[fj]
    |call f args=>
     rw[ha] at hw
     refine WI.alo (by rw[vE,hg,ha]) hw (fun v h2 aH hr=>Rv hr) (fun a h2 aH hr=>hr)
    |pan a=>
     rw[ha] at hw
     exact WI.anZ (by rw[vE,hg,ha]) hw
    |alt la=>
     rw[ha] at hw
     exact WI.anY (by rw[vE,hg,ha]) (fun v h2 hm=>Rv (hw v h2 hm))
    |yld k args=>rw[ha] at hw;exact hw.elim
    |dfr f args=>rw[ha] at hw;exact hw.elim
    |recover=>rw[ha] at hw;exact hw.elim
    |bad n=>rw[ha] at hw;exact hw.elim
theorem Wj{d:SD}:∀ {l:List bx} {an:List (Nat×Key×ab)} {tm:T AV} {h:T ab} {nx:Key},wpS C Q d l an tm h nx→WI C (.staged l d an) Q tm h nx
 | [],an,tm,h,nx,hw=>WI.as2 (by show OW an h (fun h=>RS.fin tm h nx)=_;rw[Q7]) hw
 |x ::l,an,tm,h,nx,hw=>by
  have SX:∀ {pend2:List (Nat×Key×ab)} {xD:T AV} {h2:T ab} {aH:Key},mh C.orc d.mN (x ::l) an tm h nx=mh C.orc d.mN l pend2 xD h2 aH→wpS C Q d l pend2 xD h2 aH→WI C (.staged (x ::l) d an) Q tm h nx:=by
   intro pend2 xD h2 aH he TO
   refine WI.same (y:=.staged l d pend2) (fun id e=>by cases e) ?_ (Wj TO)
   intro af k cs _
   show(match mh C.orc d.mN (x ::l) an tm h nx with|.fin tm h nx=>_|.ev r rest an tm h nx=>_)=(match mh C.orc d.mN l pend2 xD h2 aH with|.fin tm h nx=>_|.ev r rest an tm h nx=>_)
   rw[he]
  cases x with
  |L i o=>
   unfold wpS at hw
   cases hg:dm o.guard tm with
   |none=>rw[hg] at hw;exact hw.elim
   |some t=>
    rw[hg] at hw
    cases t with
    |false=>
     refine SX ?_ (hw.2 rfl)
     rw[acU,hg]
     simp only[fj]
    |true=>
     have hw:=hw.1 rfl
     cases hl:lightOp C.orc o.op tm (Ey (NR i d.mN) an h) with
     |none=>rw[hl] at hw;exact hw.elim
     |some v=>
      rw[hl] at hw
      refine SX ?_ hw
      rw[acU,hg,hl]
      simp only[fj]
  |A i o=>
   unfold wpS at hw
   cases hg:dm o.guard tm with
   |none=>rw[hg] at hw;exact hw.elim
   |some t=>
    rw[hg] at hw
    cases t with
    |false=>
     refine SX ?_ (hw.2 rfl)
     rw[acV,hg]
     simp only[fj]
    |true=>
     have hw:=hw.1 rfl
     cases hl:allocOp o.op tm with
     |none=>rw[hl] at hw;exact hw.elim
     |some vb=>
      obtain⟨v,b⟩:=vb
      rw[hl] at hw
      refine SX ?_ hw
      rw[acV,hg,hl]
      simp only[fj]
  |H i o ad=>
   unfold wpS at hw
   cases hg:dm o.guard tm with
   |none=>rw[hg] at hw;exact hw.elim
   |some t=>
    rw[hg] at hw
    cases t with
    |false=>
     refine SX ?_ (hw.2 rfl)
     rw[acW,Gi,hg]
     simp only[fj]
    |true=>
     have hw:=hw.1 rfl
     have fe:mh C.orc d.mN (.H i o ad ::l) an tm h nx=(match aOp C.orc o.op tm (ew (an.filter fun x=>memN x.1 ad) h) nx with
       |.val v h nx=>Ew o.dst (some v) tm fun tm=>mh C.orc d.mN l (an.filter fun x=>!(memN x.1 ad)) tm h nx
       |r=>.ev r (.H i o ad ::l) (an.filter fun x=>!(memN x.1 ad)) tm (ew (an.filter fun x=>memN x.1 ad) h) nx):=by
      rw[acW,Gi,hg]
      rfl
     cases ha:aOp C.orc o.op tm (ew (an.filter fun x=>memN x.1 ad) h) nx with
     |val v h' nx'=>
      rw[ha] at hw fe
      refine SX ?_ hw
      rw[fe]
      simp only[fj]
     |call f args=>
      rw[ha] at hw fe
      exact WI.anX fe hw (fun v h2 aH hr=>Wj hr) (fun a h2 aH hr=>hr)
     |pan a=>
      rw[ha] at hw fe
      intro af k cs m1 m2
      refine .step (m':=⟨{af with tm:=tV d.ds tm,todo:=[],mode:=.pan a false},cs,_,nx⟩) (eE m1 ?_) (.now ⟨.pan a,tV d.ds tm,_,nx,_,hw,rfl,rfl⟩)
      simp only[dX,fe,yA,pV]
     |alt la=>rw[ha] at hw;exact hw.elim
     |yld k args=>rw[ha] at hw;exact hw.elim
     |dfr f args=>rw[ha] at hw;exact hw.elim
     |recover=>rw[ha] at hw;exact hw.elim
     |bad n=>rw[ha] at hw;exact hw.elim
  |R os=>
   unfold wpS at hw
   refine SX ?_ hw.2
   rw[acz,hw.1]
   rfl
theorem Aa:∀ {c:U} {Q:bp} {tm:T AV} {h:T ab} {nx:Key},bt C c Q tm h nx→W C c Q tm h nx
 |.skip,Q,tm,h,nx,hw=>W.skip hw
 |.ops l,Q,tm,h,nx,hw=>W.ops (Rv hw)
 |.staged l d,Q,tm,h,nx,hw=>W.staged (Wj hw)
 |.seq a b,Q,tm,h,nx,hw=>by
  have hw:bt C a (ak (bt C b Q) Q) tm h nx:=hw
  refine W.seq ((Aa hw).mono fun e tm h nx hq=>?_)
  cases e with
  |norm=>exact Aa hq
  |_=>exact hq
 |.cond x a b,Q,tm,h,nx,hw=>by
  unfold bt at hw
  split at hw
  ·rename_i t hx
   refine W.cond hx ?_
   cases t with
   |true=>exact Aa (hw.1 rfl)
   |false=>exact Aa (hw.2 rfl)
  ·exact hw.elim
 |.block id c,Q,tm,h,nx,hw=>by
  have hw:bt C c (ai id Q) tm h nx:=hw
  refine W.block ((Aa hw).mono fun e tm h nx hq=>?_)
  cases e with
  |exit j=>exact hq
  |_=>exact hq
 |.loop c,Q,tm,h,nx,hw=>hw
 |.rangeF f ps a b,Q,tm,h,nx,hw=>hw
 |.exit id,Q,tm,h,nx,hw=>W.exit hw
 |.ret,Q,tm,h,nx,hw=>W.ret hw
theorem aO.of_wp{f:Nat}{p:eG}{l:List AV}{h:T ab}{nx:Key}{R:Out→T ab→Key→Prop}(hs:C.sum f l h nx=none)(hp:OL C f=some p)(hw:bt C p.body (I7 C f p.res R) (ml l .z .nil) h nx):aO C f l h nx R:=
 aO.aGN hs hp (Aa hw)
end
end Go.Sx
/-
 SX: rules by which 'simp' works code out. No condition.
-/
namespace Go.Sx
noncomputable def A(b:Key):Nat→Key
 |0=>b
 |i+1=>(A b i).succ
theorem ahf(b:Key):∀ i,(A b i).toNat=b.toNat+i
 |0=>rfl
 |i+1=>by simp only[A,kTSu,ahf b i];omega
@[simp] theorem aF2(b:Key)(i:Nat):(A b i).succ=A b (i+1):=rfl
@[simp] theorem atV{α:Type}(b:Key)(i j:Nat)(v:Option α)(t:T α):aa (A b i) (aK (A b j) v t)=if i=j then v else aa (A b i) t:=by
 by_cases h:i=j
 ·subst h;rw[if_pos rfl,gTSm]
 ·rw[if_neg h,bU]
  intro e
  have:=congrArg Key.toNat e
  simp only[ahf] at this
  omega
theorem aea{α:Type}{b:Key}{c:Key}(v:Option α)(t:T α)(h:b.toNat<c.toNat):aa b (aK c v t)=aa b t:=
 bU _ _ _ _ (fun e=>by rw[e] at h;exact absurd h (Nat.lt_irrefl _))
attribute [simp] get_set_K at_t at_v putTm_some putTm_none wants_none wants_some okV sTCe
@[simp] theorem anb(W:T AV→T ab→Key→Prop)(Q:bp)(tm:T AV)(h:T ab)(nx:Key):ak W Q .norm tm h nx=W tm h nx:=propext Iff.rfl
@[simp] theorem aoZ(W:T AV→T ab→Key→Prop)(Q:bp)(tm:T AV)(h:T ab)(nx:Key):ak W Q .ret tm h nx=Q .ret tm h nx:=propext Iff.rfl
@[simp] theorem anc(W:T AV→T ab→Key→Prop)(Q:bp)(i:Nat)(tm:T AV)(h:T ab)(nx:Key):ak W Q (.exit i) tm h nx=Q (.exit i) tm h nx:=propext Iff.rfl
@[simp] theorem ao0(W:T AV→T ab→Key→Prop)(Q:bp)(a:AV)(tm:T AV)(h:T ab)(nx:Key):ak W Q (.pan a) tm h nx=Q (.pan a) tm h nx:=propext Iff.rfl
@[simp] theorem akL(j:Nat)(Q:bp)(tm:T AV)(h:T ab)(nx:Key):ai j Q .norm tm h nx=Q .norm tm h nx:=propext Iff.rfl
@[simp] theorem al9(j:Nat)(Q:bp)(tm:T AV)(h:T ab)(nx:Key):ai j Q .ret tm h nx=Q .ret tm h nx:=propext Iff.rfl
@[simp] theorem akM(j:Nat)(Q:bp)(i:Nat)(tm:T AV)(h:T ab)(nx:Key):ai j Q (.exit i) tm h nx=if i=j then Q .norm tm h nx else Q (.exit i) tm h nx:=propext Iff.rfl
@[simp] theorem ama(j:Nat)(Q:bp)(a:AV)(tm:T AV)(h:T ab)(nx:Key):ai j Q (.pan a) tm h nx=Q (.pan a) tm h nx:=propext Iff.rfl
theorem VI{p q:Prop}(h:p↔q):p=q:=propext h
section
variable(C:cU)(Q:bp)(tm:T AV)(h:T ab)(nx:Key)(d:SD)(an:List (Nat×Key×ab))
@[simp] theorem aeb(t:Bool)(A B:Prop):wpG (some t) A B=((t=true→A)∧(t=false→B)):=VI Iff.rfl
@[simp] theorem av8(A B:Prop):wpG none A B=False:=VI Iff.rfl
@[simp] theorem av9:bt C .skip Q tm h nx=Q .norm tm h nx:=VI Iff.rfl
@[simp] theorem azz(l:List J):bt C (.ops l) Q tm h nx=eu C Q l tm h nx:=VI Iff.rfl
@[simp] theorem arT(l:List bx)(d:SD):bt C (.staged l d) Q tm h nx=wpS C Q d l [] tm h nx:=VI Iff.rfl
@[simp] theorem azA(a b:U):bt C (.seq a b) Q tm h nx=bt C a (ak (bt C b Q) Q) tm h nx:=VI Iff.rfl
@[simp] theorem awa(x:PX)(a b:U):bt C (.cond x a b) Q tm h nx=(match x.at tm with
  |some (.bool t)=>(t=true→bt C a Q tm h nx)∧(t=false→bt C b Q tm h nx)
  |_=>False):=VI Iff.rfl
@[simp] theorem atW(id:Nat)(c:U):bt C (.block id c) Q tm h nx=bt C c (ai id Q) tm h nx:=VI Iff.rfl
@[simp] theorem awb(c:U):bt C (.loop c) Q tm h nx=W C (.loop c) Q tm h nx:=VI Iff.rfl
@[simp] theorem awc(id:Nat):bt C (.exit id) Q tm h nx=Q (.exit id) tm h nx:=VI Iff.rfl
@[simp] theorem azB:bt C .ret Q tm h nx=Q .ret tm h nx:=VI Iff.rfl
@[simp] theorem azC:eu C Q [] tm h nx=Q .norm tm h nx:=VI Iff.rfl
def KO(o:J)(l:List J):Out→T ab→Key→Prop:=fun out h nx=>match out with
 |.ret v=>eu C Q l (cx o.dst v tm) h nx
 |.pan a=>Q (.pan a) tm h nx
def KS(o:J)(l:List bx):Out→T ab→Key→Prop:=fun out h nx=>match out with
 |.ret v=>wpS C Q d l an (cx o.dst v tm) h nx
 |.pan a=>Q (.pan a) (tV d.ds tm) h nx
@[simp] theorem acy(o:J)(l:List J)(v:AV):KO C Q tm o l (.ret v) h nx=eu C Q l (cx o.dst v tm) h nx:=VI Iff.rfl
@[simp] theorem aF3(o:J)(l:List J)(a:AV):KO C Q tm o l (.pan a) h nx=Q (.pan a) tm h nx:=VI Iff.rfl
@[simp] theorem arU(o:J)(l:List bx)(v:AV):KS C Q tm d an o l (.ret v) h nx=wpS C Q d l an (cx o.dst v tm) h nx:=VI Iff.rfl
@[simp] theorem aF4(o:J)(l:List bx)(a:AV):KS C Q tm d an o l (.pan a) h nx=Q (.pan a) (tV d.ds tm) h nx:=VI Iff.rfl
def aaA(o:J)(l:List J)(t:Option Bool):Prop:=wpG t
   (match aOp C.orc o.op tm h nx with
   |.val v h nx=>eu C Q l (cx o.dst v tm) h nx
   |.call f args=>aO C f (cW (C.raw f) args h).1 (cW (C.raw f) args h).2 nx (KO C Q tm o l)
   |.pan a=>Q (.pan a) tm h nx
   |.alt la=>∀ v h2,(v,h2)∈la→eu C Q l (cx o.dst v tm) h2 nx
   |_=>False)
   (eu C Q l (cx o.dst (.tuple []) tm) h nx)
@[simp] theorem KP(o:J)(l:List J):eu C Q (o ::l) tm h nx=aaA C Q tm h nx o l (dm o.guard tm):=VI (by rw[eu];exact Iff.rfl)
@[simp] theorem Ej(o:J)(l:List J):aaA C Q tm h nx o l (some true)=(match aOp C.orc o.op tm h nx with
   |.val v h nx=>eu C Q l (cx o.dst v tm) h nx
   |.call f args=>aO C f (cW (C.raw f) args h).1 (cW (C.raw f) args h).2 nx (KO C Q tm o l)
   |.pan a=>Q (.pan a) tm h nx
   |.alt la=>∀ v h2,(v,h2)∈la→eu C Q l (cx o.dst v tm) h2 nx
   |_=>False):=by simp[aaA]
@[simp] theorem arV(o:J)(l:List J):aaA C Q tm h nx o l (some false)=eu C Q l (cx o.dst (.tuple []) tm) h nx:=by simp[aaA]
@[simp] theorem atX(o:J)(l:List J):aaA C Q tm h nx o l none=False:=by simp[aaA]
@[simp low] theorem awd(o:J)(l:List J)(t:Bool):aaA C Q tm h nx o l (some t)=((t=true→aaA C Q tm h nx o l (some true))∧(t=false→aaA C Q tm h nx o l (some false))):=by
 cases t<;>simp
@[simp] theorem azD:wpS C Q d [] an tm h nx=Q .norm tm (ew an h) nx:=VI Iff.rfl
def aaB(i:Nat)(o:J)(l:List bx)(t:Option Bool):Prop:=wpG t
   (match lightOp C.orc o.op tm (Ey (NR i d.mN) an h) with
   |some v=>wpS C Q d l an (cx o.dst v tm) h nx
   |none=>False)
   (wpS C Q d l an (cx o.dst (.tuple []) tm) h nx)
@[simp] theorem aKh(i:Nat)(o:J)(l:List bx):wpS C Q d (.L i o ::l) an tm h nx=aaB C Q tm h nx d an i o l (dm o.guard tm):=VI (by rw[wpS];exact Iff.rfl)
@[simp] theorem atY(i:Nat)(o:J)(l:List bx):aaB C Q tm h nx d an i o l (some true)=(match lightOp C.orc o.op tm (Ey (NR i d.mN) an h) with
   |some v=>wpS C Q d l an (cx o.dst v tm) h nx
   |none=>False):=by simp[aaB]
@[simp] theorem arW(i:Nat)(o:J)(l:List bx):aaB C Q tm h nx d an i o l (some false)=wpS C Q d l an (cx o.dst (.tuple []) tm) h nx:=by simp[aaB]
@[simp] theorem atZ(i:Nat)(o:J)(l:List bx):aaB C Q tm h nx d an i o l none=False:=by simp[aaB]
@[simp low] theorem awe(i:Nat)(o:J)(l:List bx)(t:Bool):aaB C Q tm h nx d an i o l (some t)=((t=true→aaB C Q tm h nx d an i o l (some true))∧(t=false→aaB C Q tm h nx d an i o l (some false))):=by
 cases t<;>simp
def aaC(i:Nat)(o:J)(l:List bx)(t:Option Bool):Prop:=wpG t
   (match allocOp o.op tm with
   |some (v,b)=>wpS C Q d l ((i,nx,b) ::an) (cx o.dst (v nx) tm) h nx.succ
   |none=>False)
   (wpS C Q d l an (cx o.dst (.tuple []) tm) h nx)
@[simp] theorem aKi(i:Nat)(o:J)(l:List bx):wpS C Q d (.A i o ::l) an tm h nx=aaC C Q tm h nx d an i o l (dm o.guard tm):=VI (by rw[wpS];exact Iff.rfl)
@[simp] theorem at0(i:Nat)(o:J)(l:List bx):aaC C Q tm h nx d an i o l (some true)=(match allocOp o.op tm with
   |some (v,b)=>wpS C Q d l ((i,nx,b) ::an) (cx o.dst (v nx) tm) h nx.succ
   |none=>False):=by simp[aaC]
@[simp] theorem arX(i:Nat)(o:J)(l:List bx):aaC C Q tm h nx d an i o l (some false)=wpS C Q d l an (cx o.dst (.tuple []) tm) h nx:=by simp[aaC]
@[simp] theorem at1(i:Nat)(o:J)(l:List bx):aaC C Q tm h nx d an i o l none=False:=by simp[aaC]
@[simp low] theorem awf(i:Nat)(o:J)(l:List bx)(t:Bool):aaC C Q tm h nx d an i o l (some t)=((t=true→aaC C Q tm h nx d an i o l (some true))∧(t=false→aaC C Q tm h nx d an i o l (some false))):=by
 cases t<;>simp
def aaD(o:J)(ad:List Nat)(l:List bx)(t:Option Bool):Prop:=wpG t
   (match aOp C.orc o.op tm (ew (an.filter fun x=>memN x.1 ad) h) nx with
   |.val v h nx=>wpS C Q d l (an.filter fun x=>!(memN x.1 ad)) (cx o.dst v tm) h nx
   |.call f args=>aO C f (cW (C.raw f) args (ew (an.filter fun x=>memN x.1 ad) h)).1 (cW (C.raw f) args (ew (an.filter fun x=>memN x.1 ad) h)).2 nx (KS C Q tm d (an.filter fun x=>!(memN x.1 ad)) o l)
   |.pan a=>Q (.pan a) (tV d.ds tm) (ew (an.filter fun x=>memN x.1 ad) h) nx
   |_=>False)
   (wpS C Q d l (an.filter fun x=>!(memN x.1 ad)) (cx o.dst (.tuple []) tm) (ew (an.filter fun x=>memN x.1 ad) h) nx)
@[simp] theorem av1(i:Nat)(o:J)(ad:List Nat)(l:List bx):wpS C Q d (.H i o ad ::l) an tm h nx=aaD C Q tm h nx d an o ad l (dm o.guard tm):=VI (by rw[wpS];exact Iff.rfl)
@[simp] theorem aiy(o:J)(ad:List Nat)(l:List bx):aaD C Q tm h nx d an o ad l (some true)=(match aOp C.orc o.op tm (ew (an.filter fun x=>memN x.1 ad) h) nx with
   |.val v h nx=>wpS C Q d l (an.filter fun x=>!(memN x.1 ad)) (cx o.dst v tm) h nx
   |.call f args=>aO C f (cW (C.raw f) args (ew (an.filter fun x=>memN x.1 ad) h)).1 (cW (C.raw f) args (ew (an.filter fun x=>memN x.1 ad) h)).2 nx (KS C Q tm d (an.filter fun x=>!(memN x.1 ad)) o l)
   |.pan a=>Q (.pan a) (tV d.ds tm) (ew (an.filter fun x=>memN x.1 ad) h) nx
   |_=>False):=by unfold aaD;simp only[aeb,true_implies,Bool.true_eq_false,false_implies,and_true]
@[simp] theorem arY(o:J)(ad:List Nat)(l:List bx):aaD C Q tm h nx d an o ad l (some false)=wpS C Q d l (an.filter fun x=>!(memN x.1 ad)) (cx o.dst (.tuple []) tm) (ew (an.filter fun x=>memN x.1 ad) h) nx:=by unfold aaD;simp only[aeb,true_implies,Yz,false_implies,true_and]
@[simp] theorem at2(o:J)(ad:List Nat)(l:List bx):aaD C Q tm h nx d an o ad l none=False:=by simp[aaD]
@[simp low] theorem awg(o:J)(ad:List Nat)(l:List bx)(t:Bool):aaD C Q tm h nx d an o ad l (some t)=((t=true→aaD C Q tm h nx d an o ad l (some true))∧(t=false→aaD C Q tm h nx d an o ad l (some false))):=by
 cases t<;>simp only[true_implies,Bool.true_eq_false,Yz,false_implies,and_true,true_and]
@[simp] theorem ao1(os:List (Nat×J))(l:List bx):wpS C Q d (.R os ::l) an tm h nx=(recheck C.orc d.mN an tm h os=true∧wpS C Q d l an tm h nx):=VI (by rw[wpS])
@[simp] theorem afS:ew [] h=h:=rfl
@[simp] theorem ao2(x:Nat×Key×ab)(p:List (Nat×Key×ab)):ew (x ::p) h=ew p (aK x.2.1 (some x.2.2) h):=rfl
@[simp] theorem ao3(orc:pF)(mN:List (Nat×List Nat)):recheck orc mN an tm h []=true:=rfl
@[simp] theorem ane(orc:pF)(mN:List (Nat×List Nat))(i:Nat)(o:J)(l:List (Nat×J)):recheck orc mN an tm h ((i,o) ::l)=(match dm o.guard tm with
  |some false=>match o.dst with
   |none=>false
   |some d=>match aa d tm with
    |some (.tuple [])=>recheck orc mN an tm h l
    |_=>false
  |some true=>match o.dst with
   |none=>false
   |some d=>match aa d tm,lightOp orc o.op tm (Ey (NR i mN) an h) with
    |some v,some u=>bif AV.beq v u then recheck orc mN an tm h l else false
    |_,_=>false
  |none=>false):=rfl
end
attribute [simp] memN
def aN(res:List RV)(R:Out→T ab→Key→Prop):bp:=fun e tm h nx=>match e with
 |.norm|.ret=>∃ l,resultsA h tm res=some l∧R (.ret (vU (az (ax 9999) l h).1)) (az (ax 9999) l h).2 nx
 |.pan a=>R (.pan a) h nx
 |.exit _=>False
theorem aO.of{C:cU}{f:Nat}{p:eG}{l:List AV}{h:T ab}{nx:Key}{R:Out→T ab→Key→Prop}(hs:C.sum f l h nx=none)(hp:OL C f=some p)(hr:C.IS f=false)(hw:bt C p.body (aN p.res R) (ml l (K 0) .nil) h nx):aO C f l h nx R:=by
 refine aO.of_wp hs hp ?_
 have e:I7 C f p.res R=aN p.res R:=by
  funext e tm h nx
  cases e<;>simp only[I7,aN,hr]<;>rfl
 rw[e]
 exact hw
section
variable(res:List RV)(R:Out→T ab→Key→Prop)(tm:T AV)(h:T ab)(nx:Key)
@[simp] theorem at3:aN res R .ret tm h nx=∃ l,resultsA h tm res=some l∧R (.ret (vU (az (ax 9999) l h).1)) (az (ax 9999) l h).2 nx:=VI Iff.rfl
@[simp] theorem arZ:aN res R .norm tm h nx=∃ l,resultsA h tm res=some l∧R (.ret (vU (az (ax 9999) l h).1)) (az (ax 9999) l h).2 nx:=VI Iff.rfl
@[simp] theorem at4(a:AV):aN res R (.pan a) tm h nx=R (.pan a) h nx:=VI Iff.rfl
end
attribute [simp] aOp lightOp allocOp newB atAll loadB isCmp beqKind arith
attribute [simp] nth_eq dropL_eq takeC_eq putC_eq appC_eq lenL_eq beqN_eq bltN_eq ltI_dec eqI_eq
@[simp] theorem azE(a b:Nat):Nat.ble a b=decide (a≤b):=by rw[Bool.eq_iff_iff];simp
@[simp] theorem azF(a b:Int):Int.add a b=a+b:=rfl
@[simp] theorem azG(a b:Int):Int.sub a b=a-b:=rfl
@[simp] theorem azH(a b:Int):Int.mul a b=a*b:=rfl
@[simp] theorem at5(k:IntKind)(m:Nat):rm (.int k (.lit (m:Int)))=some m:=rfl
@[simp] theorem ar0(k:IntKind):rm (.int k (.lit 0))=some 0:=rfl
@[simp] theorem at6(k:IntKind):rm (.int k (.lit 1))=some 1:=rfl
@[simp] theorem at7(k:IntKind)(n:Nat):rm (.int k (.lit (OfNat.ofNat (n+2):Int)))=some (n+2):=rfl
@[simp] theorem ar1(tm:T AV)(d:Nat):sA tm d none=some d:=rfl
@[simp] theorem ar2(tm:T AV)(d:Nat)(x:PX):sA tm d (some x)=match x.at tm with|none=>none|some v=>rm v:=rfl
@[simp] theorem azI(orc:pF)(op:BinOp)(x y:Int):VK orc op (.lit x) (.lit y)=(match op with
  |.eql=>some (x==y)
  |.neq=>some (!(x==y))
  |.lss=>some (decide (x<y))
  |.leq=>some (!(decide (y<x)))
  |.gtr=>some (decide (y<x))
  |.geq=>some (!(decide (x<y)))
  |_=>none):=by
 cases op<;>simp[VK]
@[simp] theorem awh(tm:T AV)(cs:List AV):Sb tm [] cs=some cs:=rfl
@[simp] theorem aua(tm:T AV)(off size:Nat)(x:PX)(r:List (Nat×Nat×PX))(cs:List AV):Sb tm ((off,size,x) ::r) cs =
  (match x.at tm with
  |none=>none
  |some v=>bif Nat.beq (lenL v.cells) size then adE v.cells off cs none (fun cs=>Sb tm r cs) else none):=rfl
@[simp] theorem aub(off n:Nat)(l:List AV):Ek true off n l=if n≤(l.drop off).length then some (.agg ((l.drop off).take n)) else none:=by
 simp[Ek]
@[simp] theorem ar3(off n:Nat)(l:List AV):Ek false off n l=l[off]?:=by
 simp[Ek]
@[simp] theorem ao4(b:Bool):AV.aD (.bool b)=true:=rfl
@[simp] theorem ar4(b:Bool):AV.cells (.bool b)=[.bool b]:=rfl
@[simp] theorem ar5(k:IntKind)(n:SI):AV.aD (.int k n)=true:=rfl
@[simp] theorem auc(k:IntKind)(n:SI):AV.cells (.int k n)=[.int k n]:=rfl
@[simp] theorem ar6(n c:Nat):AV.aD (.str n c)=true:=rfl
@[simp] theorem aud(n c:Nat):AV.cells (.str n c)=[.str n c]:=rfl
@[simp] theorem ar7(b:Key)(off:Nat):AV.aD (.ptr b off)=true:=rfl
@[simp] theorem aue(b:Key)(off:Nat):AV.cells (.ptr b off)=[.ptr b off]:=rfl
@[simp] theorem ao5:AV.aD (.nilp)=true:=rfl
@[simp] theorem ar8:AV.cells (.nilp)=[.nilp]:=rfl
@[simp] theorem anf(b:Key)(off len sz:Nat):AV.aD (.slice b off len sz)=true:=rfl
@[simp] theorem ao6(b:Key)(off len sz:Nat):AV.cells (.slice b off len sz)=[.slice b off len sz]:=rfl
@[simp] theorem ao7:AV.aD (.nils)=true:=rfl
@[simp] theorem ar9:AV.cells (.nils)=[.nils]:=rfl
@[simp] theorem asa(b:Key):AV.aD (.map b)=true:=rfl
@[simp] theorem auf(b:Key):AV.cells (.map b)=[.map b]:=rfl
@[simp] theorem ao8:AV.aD (.nilm)=true:=rfl
@[simp] theorem asb:AV.cells (.nilm)=[.nilm]:=rfl
@[simp] theorem aug(f:Nat)(first cap:List AV):AV.aD (.fn f first cap)=true:=rfl
@[simp] theorem awi(f:Nat)(first cap:List AV):AV.cells (.fn f first cap)=[.fn f first cap]:=rfl
@[simp] theorem ao9:AV.aD (.nilf)=true:=rfl
@[simp] theorem asc:AV.cells (.nilf)=[.nilf]:=rfl
@[simp] theorem ang(t:Nat)(v:AV):AV.aD (.iface t v)=true:=rfl
@[simp] theorem apa(t:Nat)(v:AV):AV.cells (.iface t v)=[.iface t v]:=rfl
@[simp] theorem apb:AV.aD (.nili)=true:=rfl
@[simp] theorem asd:AV.cells (.nili)=[.nili]:=rfl
@[simp] theorem auh(l:List AV)(len sz:Nat)(fl:SF):AV.aD (.sl l len sz fl)=true:=rfl
@[simp] theorem awj(l:List AV)(len sz:Nat)(fl:SF):AV.cells (.sl l len sz fl)=[.sl l len sz fl]:=rfl
@[simp] theorem apc(l:List AV):AV.aD (.cref l)=true:=rfl
@[simp] theorem ase(l:List AV):AV.cells (.cref l)=[.cref l]:=rfl
@[simp] theorem asf(l:List AV):AV.aD (.agg l)=false:=rfl
@[simp] theorem aui(l:List AV):AV.cells (.agg l)=l:=rfl
@[simp] theorem anh(l:List AV)(h:T ab):cW false l h=az (ax 9999) l h:=rfl
@[simp] theorem apd(l:List AV)(h:T ab):cW true l h=(l,h):=rfl
@[simp] theorem auj(g:AV→T ab→AV×T ab)(h:T ab):az g [] h=([],h):=rfl
@[simp] theorem Gf(g:AV→T ab→AV×T ab)(v:AV)(l:List AV)(h:T ab):az g (v ::l) h=((g v h).1 ::(az g l (g v h).2).1,(az g l (g v h).2).2):=rfl
section
variable(n:Nat)(h:T ab)
@[simp] theorem awk(k:IntKind)(i:SI):ax n (.int k i) h=(.int k i,h):=by cases n<;>rfl
@[simp] theorem auk(b:Bool):ax n (.bool b) h=(.bool b,h):=by cases n<;>rfl
@[simp] theorem awl(a b:Nat):ax n (.str a b) h=(.str a b,h):=by cases n<;>rfl
@[simp] theorem awm(b:Key)(o:Nat):ax n (.ptr b o) h=(.ptr b o,h):=by cases n<;>rfl
@[simp] theorem aul:ax n .nilp h=(.nilp,h):=by cases n<;>rfl
@[simp] theorem aum:ax n .nils h=(.nils,h):=by cases n<;>rfl
@[simp] theorem awn(b:Key):ax n (.map b) h=(.map b,h):=by cases n<;>rfl
@[simp] theorem aun:ax n .nilm h=(.nilm,h):=by cases n<;>rfl
@[simp] theorem azJ(f:Nat)(a c:List AV):ax n (.fn f a c) h=(.fn f a c,h):=by cases n<;>rfl
@[simp] theorem auo:ax n .nilf h=(.nilf,h):=by cases n<;>rfl
@[simp] theorem asg(t:Nat)(v:AV):ax n (.iface t v) h=(.iface t v,h):=by cases n<;>rfl
@[simp] theorem aup:ax n .nili h=(.nili,h):=by cases n<;>rfl
@[simp] theorem auq(l:List AV):ax n (.cref l) h=(.cref l,h):=by cases n<;>rfl
@[simp] theorem ash(l:List AV):ax n (.tuple l) h=(.tuple l,h):=by cases n<;>rfl
@[simp] theorem azK(l:List AV)(m z:Nat)(f:SF):ax (n+1) (.sl l m z f) h=(.sl l m z .any,h):=rfl
@[simp] theorem awo(l:List AV)(m z:Nat)(f:SF):ax 9999 (.sl l m z f) h=(.sl l m z .any,h):=rfl
@[simp] theorem awp(l:List AV)(m z:Nat)(f:SF):ax 9998 (.sl l m z f) h=(.sl l m z .any,h):=rfl
@[simp] theorem aur(l:List AV):ax 9999 (.agg l) h=(.agg (az (ax 9998) l h).1,(az (ax 9998) l h).2):=rfl
end
@[simp] theorem ape(k:Key)(tm:T AV):ml [] k tm=tm:=rfl
@[simp] theorem ani(v:AV)(l:List AV)(i:Nat)(tm:T AV):ml (v ::l) (K i) tm=ml l (K (i+1)) (aK (K i) (some v) tm):=by
 simp only[ml,asi]
@[simp] theorem asj(v:AV):vU [v]=v:=rfl
@[simp] theorem asl(v u:AV)(l:List AV):vU (v ::u ::l)=.tuple (v ::u ::l):=rfl
attribute [simp] resultsA
@[simp] theorem AV.all_nil:([]:List AV).all AV.aD=true:=rfl
attribute [simp] gTSm setK findK keyEq kTSu
theorem bA{α:Type}{b c:Key}{v:Option α}{t:T α}(h:b.toNat<c.toNat):aa b (aK c v t)=aa b t:=aea v t h
@[simp] theorem set_set{α:Type}(k:Key)(v u:Option α):∀ (t:T α),aK k v (aK k u t)=aK k v t:=by
 induction k with
 |z=>intro t;cases t<;>rfl
 |o k ih=>intro t;cases t<;>simp only[T.akN,T.V5,ih]
 |e k ih=>intro t;cases t<;>simp only[T.akO,T.V6,ih]
structure Ext(h:T ab)(nx:Key)(h':T ab)(nx':Key):Prop where
 n:nx.toNat≤nx'.toNat
 g:∀ b:Key,b.toNat<nx.toNat→aa b h'=aa b h
theorem Ext.refl(h:T ab)(nx:Key):Ext h nx h nx:=⟨bS _,fun _ _=>rfl⟩
theorem Ext.trans{h1 h2 h3:T ab}{n1 n2 n3:Key}(a:Ext h1 n1 h2 n2)(b:Ext h2 n2 h3 n3):Ext h1 n1 h3 n3:=
 ⟨Nat.le_trans a.n b.n,fun k hk=>(b.g k (YK hk a.n)).trans (a.g k hk)⟩
@[simp] theorem asm(a b:Bool):AV.beq (.bool a) (.bool b)=(a==b):=rfl
@[simp] theorem azL(orc:pF)(a b:Bool):nw orc .bool (.bool a) (.bool b)=some (a==b):=by simp[nw]
@[simp] theorem eq_int(orc:pF)(k:IntKind)(a b:SI):nw orc .int (.int k a) (.int k b)=VK orc .eql a b:=by cases k<;>simp[nw]
@[simp] theorem awq(orc:pF)(l:List (Nat×Bu))(a b:List AV):nw orc (.parts l) (.agg a) (.agg b)=dq orc l a b:=by simp[nw]
@[simp] theorem apf(orc:pF)(a b:List AV):dq orc [] a b=some true:=by simp[dq]
@[simp] theorem anj(orc:pF)(off:Nat)(p:Bu)(l:List (Nat×Bu))(a b:List AV):dq orc ((off,p) ::l) a b=(match nth off a,nth off b with
  |some x,some y=>match nw orc p x y with
   |some true=>dq orc l a b
   |some false=>some false
   |none=>none
  |_,_=>none):=by rw[dq];rfl
section
variable{C:cU}{Q:bp}{tm:T AV}{h:T ab}{nx:Key}
theorem W.bV{c:U}(Inv:Nat→T AV→T ab→Key→Prop){n:Nat}(hi:Inv n tm h nx)(hw:∀ n tm h nx,Inv n tm h nx→W C c (ak (fun tm h nx=>∃ m,m<n∧Inv m tm h nx) Q) tm h nx):W C (.loop c) Q tm h nx:=
 W.loop Inv (fun n tm h nx hi=>WI.mono (hw n tm h nx hi) fun e tm h nx hq=>by cases e<;>exact hq) hi
theorem W.rn{c:U}(h1:W C c (ak (W C (.loop c) Q) Q) tm h nx):W C (.loop c) Q tm h nx:=by
 intro af k cs m1 m2
 refine .step (m':=⟨{af with tm:=tm,todo:=.code c ::.inLoop c ::k},cs,h,nx⟩) (eE m1 rfl) ((h1 af (.inLoop c ::k) cs m1 m2).bind ?_)
 rintro m ⟨e,tm',h',nx',fr,q,ha,rfl⟩
 cases e with
 |norm=>
  cases ha
  have q2:WI C (.inLoop c) Q tm' h' nx':=WI.same (y:=.code (.loop c)) (fun id e=>by cases e) (fun _ _ _ _=>rfl) q
  refine(q2 {af with tm:=tm'} k cs m1 m2).mono ?_
  rintro m ⟨e2,xD,hh2,aH,fr2,q2,a2,t2⟩
  refine⟨e2,xD,hh2,aH,fr2,q2,?_,t2⟩
  cases e2<;>exact a2
 |ret=>exact .now ⟨.ret,tm',h',nx',fr,q,ha,rfl⟩
 |exit id=>
  obtain⟨k2,e1,e2⟩:=ha
  exact .now ⟨.exit id,tm',h',nx',fr,q,⟨k2,e1,e2⟩,rfl⟩
 |pan a=>exact .now ⟨.pan a,tm',h',nx',fr,q,ha,rfl⟩
theorem W.of{c:U}(h1:bt C c Q tm h nx):W C c Q tm h nx:=Aa h1
end
@[simp] theorem awr{R:Type}(l:List AV)(h:T ab)(c:List AV→T ab→R):Vz (Uf 9999) l h c=c (az (ax 9999) l h).1 (az (ax 9999) l h).2:=Dn (Oz 9999) l h c
attribute [simp] appendTo repL_eq
@[simp] theorem aws(i:Nat):NR i []=[]:=rfl
@[simp] theorem aus(i j:Nat)(l:List Nat)(r:List (Nat×List Nat)):NR i ((j,l) ::r)=if i=j then l else NR i r:=by simp[NR]
@[simp] theorem aut(p:List (Nat×Key×ab))(h:T ab):Ey [] p h=h:=rfl
@[simp] theorem asn(a:Nat)(l:List Nat)(p:List (Nat×Key×ab))(h:T ab):Ey (a ::l) p h=ew (p.filter fun x=>memN x.1 (a ::l)) h:=by
 show Ou (a ::l) p h (fun _ h=>h)=_
 rw[Gi]
end Go.Sx
/-
 SX: slots by name. No condition.
-/
namespace Go.Sx
theorem aZ{k:Key}{n:Nat}(h:Key.beq k (K n)=true):k=K n:=Key.eq_of_beq h
def k0:Key:=.z
def k1:Key:=.o k0
def k2:Key:=.e k0
def k3:Key:=.o k1
def k4:Key:=.e k1
def k5:Key:=.o k2
def k6:Key:=.e k2
def k7:Key:=.o k3
def k8:Key:=.e k3
def k9:Key:=.o k4
def bM:Key:=.e k4
def bW:Key:=.o k5
def cr:Key:=.e k5
def cu:Key:=.o k6
def bZ:Key:=.e k6
def cv:Key:=.o k7
def cK:Key:=.e k7
def cO:Key:=.o k8
def dv:Key:=.e k8
def dx:Key:=.o k9
def db:Key:=.e k9
def dB:Key:=.o bM
def cV:Key:=.e bM
def eH:Key:=.o bW
def fh:Key:=.e bW
def ic:Key:=.o cr
def fJ:Key:=.e cr
def hU:Key:=.o cu
def jm:Key:=.e cu
def gu:Key:=.o bZ
def jK:Key:=.e bZ
def mj:Key:=.o cv
def mu:Key:=.e cv
def mv:Key:=.o cK
def jB:Key:=.e cK
def mS:Key:=.o cO
def lY:Key:=.e cO
def iX:Key:=.o dv
def oK:Key:=.e dv
def qZ:Key:=.o dx
def jv:Key:=.e dx
def q9:Key:=.o db
def qV:Key:=.e db
def qW:Key:=.o dB
def qX:Key:=.e dB
def sg:Key:=.o cV
def rC:Key:=.e cV
def vH:Key:=.o eH
def vk:Key:=.e eH
def vF:Key:=.o fh
def uD:Key:=.e fh
def ue:Key:=.o ic
def BD:Key:=.e ic
def Ez:Key:=.o fJ
def Le:Key:=.e fJ
def Lf:Key:=.o hU
def Iz:Key:=.e hU
def NT:Key:=.o jm
def H7:Key:=.e jm
def Gt:Key:=.o gu
def Lg:Key:=.e gu
def Mv:Key:=.o jK
def NU:Key:=.e jK
def NV:Key:=.o mj
def Om:Key:=.e mj
def Rr:Key:=.o mu
def Pb:Key:=.e mu
def Mw:Key:=.o mv
def H8:Key:=.e mv
def Mx:Key:=.o jB
def Lh:Key:=.e jB
def Pc:Key:=.o mS
def Li:Key:=.e mS
def Pd:Key:=.o lY
def NW:Key:=.e lY
def Se:Key:=.o iX
def Sf:Key:=.e iX
def Uz:Key:=.o oK
def VL:Key:=.e oK
def UA:Key:=.o qZ
def Vq:Key:=.e qZ
def Ly:Key:=.o jv
def Vr:Key:=.e jv
def Ww:Key:=.o q9
def VM:Key:=.e q9
def VN:Key:=.o qV
def Sh:Key:=.e qV
def XY:Key:=.o qW
def XZ:Key:=.e qW
def Xi:Key:=.o qX
def X7:Key:=.e qX
def X8:Key:=.o sg
def UB:Key:=.e sg
def VO:Key:=.o rC
def YO:Key:=.e rC
def Z9:Key:=.o vH
def k96:Key:=.e vH
def YP:Key:=.o vk
def VP:Key:=.e vk
def YQ:Key:=.o vF
def yK:Key:=.e vF
def AZ:Key:=.o uD
def qY:Key:=.e uD
def BR:Key:=.o ue
def Dy:Key:=.e ue
def BS:Key:=.o BD
def DB:Key:=.e BD
def DC:Key:=.o Ez
def wa:Key:=.e Ez
def BT:Key:=.o Le
def EW:Key:=.e Le
def DD:Key:=.o Lf
def BU:Key:=.e Lf
def AY:Key:=.o Iz
def DG:Key:=.e Iz
def Gu:Key:=.o NT
def Gv:Key:=.e NT
def NX:Key:=.o H7
def EX:Key:=.e H7
def Je:Key:=.o Gt
def Lz:Key:=.e Gt
def Jf:Key:=.o Lg
def DH:Key:=.e Lg
def EY:Key:=.o Mv
def Jg:Key:=.e Mv
def RC:Key:=.o NU
def RD:Key:=.e NU
def VQ:Key:=.o NV
def TA:Key:=.e NV
def RE:Key:=.o Om
def RF:Key:=.e Om
def VR:Key:=.o Rr
def Gy:Key:=.e Rr
def RG:Key:=.o Pb
def TB:Key:=.e Pb
def RH:Key:=.o Mw
def TC:Key:=.e Mw
def Jh:Key:=.o H8
def VS:Key:=.e H8
def VT:Key:=.o Mx
def TH:Key:=.e Mx
def LB:Key:=.o Lh
def VU:Key:=.e Lh
def Xj:Key:=.o Pc
def VV:Key:=.e Pc
def YS:Key:=.o Li
def YT:Key:=.e Li
def YU:Key:=.o Pd
def aaq:Key:=.e Pd
def PI:Key:=.o NW
def aca:Key:=.e NW
def adI:Key:=.o Se
def adJ:Key:=.e Se
def acb:Key:=.o Sf
def acd:Key:=.e Sf
def ace:Key:=.o Uz
def acf:Key:=.e Uz
def adK:Key:=.o VL
def YV:Key:=.e VL
def adL:Key:=.o UA
def acg:Key:=.e UA
def adM:Key:=.o Vq
def YW:Key:=.e Vq
def ach:Key:=.o Ly
def aci:Key:=.e Ly
def acj:Key:=.o Vr
def adN:Key:=.e Vr
def adO:Key:=.o Ww
def YX:Key:=.e Ww
def ack:Key:=.o VM
def adP:Key:=.e VM
def acm:Key:=.o VN
def acn:Key:=.e VN
def aii:Key:=.o Sh
def afh:Key:=.e Sh
def aij:Key:=.o XY
def aco:Key:=.e XY
def aik:Key:=.o XZ
def afi:Key:=.e XZ
def afj:Key:=.o Xi
def ail:Key:=.e Xi
def afk:Key:=.o X7
def aim:Key:=.e X7
def afl:Key:=.o X8
def ain:Key:=.e X8
def afm:Key:=.o UB
def afn:Key:=.e UB
def aio:Key:=.o VO
def afD:Key:=.e VO
def afE:Key:=.o YO
def aip:Key:=.e YO
def afo:Key:=.o Z9
def afp:Key:=.e Z9
def afq:Key:=.o k96
def afr:Key:=.e k96
def afs:Key:=.o YP
def aft:Key:=.e YP
def afu:Key:=.o VP
def aiq:Key:=.e VP
def air:Key:=.o YQ
def afv:Key:=.e YQ
def afw:Key:=.o yK
def ais:Key:=.e yK
def afx:Key:=.o AZ
def afy:Key:=.e AZ
def afz:Key:=.o qY
def ait:Key:=.e qY
def afA:Key:=.o BR
def afB:Key:=.e BR
def afC:Key:=.o Dy
def ajR:Key:=.e Dy
def aiu:Key:=.o BS
def ajS:Key:=.e BS
def ajT:Key:=.o DB
def amJ:Key:=.e DB
def afF:Key:=.o DC
def ajU:Key:=.e DC
def ajV:Key:=.o wa
def ajW:Key:=.e wa
def afG:Key:=.o BT
def amK:Key:=.e BT
def ajX:Key:=.o EW
def ajY:Key:=.e EW
def aar:Key:=.o DD
def amL:Key:=.e DD
def ajZ:Key:=.o BU
def aj0:Key:=.e BU
def aj1:Key:=.o AY
def amM:Key:=.e AY
def aj2:Key:=.o DG
def aas:Key:=.e DG
def aj3:Key:=.o Gu
def aj4:Key:=.e Gu
def amN:Key:=.o Gv
def aj5:Key:=.e Gv
def aj6:Key:=.o NX
def aj7:Key:=.e NX
def amO:Key:=.o EX
def aj8:Key:=.e EX
def akg:Key:=.o Je
def akh:Key:=.e Je
def aj9:Key:=.o Lz
def aka:Key:=.e Lz
def akb:Key:=.o Jf
def akc:Key:=.e Jf
def akd:Key:=.o DH
def ake:Key:=.e DH
def akf:Key:=.o EY
def amP:Key:=.e EY
def amQ:Key:=.o Jg
def aqH:Key:=.e Jg
def aqI:Key:=.o RC
def aqJ:Key:=.e RC
def aqK:Key:=.o RD
def aqL:Key:=.e RD
def aqM:Key:=.o VQ
def avv:Key:=.e VQ
def aqN:Key:=.o TA
def aqO:Key:=.e TA
def aqP:Key:=.o RE
def aqQ:Key:=.e RE
def aqR:Key:=.o RF
def aqS:Key:=.e RF
def aqT:Key:=.o VR
def aqU:Key:=.e VR
def avw:Key:=.o Gy
def aqV:Key:=.e Gy
def aqW:Key:=.o RG
def aqX:Key:=.e RG
def aqY:Key:=.o TB
def aqZ:Key:=.e TB
def aq0:Key:=.o RH
def aq1:Key:=.e RH
def aq2:Key:=.o TC
def aq3:Key:=.e TC
def aru:Key:=.o Jh
def arv:Key:=.e Jh
def aq4:Key:=.o VS
def aq5:Key:=.e VS
def aq6:Key:=.o VT
def aq7:Key:=.e VT
def aq8:Key:=.o TH
def aq9:Key:=.e TH
def ara:Key:=.o LB
def arb:Key:=.e LB
def arc:Key:=.o VU
def ard:Key:=.e VU
def arf:Key:=.o Xj
def avx:Key:=.e Xj
def arh:Key:=.o VV
def ari:Key:=.e VV
def arj:Key:=.o YS
def ark:Key:=.e YS
def arl:Key:=.o YT
def arn:Key:=.e YT
def aro:Key:=.o YU
def arp:Key:=.e YU
def arq:Key:=.o aaq
def ars:Key:=.e aaq
def art:Key:=.o PI
def avy:Key:=.e PI
@[simp] theorem aMv:k0=K 0:=aZ rfl
@[simp] theorem aMw:k1=K 1:=aZ rfl
@[simp] theorem aMx:k2=K 2:=aZ rfl
@[simp] theorem aMy:k3=K 3:=aZ rfl
@[simp] theorem aMz:k4=K 4:=aZ rfl
@[simp] theorem aMA:k5=K 5:=aZ rfl
@[simp] theorem aMB:k6=K 6:=aZ rfl
@[simp] theorem aMC:k7=K 7:=aZ rfl
@[simp] theorem aMD:k8=K 8:=aZ rfl
@[simp] theorem aME:k9=K 9:=aZ rfl
@[simp] theorem aIo:bM=K 10:=aZ rfl
@[simp] theorem aIp:bW=K 11:=aZ rfl
@[simp] theorem aIq:cr=K 12:=aZ rfl
@[simp] theorem aIr:cu=K 13:=aZ rfl
@[simp] theorem aIs:bZ=K 14:=aZ rfl
@[simp] theorem aIt:cv=K 15:=aZ rfl
@[simp] theorem aIu:cK=K 16:=aZ rfl
@[simp] theorem aIv:cO=K 17:=aZ rfl
@[simp] theorem aIw:dv=K 18:=aZ rfl
@[simp] theorem aIx:dx=K 19:=aZ rfl
@[simp] theorem aIy:db=K 20:=aZ rfl
@[simp] theorem aIz:dB=K 21:=aZ rfl
@[simp] theorem aIA:cV=K 22:=aZ rfl
@[simp] theorem aIB:eH=K 23:=aZ rfl
@[simp] theorem aIC:fh=K 24:=aZ rfl
@[simp] theorem aID:ic=K 25:=aZ rfl
@[simp] theorem aIE:fJ=K 26:=aZ rfl
@[simp] theorem aIF:hU=K 27:=aZ rfl
@[simp] theorem aIG:jm=K 28:=aZ rfl
@[simp] theorem aIH:gu=K 29:=aZ rfl
@[simp] theorem aII:jK=K 30:=aZ rfl
@[simp] theorem aIJ:mj=K 31:=aZ rfl
@[simp] theorem aIK:mu=K 32:=aZ rfl
@[simp] theorem aIL:mv=K 33:=aZ rfl
@[simp] theorem aIM:jB=K 34:=aZ rfl
@[simp] theorem aIN:mS=K 35:=aZ rfl
@[simp] theorem aIO:lY=K 36:=aZ rfl
@[simp] theorem aIP:iX=K 37:=aZ rfl
@[simp] theorem aIQ:oK=K 38:=aZ rfl
@[simp] theorem aIR:qZ=K 39:=aZ rfl
@[simp] theorem aIS:jv=K 40:=aZ rfl
@[simp] theorem aIT:q9=K 41:=aZ rfl
@[simp] theorem aIU:qV=K 42:=aZ rfl
@[simp] theorem aIV:qW=K 43:=aZ rfl
@[simp] theorem aIW:qX=K 44:=aZ rfl
@[simp] theorem aIX:sg=K 45:=aZ rfl
@[simp] theorem aIY:rC=K 46:=aZ rfl
@[simp] theorem aIZ:vH=K 47:=aZ rfl
@[simp] theorem aI0:vk=K 48:=aZ rfl
@[simp] theorem aI1:vF=K 49:=aZ rfl
@[simp] theorem aI2:uD=K 50:=aZ rfl
@[simp] theorem aI3:ue=K 51:=aZ rfl
@[simp] theorem aI4:BD=K 52:=aZ rfl
@[simp] theorem aI5:Ez=K 53:=aZ rfl
@[simp] theorem aI6:Le=K 54:=aZ rfl
@[simp] theorem aI7:Lf=K 55:=aZ rfl
@[simp] theorem aI8:Iz=K 56:=aZ rfl
@[simp] theorem aI9:NT=K 57:=aZ rfl
@[simp] theorem aJa:H7=K 58:=aZ rfl
@[simp] theorem aJb:Gt=K 59:=aZ rfl
@[simp] theorem aJc:Lg=K 60:=aZ rfl
@[simp] theorem aJd:Mv=K 61:=aZ rfl
@[simp] theorem aJe:NU=K 62:=aZ rfl
@[simp] theorem aJf:NV=K 63:=aZ rfl
@[simp] theorem aJg:Om=K 64:=aZ rfl
@[simp] theorem aJh:Rr=K 65:=aZ rfl
@[simp] theorem aJi:Pb=K 66:=aZ rfl
@[simp] theorem aJj:Mw=K 67:=aZ rfl
@[simp] theorem aJk:H8=K 68:=aZ rfl
@[simp] theorem aJl:Mx=K 69:=aZ rfl
@[simp] theorem aJm:Lh=K 70:=aZ rfl
@[simp] theorem aJn:Pc=K 71:=aZ rfl
@[simp] theorem aJo:Li=K 72:=aZ rfl
@[simp] theorem aJp:Pd=K 73:=aZ rfl
@[simp] theorem aJq:NW=K 74:=aZ rfl
@[simp] theorem aJr:Se=K 75:=aZ rfl
@[simp] theorem aJs:Sf=K 76:=aZ rfl
@[simp] theorem aJt:Uz=K 77:=aZ rfl
@[simp] theorem aJu:VL=K 78:=aZ rfl
@[simp] theorem aJv:UA=K 79:=aZ rfl
@[simp] theorem aJw:Vq=K 80:=aZ rfl
@[simp] theorem aJx:Ly=K 81:=aZ rfl
@[simp] theorem aJy:Vr=K 82:=aZ rfl
@[simp] theorem aJz:Ww=K 83:=aZ rfl
@[simp] theorem aJA:VM=K 84:=aZ rfl
@[simp] theorem aJB:VN=K 85:=aZ rfl
@[simp] theorem aJC:Sh=K 86:=aZ rfl
@[simp] theorem aJD:XY=K 87:=aZ rfl
@[simp] theorem aJE:XZ=K 88:=aZ rfl
@[simp] theorem aJF:Xi=K 89:=aZ rfl
@[simp] theorem aJG:X7=K 90:=aZ rfl
@[simp] theorem aJH:X8=K 91:=aZ rfl
@[simp] theorem aJI:UB=K 92:=aZ rfl
@[simp] theorem aJJ:VO=K 93:=aZ rfl
@[simp] theorem aJK:YO=K 94:=aZ rfl
@[simp] theorem aJL:Z9=K 95:=aZ rfl
@[simp] theorem aJM:k96=K 96:=aZ rfl
@[simp] theorem aJN:YP=K 97:=aZ rfl
@[simp] theorem aJO:VP=K 98:=aZ rfl
@[simp] theorem aJP:YQ=K 99:=aZ rfl
@[simp] theorem aBv:yK=K 100:=aZ rfl
@[simp] theorem aBw:AZ=K 101:=aZ rfl
@[simp] theorem aBx:qY=K 102:=aZ rfl
@[simp] theorem aBy:BR=K 103:=aZ rfl
@[simp] theorem aBz:Dy=K 104:=aZ rfl
@[simp] theorem aBA:BS=K 105:=aZ rfl
@[simp] theorem aBB:DB=K 106:=aZ rfl
@[simp] theorem aBC:DC=K 107:=aZ rfl
@[simp] theorem aBD:wa=K 108:=aZ rfl
@[simp] theorem aBE:BT=K 109:=aZ rfl
@[simp] theorem aBF:EW=K 110:=aZ rfl
@[simp] theorem aBG:DD=K 111:=aZ rfl
@[simp] theorem aBH:BU=K 112:=aZ rfl
@[simp] theorem aBI:AY=K 113:=aZ rfl
@[simp] theorem aBJ:DG=K 114:=aZ rfl
@[simp] theorem aBK:Gu=K 115:=aZ rfl
@[simp] theorem aBL:Gv=K 116:=aZ rfl
@[simp] theorem aBM:NX=K 117:=aZ rfl
@[simp] theorem aBN:EX=K 118:=aZ rfl
@[simp] theorem aBO:Je=K 119:=aZ rfl
@[simp] theorem aBP:Lz=K 120:=aZ rfl
@[simp] theorem aBQ:Jf=K 121:=aZ rfl
@[simp] theorem aBR:DH=K 122:=aZ rfl
@[simp] theorem aBS:EY=K 123:=aZ rfl
@[simp] theorem aBT:Jg=K 124:=aZ rfl
@[simp] theorem aBU:RC=K 125:=aZ rfl
@[simp] theorem aBV:RD=K 126:=aZ rfl
@[simp] theorem aBW:VQ=K 127:=aZ rfl
@[simp] theorem aBX:TA=K 128:=aZ rfl
@[simp] theorem aBY:RE=K 129:=aZ rfl
@[simp] theorem aBZ:RF=K 130:=aZ rfl
@[simp] theorem aB0:VR=K 131:=aZ rfl
@[simp] theorem aB1:Gy=K 132:=aZ rfl
@[simp] theorem aB2:RG=K 133:=aZ rfl
@[simp] theorem aB3:TB=K 134:=aZ rfl
@[simp] theorem aB4:RH=K 135:=aZ rfl
@[simp] theorem aB5:TC=K 136:=aZ rfl
@[simp] theorem aB6:Jh=K 137:=aZ rfl
@[simp] theorem aB7:VS=K 138:=aZ rfl
@[simp] theorem aB8:VT=K 139:=aZ rfl
@[simp] theorem aB9:TH=K 140:=aZ rfl
@[simp] theorem aCa:LB=K 141:=aZ rfl
@[simp] theorem aCb:VU=K 142:=aZ rfl
@[simp] theorem aCc:Xj=K 143:=aZ rfl
@[simp] theorem aCd:VV=K 144:=aZ rfl
@[simp] theorem aCe:YS=K 145:=aZ rfl
@[simp] theorem aCf:YT=K 146:=aZ rfl
@[simp] theorem aCg:YU=K 147:=aZ rfl
@[simp] theorem aCh:aaq=K 148:=aZ rfl
@[simp] theorem aCi:PI=K 149:=aZ rfl
@[simp] theorem aCj:aca=K 150:=aZ rfl
@[simp] theorem aCk:adI=K 151:=aZ rfl
@[simp] theorem aCl:adJ=K 152:=aZ rfl
@[simp] theorem aCm:acb=K 153:=aZ rfl
@[simp] theorem aCn:acd=K 154:=aZ rfl
@[simp] theorem aCo:ace=K 155:=aZ rfl
@[simp] theorem aCp:acf=K 156:=aZ rfl
@[simp] theorem aCq:adK=K 157:=aZ rfl
@[simp] theorem aCr:YV=K 158:=aZ rfl
@[simp] theorem aCs:adL=K 159:=aZ rfl
@[simp] theorem aCt:acg=K 160:=aZ rfl
@[simp] theorem aCu:adM=K 161:=aZ rfl
@[simp] theorem aCv:YW=K 162:=aZ rfl
@[simp] theorem aCw:ach=K 163:=aZ rfl
@[simp] theorem aCx:aci=K 164:=aZ rfl
@[simp] theorem aCy:acj=K 165:=aZ rfl
@[simp] theorem aCz:adN=K 166:=aZ rfl
@[simp] theorem aCA:adO=K 167:=aZ rfl
@[simp] theorem aCB:YX=K 168:=aZ rfl
@[simp] theorem aCC:ack=K 169:=aZ rfl
@[simp] theorem aCD:adP=K 170:=aZ rfl
@[simp] theorem aCE:acm=K 171:=aZ rfl
@[simp] theorem aCF:acn=K 172:=aZ rfl
@[simp] theorem aCG:aii=K 173:=aZ rfl
@[simp] theorem aCH:afh=K 174:=aZ rfl
@[simp] theorem aCI:aij=K 175:=aZ rfl
@[simp] theorem aCJ:aco=K 176:=aZ rfl
@[simp] theorem aCK:aik=K 177:=aZ rfl
@[simp] theorem aCL:afi=K 178:=aZ rfl
@[simp] theorem aCM:afj=K 179:=aZ rfl
@[simp] theorem aCN:ail=K 180:=aZ rfl
@[simp] theorem aCO:afk=K 181:=aZ rfl
@[simp] theorem aCP:aim=K 182:=aZ rfl
@[simp] theorem aCQ:afl=K 183:=aZ rfl
@[simp] theorem aCR:ain=K 184:=aZ rfl
@[simp] theorem aCS:afm=K 185:=aZ rfl
@[simp] theorem aCT:afn=K 186:=aZ rfl
@[simp] theorem aCU:aio=K 187:=aZ rfl
@[simp] theorem aCV:afD=K 188:=aZ rfl
@[simp] theorem aCW:afE=K 189:=aZ rfl
@[simp] theorem aCX:aip=K 190:=aZ rfl
@[simp] theorem aCY:afo=K 191:=aZ rfl
@[simp] theorem aCZ:afp=K 192:=aZ rfl
@[simp] theorem aC0:afq=K 193:=aZ rfl
@[simp] theorem aC1:afr=K 194:=aZ rfl
@[simp] theorem aC2:afs=K 195:=aZ rfl
@[simp] theorem aC3:aft=K 196:=aZ rfl
@[simp] theorem aC4:afu=K 197:=aZ rfl
@[simp] theorem aC5:aiq=K 198:=aZ rfl
@[simp] theorem aC6:air=K 199:=aZ rfl
@[simp] theorem aC7:afv=K 200:=aZ rfl
@[simp] theorem aC8:afw=K 201:=aZ rfl
@[simp] theorem aC9:ais=K 202:=aZ rfl
@[simp] theorem aDa:afx=K 203:=aZ rfl
@[simp] theorem aDb:afy=K 204:=aZ rfl
@[simp] theorem aDc:afz=K 205:=aZ rfl
@[simp] theorem aDd:ait=K 206:=aZ rfl
@[simp] theorem aDe:afA=K 207:=aZ rfl
@[simp] theorem aDf:afB=K 208:=aZ rfl
@[simp] theorem aDg:afC=K 209:=aZ rfl
@[simp] theorem aDh:ajR=K 210:=aZ rfl
@[simp] theorem aDi:aiu=K 211:=aZ rfl
@[simp] theorem aDj:ajS=K 212:=aZ rfl
@[simp] theorem aDk:ajT=K 213:=aZ rfl
@[simp] theorem aDl:amJ=K 214:=aZ rfl
@[simp] theorem aDm:afF=K 215:=aZ rfl
@[simp] theorem aDn:ajU=K 216:=aZ rfl
@[simp] theorem aDo:ajV=K 217:=aZ rfl
@[simp] theorem aDp:ajW=K 218:=aZ rfl
@[simp] theorem aDq:afG=K 219:=aZ rfl
@[simp] theorem aDr:amK=K 220:=aZ rfl
@[simp] theorem aDs:ajX=K 221:=aZ rfl
@[simp] theorem aDt:ajY=K 222:=aZ rfl
@[simp] theorem aDu:aar=K 223:=aZ rfl
@[simp] theorem aDv:amL=K 224:=aZ rfl
@[simp] theorem aDw:ajZ=K 225:=aZ rfl
@[simp] theorem aDx:aj0=K 226:=aZ rfl
@[simp] theorem aDy:aj1=K 227:=aZ rfl
@[simp] theorem aDz:amM=K 228:=aZ rfl
@[simp] theorem aDA:aj2=K 229:=aZ rfl
@[simp] theorem aDB:aas=K 230:=aZ rfl
@[simp] theorem aDC:aj3=K 231:=aZ rfl
@[simp] theorem aDD:aj4=K 232:=aZ rfl
@[simp] theorem aDE:amN=K 233:=aZ rfl
@[simp] theorem aDF:aj5=K 234:=aZ rfl
@[simp] theorem aDG:aj6=K 235:=aZ rfl
@[simp] theorem aDH:aj7=K 236:=aZ rfl
@[simp] theorem aDI:amO=K 237:=aZ rfl
@[simp] theorem aDJ:aj8=K 238:=aZ rfl
@[simp] theorem aDK:akg=K 239:=aZ rfl
@[simp] theorem aDL:akh=K 240:=aZ rfl
@[simp] theorem aDM:aj9=K 241:=aZ rfl
@[simp] theorem aDN:aka=K 242:=aZ rfl
@[simp] theorem aDO:akb=K 243:=aZ rfl
@[simp] theorem aDP:akc=K 244:=aZ rfl
@[simp] theorem aDQ:akd=K 245:=aZ rfl
@[simp] theorem aDR:ake=K 246:=aZ rfl
@[simp] theorem aDS:akf=K 247:=aZ rfl
@[simp] theorem aDT:amP=K 248:=aZ rfl
@[simp] theorem aDU:amQ=K 249:=aZ rfl
@[simp] theorem aDV:aqH=K 250:=aZ rfl
@[simp] theorem aDW:aqI=K 251:=aZ rfl
@[simp] theorem aDX:aqJ=K 252:=aZ rfl
@[simp] theorem aDY:aqK=K 253:=aZ rfl
@[simp] theorem aDZ:aqL=K 254:=aZ rfl
@[simp] theorem aD0:aqM=K 255:=aZ rfl
@[simp] theorem aD1:avv=K 256:=aZ rfl
@[simp] theorem aD2:aqN=K 257:=aZ rfl
@[simp] theorem aD3:aqO=K 258:=aZ rfl
@[simp] theorem aD4:aqP=K 259:=aZ rfl
@[simp] theorem aD5:aqQ=K 260:=aZ rfl
@[simp] theorem aD6:aqR=K 261:=aZ rfl
@[simp] theorem aD7:aqS=K 262:=aZ rfl
@[simp] theorem aD8:aqT=K 263:=aZ rfl
@[simp] theorem aD9:aqU=K 264:=aZ rfl
@[simp] theorem aEa:avw=K 265:=aZ rfl
@[simp] theorem aEb:aqV=K 266:=aZ rfl
@[simp] theorem aEc:aqW=K 267:=aZ rfl
@[simp] theorem aEd:aqX=K 268:=aZ rfl
@[simp] theorem aEe:aqY=K 269:=aZ rfl
@[simp] theorem aEf:aqZ=K 270:=aZ rfl
@[simp] theorem aEg:aq0=K 271:=aZ rfl
@[simp] theorem aEh:aq1=K 272:=aZ rfl
@[simp] theorem aEi:aq2=K 273:=aZ rfl
@[simp] theorem aEj:aq3=K 274:=aZ rfl
@[simp] theorem aEk:aru=K 275:=aZ rfl
@[simp] theorem aEl:arv=K 276:=aZ rfl
@[simp] theorem aEm:aq4=K 277:=aZ rfl
@[simp] theorem aEn:aq5=K 278:=aZ rfl
@[simp] theorem aEo:aq6=K 279:=aZ rfl
@[simp] theorem aEp:aq7=K 280:=aZ rfl
@[simp] theorem aEq:aq8=K 281:=aZ rfl
@[simp] theorem aEr:aq9=K 282:=aZ rfl
@[simp] theorem aEs:ara=K 283:=aZ rfl
@[simp] theorem aEt:arb=K 284:=aZ rfl
@[simp] theorem aEu:arc=K 285:=aZ rfl
@[simp] theorem aEv:ard=K 286:=aZ rfl
@[simp] theorem aEw:arf=K 287:=aZ rfl
@[simp] theorem aEx:avx=K 288:=aZ rfl
@[simp] theorem aEy:arh=K 289:=aZ rfl
@[simp] theorem aEz:ari=K 290:=aZ rfl
@[simp] theorem aEA:arj=K 291:=aZ rfl
@[simp] theorem aEB:ark=K 292:=aZ rfl
@[simp] theorem aEC:arl=K 293:=aZ rfl
@[simp] theorem aED:arn=K 294:=aZ rfl
@[simp] theorem aEE:aro=K 295:=aZ rfl
@[simp] theorem aEF:arp=K 296:=aZ rfl
@[simp] theorem aEG:arq=K 297:=aZ rfl
@[simp] theorem aEH:ars=K 298:=aZ rfl
@[simp] theorem aEI:art=K 299:=aZ rfl
@[simp] theorem aEJ:avy=K 300:=aZ rfl
theorem hide{α:Type}{a b:α}(h:a=b):a=b:=h
abbrev I(n:Int):AV:=.int .i64 (.lit n)
def oM(d s:Key):J:=⟨some d,.mov (.t s),none⟩
def oL(d:Key)(n:Nat)(s:Key):J:=⟨some d,.load false n (.t s),none⟩
def oA(d:Key)(n:Nat)(s:Key):J:=⟨some d,.load true n (.t s),none⟩
def oF(d:Key)(n:Nat)(s:Key):J:=⟨some d,.fieldA n (.t s),none⟩
def oS(n:Nat)(a s:Key):J:=⟨none,.store n (.t a) (.t s),none⟩
def oN(d s:Key):J:=⟨some d,.nilc (.t s),none⟩
def oZ(d s:Key):J:=⟨some d,.lenL (.t s),none⟩
def oE(d s:Key)(n:Int):J:=⟨some d,.bin .eql (.t s) (.v (I n)),none⟩
def oI(d:Key)(n:Nat)(s i:Key):J:=⟨some d,.indexL n (.t s) (.t i),none⟩
def oX(d s:Key)(n:Nat):J:=⟨some d,.extract (.t s) n,none⟩
def oB(d s:Key):J:=⟨some d,.box (.t s),none⟩
def oJ(d:Key)(v:AV):J:=⟨some d,.mov (.v v),none⟩
@[simp] theorem aJQ(d s:Key):oM d s=⟨some d,.mov (.t s),none⟩:=hide rfl
@[simp] theorem aJR(d:Key)(n:Nat)(s:Key):oL d n s=⟨some d,.load false n (.t s),none⟩:=hide rfl
@[simp] theorem aJS(d:Key)(n:Nat)(s:Key):oA d n s=⟨some d,.load true n (.t s),none⟩:=hide rfl
@[simp] theorem aJT(d:Key)(n:Nat)(s:Key):oF d n s=⟨some d,.fieldA n (.t s),none⟩:=hide rfl
@[simp] theorem aJU(n:Nat)(a s:Key):oS n a s=⟨none,.store n (.t a) (.t s),none⟩:=hide rfl
@[simp] theorem aJV(d s:Key):oN d s=⟨some d,.nilc (.t s),none⟩:=hide rfl
@[simp] theorem aJW(d s:Key):oZ d s=⟨some d,.lenL (.t s),none⟩:=hide rfl
@[simp] theorem aJX(d s:Key)(n:Int):oE d s n=⟨some d,.bin .eql (.t s) (.v (I n)),none⟩:=hide rfl
@[simp] theorem aJY(d:Key)(n:Nat)(s i:Key):oI d n s i=⟨some d,.indexL n (.t s) (.t i),none⟩:=hide rfl
@[simp] theorem aJZ(d s:Key)(n:Nat):oX d s n=⟨some d,.extract (.t s) n,none⟩:=hide rfl
@[simp] theorem aJ0(d s:Key):oB d s=⟨some d,.box (.t s),none⟩:=hide rfl
@[simp] theorem aJ1(d:Key)(v:AV):oJ d v=⟨some d,.mov (.v v),none⟩:=hide rfl
instance:Coe Key PX:=⟨.t⟩
instance:Coe AV PX:=⟨.v⟩
instance:Coe (List J) U:=⟨.ops⟩
def oC(d:Key)(f:Nat)(l:List PX):J:=⟨some d,.callF f l,none⟩
@[simp] theorem aJ2(d:Key)(f:Nat)(l:List PX):oC d f l=⟨some d,.callF f l,none⟩:=hide rfl
def oT(d s g:Key):J:=⟨some d,.mov (.t s),some (g,true)⟩
@[simp] theorem aJ3(d s g:Key):oT d s g=⟨some d,.mov (.t s),some (g,true)⟩:=hide rfl
def oQ(d s g:Key):J:=⟨some d,.mov (.t s),some (g,false)⟩
@[simp] theorem aJ4(d s g:Key):oQ d s g=⟨some d,.mov (.t s),some (g,false)⟩:=hide rfl
def oP(d a b:Key):J:=⟨some d,.pick (.t a) (.t b) (.v (.bool false)),none⟩
@[simp] theorem aJ5(d a b:Key):oP d a b=⟨some d,.pick (.t a) (.t b) (.v (.bool false)),none⟩:=hide rfl
end Go.Sx
/-
 SV: looking up blocks made one behind the other. No condition.
-/
namespace Go.Sx
open Go
theorem aG{a b:Key}(h:a.toNat≠b.toNat):a≠b:=fun e=>h (by rw[e])
theorem yr{a b:Key}(h:a.toNat≠b.toNat)(v:Option ab)(t:T ab):aa a (aK b v t)=aa a t:=bU _ _ _ _ (aG h)
variable(n:Key)(v:Option ab)(t:T ab)
@[simp] theorem aE8:aa n (aK n.succ v t)=aa n t:=yr (by simp;try omega) v t
@[simp] theorem aE9:aa n (aK n.succ.succ v t)=aa n t:=yr (by simp;try omega) v t
@[simp] theorem aFa:aa n (aK n.succ.succ.succ v t)=aa n t:=yr (by simp;try omega) v t
@[simp] theorem aFb:aa n (aK n.succ.succ.succ.succ v t)=aa n t:=yr (by simp;try omega) v t
@[simp] theorem aFc:aa n (aK n.succ.succ.succ.succ.succ v t)=aa n t:=yr (by simp;try omega) v t
@[simp] theorem aFd:aa n (aK n.succ.succ.succ.succ.succ.succ v t)=aa n t:=yr (by simp;try omega) v t
@[simp] theorem aFe:aa n (aK n.succ.succ.succ.succ.succ.succ.succ v t)=aa n t:=yr (by simp;try omega) v t
@[simp] theorem aFf:aa n.succ (aK n v t)=aa n.succ t:=yr (by simp;try omega) v t
@[simp] theorem aFg:aa n.succ (aK n.succ.succ v t)=aa n.succ t:=yr (by simp;try omega) v t
@[simp] theorem aFh:aa n.succ (aK n.succ.succ.succ v t)=aa n.succ t:=yr (by simp;try omega) v t
@[simp] theorem aFi:aa n.succ (aK n.succ.succ.succ.succ v t)=aa n.succ t:=yr (by simp;try omega) v t
@[simp] theorem aFj:aa n.succ (aK n.succ.succ.succ.succ.succ v t)=aa n.succ t:=yr (by simp;try omega) v t
@[simp] theorem aFk:aa n.succ (aK n.succ.succ.succ.succ.succ.succ v t)=aa n.succ t:=yr (by simp;try omega) v t
@[simp] theorem aFl:aa n.succ (aK n.succ.succ.succ.succ.succ.succ.succ v t)=aa n.succ t:=yr (by simp;try omega) v t
@[simp] theorem aFm:aa n.succ.succ (aK n v t)=aa n.succ.succ t:=yr (by simp;try omega) v t
@[simp] theorem aFn:aa n.succ.succ (aK n.succ v t)=aa n.succ.succ t:=yr (by simp;try omega) v t
@[simp] theorem aFo:aa n.succ.succ (aK n.succ.succ.succ v t)=aa n.succ.succ t:=yr (by simp;try omega) v t
@[simp] theorem aFp:aa n.succ.succ (aK n.succ.succ.succ.succ v t)=aa n.succ.succ t:=yr (by simp;try omega) v t
@[simp] theorem aFq:aa n.succ.succ (aK n.succ.succ.succ.succ.succ v t)=aa n.succ.succ t:=yr (by simp;try omega) v t
@[simp] theorem aFr:aa n.succ.succ (aK n.succ.succ.succ.succ.succ.succ v t)=aa n.succ.succ t:=yr (by simp;try omega) v t
@[simp] theorem aFs:aa n.succ.succ (aK n.succ.succ.succ.succ.succ.succ.succ v t)=aa n.succ.succ t:=yr (by simp;try omega) v t
@[simp] theorem aFt:aa n.succ.succ.succ (aK n v t)=aa n.succ.succ.succ t:=yr (by simp;try omega) v t
@[simp] theorem aFu:aa n.succ.succ.succ (aK n.succ v t)=aa n.succ.succ.succ t:=yr (by simp;try omega) v t
@[simp] theorem aFv:aa n.succ.succ.succ (aK n.succ.succ v t)=aa n.succ.succ.succ t:=yr (by simp;try omega) v t
@[simp] theorem aFw:aa n.succ.succ.succ (aK n.succ.succ.succ.succ v t)=aa n.succ.succ.succ t:=yr (by simp;try omega) v t
@[simp] theorem aFx:aa n.succ.succ.succ (aK n.succ.succ.succ.succ.succ v t)=aa n.succ.succ.succ t:=yr (by simp;try omega) v t
@[simp] theorem aFy:aa n.succ.succ.succ (aK n.succ.succ.succ.succ.succ.succ v t)=aa n.succ.succ.succ t:=yr (by simp;try omega) v t
@[simp] theorem aFz:aa n.succ.succ.succ (aK n.succ.succ.succ.succ.succ.succ.succ v t)=aa n.succ.succ.succ t:=yr (by simp;try omega) v t
@[simp] theorem aFA:aa n.succ.succ.succ.succ (aK n v t)=aa n.succ.succ.succ.succ t:=yr (by simp;try omega) v t
@[simp] theorem aFB:aa n.succ.succ.succ.succ (aK n.succ v t)=aa n.succ.succ.succ.succ t:=yr (by simp;try omega) v t
@[simp] theorem aFC:aa n.succ.succ.succ.succ (aK n.succ.succ v t)=aa n.succ.succ.succ.succ t:=yr (by simp;try omega) v t
@[simp] theorem aFD:aa n.succ.succ.succ.succ (aK n.succ.succ.succ v t)=aa n.succ.succ.succ.succ t:=yr (by simp;try omega) v t
@[simp] theorem aFE:aa n.succ.succ.succ.succ (aK n.succ.succ.succ.succ.succ v t)=aa n.succ.succ.succ.succ t:=yr (by simp;try omega) v t
@[simp] theorem aFF:aa n.succ.succ.succ.succ (aK n.succ.succ.succ.succ.succ.succ v t)=aa n.succ.succ.succ.succ t:=yr (by simp;try omega) v t
@[simp] theorem aFG:aa n.succ.succ.succ.succ (aK n.succ.succ.succ.succ.succ.succ.succ v t)=aa n.succ.succ.succ.succ t:=yr (by simp;try omega) v t
@[simp] theorem aFH:aa n.succ.succ.succ.succ.succ (aK n v t)=aa n.succ.succ.succ.succ.succ t:=yr (by simp;try omega) v t
@[simp] theorem aFI:aa n.succ.succ.succ.succ.succ (aK n.succ v t)=aa n.succ.succ.succ.succ.succ t:=yr (by simp;try omega) v t
@[simp] theorem aFJ:aa n.succ.succ.succ.succ.succ (aK n.succ.succ v t)=aa n.succ.succ.succ.succ.succ t:=yr (by simp;try omega) v t
@[simp] theorem aFK:aa n.succ.succ.succ.succ.succ (aK n.succ.succ.succ v t)=aa n.succ.succ.succ.succ.succ t:=yr (by simp;try omega) v t
@[simp] theorem aFL:aa n.succ.succ.succ.succ.succ (aK n.succ.succ.succ.succ v t)=aa n.succ.succ.succ.succ.succ t:=yr (by simp;try omega) v t
@[simp] theorem aFM:aa n.succ.succ.succ.succ.succ (aK n.succ.succ.succ.succ.succ.succ v t)=aa n.succ.succ.succ.succ.succ t:=yr (by simp;try omega) v t
@[simp] theorem aFN:aa n.succ.succ.succ.succ.succ (aK n.succ.succ.succ.succ.succ.succ.succ v t)=aa n.succ.succ.succ.succ.succ t:=yr (by simp;try omega) v t
@[simp] theorem aFO:aa n.succ.succ.succ.succ.succ.succ (aK n v t)=aa n.succ.succ.succ.succ.succ.succ t:=yr (by simp;try omega) v t
@[simp] theorem aFP:aa n.succ.succ.succ.succ.succ.succ (aK n.succ v t)=aa n.succ.succ.succ.succ.succ.succ t:=yr (by simp;try omega) v t
@[simp] theorem aFQ:aa n.succ.succ.succ.succ.succ.succ (aK n.succ.succ v t)=aa n.succ.succ.succ.succ.succ.succ t:=yr (by simp;try omega) v t
@[simp] theorem aFR:aa n.succ.succ.succ.succ.succ.succ (aK n.succ.succ.succ v t)=aa n.succ.succ.succ.succ.succ.succ t:=yr (by simp;try omega) v t
@[simp] theorem aFS:aa n.succ.succ.succ.succ.succ.succ (aK n.succ.succ.succ.succ v t)=aa n.succ.succ.succ.succ.succ.succ t:=yr (by simp;try omega) v t
@[simp] theorem aFT:aa n.succ.succ.succ.succ.succ.succ (aK n.succ.succ.succ.succ.succ v t)=aa n.succ.succ.succ.succ.succ.succ t:=yr (by simp;try omega) v t
@[simp] theorem aFU:aa n.succ.succ.succ.succ.succ.succ (aK n.succ.succ.succ.succ.succ.succ.succ v t)=aa n.succ.succ.succ.succ.succ.succ t:=yr (by simp;try omega) v t
@[simp] theorem aFV:aa n.succ.succ.succ.succ.succ.succ.succ (aK n v t)=aa n.succ.succ.succ.succ.succ.succ.succ t:=yr (by simp;try omega) v t
@[simp] theorem aFW:aa n.succ.succ.succ.succ.succ.succ.succ (aK n.succ v t)=aa n.succ.succ.succ.succ.succ.succ.succ t:=yr (by simp;try omega) v t
@[simp] theorem aFX:aa n.succ.succ.succ.succ.succ.succ.succ (aK n.succ.succ v t)=aa n.succ.succ.succ.succ.succ.succ.succ t:=yr (by simp;try omega) v t
@[simp] theorem aFY:aa n.succ.succ.succ.succ.succ.succ.succ (aK n.succ.succ.succ v t)=aa n.succ.succ.succ.succ.succ.succ.succ t:=yr (by simp;try omega) v t
@[simp] theorem aFZ:aa n.succ.succ.succ.succ.succ.succ.succ (aK n.succ.succ.succ.succ v t)=aa n.succ.succ.succ.succ.succ.succ.succ t:=yr (by simp;try omega) v t
@[simp] theorem aF0:aa n.succ.succ.succ.succ.succ.succ.succ (aK n.succ.succ.succ.succ.succ v t)=aa n.succ.succ.succ.succ.succ.succ.succ t:=yr (by simp;try omega) v t
@[simp] theorem aF1:aa n.succ.succ.succ.succ.succ.succ.succ (aK n.succ.succ.succ.succ.succ.succ v t)=aa n.succ.succ.succ.succ.succ.succ.succ t:=yr (by simp;try omega) v t
@[simp] theorem atU(k:IntKind):rm (.int k (.lit 2))=some 2:=rfl
@[simp] theorem aoY(k:IntKind):rm (.int k (.lit 3))=some 3:=rfl
theorem r7:∀ (k:Key),Key.beq k k=true
 |.z=>rfl
 |.o k=>by rw[Key.beq];exact r7 k
 |.e k=>by rw[Key.beq];exact r7 k
theorem afX(f:SF):SF.beq f f=true:=by cases f<;>simp[SF.beq,r7]
mutual
def AV.lits:AV→Bool
 |.int _ (.lit _)=>true
 |.int _ _=>false
 |.fn _ a c=>AV.kP a&&AV.kP c
 |.iface _ v=>AV.lits v
 |.agg l=>AV.kP l
 |.tuple l=>AV.kP l
 |.sl l _ _ _=>AV.kP l
 |.cref l=>AV.kP l
 |_=>true
def AV.kP:List AV→Bool
 | []=>true
 |v ::l=>AV.lits v&&AV.kP l
end
mutual
theorem beq_refl:∀ (v:AV),AV.lits v=true→AV.beq v v=true
 |.bool b,_=>by simp[AV.beq]
 |.int k (.lit n),_=>by cases k<;>simp[AV.beq,SI.beq]
 |.int k (.var n),h=>by simp[AV.lits] at h
 |.int k (.bin o k' a b),h=>by simp[AV.lits] at h
 |.str n c,_=>by simp[AV.beq]
 |.ptr b o,_=>by simp[AV.beq,r7]
 |.nilp,_=>by simp[AV.beq]
 |.slice b o l s,_=>by simp[AV.beq,r7]
 |.nils,_=>by simp[AV.beq]
 |.map b,_=>by simp[AV.beq,r7]
 |.nilm,_=>by simp[AV.beq]
 |.fn f a c,h=>by simp[AV.lits] at h;simp[AV.beq,z7 a h.1,z7 c h.2]
 |.yld l,_=>by simp[AV.beq,r7]
 |.nilf,_=>by simp[AV.beq]
 |.iface t v,h=>by simp[AV.lits] at h;simp[AV.beq,beq_refl v h]
 |.nili,_=>by simp[AV.beq]
 |.agg l,h=>by simp[AV.lits] at h;simp[AV.beq,z7 l h]
 |.tuple l,h=>by simp[AV.lits] at h;simp[AV.beq,z7 l h]
 |.sl l n z f,h=>by simp[AV.lits] at h;simp[AV.beq,afX,z7 l h]
 |.cref l,h=>by simp[AV.lits] at h;simp[AV.beq,z7 l h]
theorem z7:∀ (l:List AV),AV.kP l=true→AV.Us l l=true
 | [],_=>by simp[AV.Us]
 |v ::l,h=>by simp[AV.kP] at h;simp[AV.Us,beq_refl v h.1,z7 l h.2]
end
end Go.Sx
/-
 SG: what serves any program: functions of a machine, rows of flat cells, rows that grow. No condition.
-/
namespace Go.Sx
open Go
structure Fn(C:cU)(f:Nat)(p:eG):Prop where
 get:OL C f=some p
 off:∀ l h nx,C.sum f l h nx=none
 IS:C.IS f=false
theorem Fn.call{C:cU}{f:Nat}{p:eG}(S:Fn C f p){l:List AV}{h:T ab}{nx:Key}{R:Out→T ab→Key→Prop}(hw:bt C p.body (aN p.res R) (ml l (K 0) .nil) h nx):aO C f l h nx R:=
 aO.of (S.off _ _ _) S.get S.IS hw
abbrev S:=Nat×Nat
def XP(c:AV):Prop:=∀ n h,ax n c h=(c,h)
theorem VH(l:List AV)(n z:Nat):XP (.sl l n z .any):=fun k h=>by cases k<;>rfl
theorem QS:XP .nils:=fun k h=>by cases k<;>rfl
theorem Lt(k:IntKind)(n:SI):XP (.int k n):=fun k h=>by cases k<;>rfl
theorem Uo(a b:Nat):XP (.str a b):=fun k h=>by cases k<;>rfl
theorem akQ(b:Bool):XP (.bool b):=fun k h=>by cases k<;>rfl
theorem av{n:Nat}:∀ {l:List AV} {h:T ab},(∀ x∈l,XP x)→az (ax n) l h=(l,h)
 | [],_,_=>rfl
 |v ::l,h,hs=>by
  have h1:=hs v (by simp) n h
  have h2:=av (n:=n) (l:=l) (h:=h) fun x hx=>hs x (by simp[hx])
  simp only[az,h1,h2]
theorem Zu{n:Nat}{b:Key}{len sz:Nat}{l:List AV}{H:T ab}(hg:aa b H=some (.cells l .part))(hl:l.length=len*sz)(hs:∀ x∈l,XP x):ax (n+1) (.slice b 0 len sz) H=(.sl l len sz .any,aK b none H):=by
 simp only[ax,QM,hg,List.drop_zero]
 rw[if_pos (by omega),XO (by omega),av hs]
theorem si{n:Nat}{b:Key}{len sz:Nat}{l:List AV}{H:T ab}(hg:aa b H=some (.cells l .fix))(hl:l.length=len*sz)(hs:∀ x∈l,XP x):ax (n+1) (.slice b 0 len sz) H=(.sl l len sz .any,aK b (some (.cells l .ro)) H):=by
 simp only[ax,QM,hg,List.drop_zero]
 rw[if_pos (by omega),XO (by omega),av hs]
def XR(C:cU)(f:Nat)(l:List AV)(P:Out→Prop):Prop:=∀ h nx,aO C f l h nx (fun o h' nx'=>P o∧Ext h nx h' nx')
theorem XR.mono{C:cU}{f:Nat}{l:List AV}{P Q:Out→Prop}(hp:XR C f l P)(hq:∀ o,P o→Q o):XR C f l Q:=
 fun h nx=>(hp h nx).mono fun o _ _ ⟨a,b⟩=>⟨hq o a,b⟩
theorem E0(h:T ab)(nx:Key)(B:ab):Ext h nx (aK nx (some B) h) nx.succ:=by
 have s1:=kTSu nx
 exact⟨by omega,fun b hb=>by rw[bA hb]⟩
theorem Ext.put{h h':T ab}{nx nx' k:Key}{B:Option ab}(e:Ext h nx h' nx')(hk:nx.toNat≤k.toNat):Ext h nx (aK k B h') nx':=
 ⟨e.n,fun b hb=>by rw[bA (by omega)];exact e.g b hb⟩
theorem Ext.up{h h':T ab}{nx nx' n2:Key}(e:Ext h nx h' nx')(hn:nx'.toNat≤n2.toNat):Ext h nx h' n2:=⟨by have:=e.n;omega,e.g⟩
section
variable{α:Type}
def aI(enc:α→List AV)(l:List α):List AV:=l.flatMap enc
structure Flat(z:Nat)(enc:α→List AV):Prop where
 len:∀ x,(enc x).length=z
 jh:∀ x,∀ y∈enc x,XP y
 cell:∀ x,∀ y∈enc x,AV.aD y=true
 lits:∀ x,AV.kP (enc x)=true
variable{z:Nat}{enc:α→List AV}
@[simp] theorem auu(enc:α→List AV):aI enc []=[]:=rfl
theorem rj(enc:α→List AV)(x:α)(l:List α):aI enc (x ::l)=enc x++aI enc l:=rfl
theorem IB(enc:α→List AV)(l m:List α):aI enc (l++m)=aI enc l++aI enc m:=by simp[aI]
theorem abf(enc:α→List AV)(x:α):aI enc [x]=enc x:=by simp[aI]
theorem Flat.rows(F:Flat z enc):∀ (l:List α),(aI enc l).length=l.length*z
 | []=>by simp
 |x ::l=>by rw[rj,Lc,F.len,F.rows l,Tj,Nat.add_mul,Nat.one_mul,Nat.add_comm]
theorem Flat.drop(F:Flat z enc):∀ (l:List α) (i:Nat),(aI enc l).drop (i*z)=aI enc (l.drop i)
 |l,0=>by simp
 | [],i+1=>by simp
 |x ::l,i+1=>by
  have hx:(enc x).length=z:=F.len x
  have hz:z≤(i+1)*z:=Nat.le_mul_of_pos_left _ (Nat.succ_pos _)
  have he:(i+1)*z-z=i*z:=by rw[Nat.add_mul,Nat.one_mul];omega
  rw[rj,zqq,List.drop_eq_nil_of_le (by omega),List.nil_append,hx,he,F.drop l i]
  simp
theorem Flat.take(F:Flat z enc):∀ (l:List α) (i:Nat),(aI enc l).take (i*z)=aI enc (l.take i)
 |l,0=>by simp
 | [],i+1=>by simp
 |x ::l,i+1=>by
  have hx:(enc x).length=z:=F.len x
  have hz:z≤(i+1)*z:=Nat.le_mul_of_pos_left _ (Nat.succ_pos _)
  have he:(i+1)*z-z=i*z:=by rw[Nat.add_mul,Nat.one_mul];omega
  rw[rj,zqw,XO (by omega),hx,he,F.take l i]
  simp[rj]
theorem Flat.at(F:Flat z enc){l:List α}{i:Nat}(hi:i<l.length):((aI enc l).drop (i*z)).take z=enc l[i]:=by
 rw[F.drop,zqt hi,rj,List.take_append_of_le_length (by rw[F.len];exact bS _),XO (by rw[F.len];exact bS _)]
theorem Flat.bY(F:Flat z enc)(l:List α):∀ y∈aI enc l,XP y:=by
 intro y hy
 obtain⟨x,_,hx⟩:=List.mem_flatMap.1 hy
 exact F.jh x y hx
theorem Flat.cells(F:Flat z enc)(l:List α):∀ y∈aI enc l,AV.aD y=true:=by
 intro y hy
 obtain⟨x,_,hx⟩:=List.mem_flatMap.1 hy
 exact F.cell x y hx
theorem Flat.auE(F:Flat z enc)(l:List α):(aI enc l).all AV.aD=true:=mi.2 (F.cells l)
def IsR(z:Nat)(enc:α→List AV)(c:AV)(l:List α):Prop:=(c=.nils∧l=[])∨c=.sl (aI enc l) l.length z .any
theorem IsR.jh{c:AV}{l:List α}(h:IsR z enc c l):XP c:=by
 rcases h with⟨rfl,_⟩|rfl
 ·exact QS
 ·exact VH _ _ _
theorem IsR.cell{c:AV}{l:List α}(h:IsR z enc c l):c.aD=true∧c.cells=[c]:=by
 rcases h with⟨rfl,_⟩|rfl<;>exact⟨rfl,rfl⟩
end
def rk(c:AV)(b:Key):Prop:=(∃ len sz,c=.slice b 0 len sz)∨∃ l len sz,c=.sl l len sz (.tok b)
structure App(c:AV)(l:List AV)(len sz:Nat)(h:T ab)(nx n0:Key):Prop where
 is:(c=.nils∧l=[]∧len=0)∨(∃ b:Key,c=.slice b 0 len sz∧aa b h=some (.cells l .part)∧n0.toNat≤b.toNat∧b.toNat<nx.toNat∧l.length=len*sz)∨
  (∃ t:Key,c=.sl l len sz (.tok t)∧aa t h=some .tok∧n0.toNat≤t.toNat∧t.toNat<nx.toNat)
section
variable{c:AV}{l new:List AV}{len sz m:Nat}{h h':T ab}{nx nx' n0:Key}
theorem App.nil(sz:Nat):App .nils [] 0 sz h nx n0:=⟨.inl ⟨rfl,rfl,rfl⟩⟩
theorem App.ae0(ha:App c l len sz h nx n0)(h0:n0.toNat≤nx.toNat)(hn:new.length=m*sz)(hl:len+m≤1048576)(hc:new.all AV.aD=true) :
  ∃ c' h' nx',appendTo sz c new m h nx=.val c' h' nx'∧App c' (l++new) (len+m) sz h' nx' n0∧nx.toNat≤nx'.toNat∧(∀ b:Key,b.toNat<n0.toNat→aa b h'=aa b h)∧∀ b:Key,b.toNat<nx.toNat→(∀ B,aa b h=some B→B≠.tok∧∀ l,B≠.cells l .part)→aa b h'=aa b h:=by
 have s1:=kTSu nx
 by_cases hm:m=0
 ·subst hm
  have:new=[]:=zqr (by omega)
  subst this
  rcases id ha.is with⟨rfl,rfl,rfl⟩|⟨b,rfl,hb,vj,aM,RJ⟩|⟨t,rfl,ht,vj,aM⟩
  ·exact⟨.nils,h,nx,by simp,by simpa using ha,bS _,fun _ _=>rfl,fun _ _ _=>rfl⟩
  ·exact⟨.slice b 0 len sz,h,nx,by have SO:len≤1048576:=hl;simp[hb,SO],by simpa using ha,bS _,fun _ _=>rfl,fun _ _ _=>rfl⟩
  ·exact⟨.sl l len sz (.tok t),h,nx,by simp,by simpa using ha,bS _,fun _ _=>rfl,fun _ _ _=>rfl⟩
 ·rcases id ha.is with⟨rfl,rfl,rfl⟩|⟨b,rfl,hb,vj,aM,RJ⟩|⟨t,rfl,ht,vj,aM⟩
  ·have Cr:m≤1048576:=by omega
   exact⟨.slice nx 0 (0+m) sz,aK nx (some (.cells new .part)) h,nx.succ,by simp[hm,Cr],⟨.inr (.inl ⟨nx,rfl,by simp,by omega,by omega,by simpa using hn⟩)⟩,by omega,fun b hb=>bA (by omega),fun b hb _=>bA hb⟩
  ·refine⟨.sl (l++new) (len+m) sz (.tok nx),aK nx (some .tok) (aK b none h),nx.succ,?_,⟨.inr (.inr ⟨nx,rfl,by simp,by omega,by omega⟩)⟩,by omega,fun x hx=>?_,fun x hx hk=>?_⟩
   ·simp[hl,hc,hb,RJ,hm]
   ·rw[bA (by omega),bA (by omega)]
   ·rw[bA hx,bU]
    rintro rfl
    exact(hk _ hb).2 l rfl
  ·refine⟨.sl (l++new) (len+m) sz (.tok nx),aK nx (some .tok) (aK t none h),nx.succ,?_,⟨.inr (.inr ⟨nx,rfl,by simp,by omega,by omega⟩)⟩,by omega,fun x hx=>?_,fun x hx hk=>?_⟩
   ·simp[hl,hc,ht,hm]
   ·rw[bA (by omega),bA (by omega)]
   ·rw[bA hx,bU]
    rintro rfl
    exact(hk _ ht).1 rfl
theorem App.Bx(ha:App c l len sz h nx n0)(hn:nx.toNat≤nx'.toNat)(hg:∀ b:Key,b.toNat<nx.toNat→(aa b h=some .tok∨∃ l,aa b h=some (.cells l .part))→aa b h'=aa b h):App c l len sz h' nx' n0:=by
 refine⟨?_⟩
 rcases ha.is with⟨rfl,rfl,rfl⟩|⟨b,rfl,hb,vj,aM,RJ⟩|⟨t,rfl,ht,vj,aM⟩
 ·exact .inl ⟨rfl,rfl,rfl⟩
 ·exact .inr (.inl ⟨b,rfl,by rw[hg b aM (.inr ⟨_,hb⟩)];exact hb,vj,by omega,RJ⟩)
 ·exact .inr (.inr ⟨t,rfl,by rw[hg t aM (.inl ht)];exact ht,vj,by omega⟩)
theorem App.ext(ha:App c l len sz h nx n0)(e:Ext h nx h' nx'):App c l len sz h' nx' n0:=ha.Bx e.n fun b hb _=>e.g b hb
theorem App.cell(ha:App c l len sz h nx n0):c.aD=true∧c.cells=[c]:=by
 rcases ha.is with⟨rfl,rfl,rfl⟩|⟨b,rfl,_⟩|⟨t,rfl,_⟩<;>exact⟨rfl,rfl⟩
theorem App.set{k:Key}{B:Option ab}(ha:App c l len sz h nx n0)(hk:∀ B,aa k h=some B→B≠.tok∧∀ l,B≠.cells l .part):App c l len sz (aK k B h) nx n0:=
 ha.Bx (bS _) fun b _ hx=>bU _ _ _ _ fun e=>by
  subst e
  rcases hx with hx|⟨l,hx⟩
  ·exact(hk _ hx).1 rfl
  ·exact(hk _ hx).2 _ rfl
theorem App.OS(ha:App c l len sz h nx n0)(hs:∀ y∈l,XP y)(n:Nat) :
  ((ax (n+1) c h).1=.nils∧l=[]∧len=0∨(ax (n+1) c h).1=.sl l len sz .any)∧∀ b:Key,b.toNat<n0.toNat→aa b (ax (n+1) c h).2=aa b h:=by
 rcases ha.is with⟨rfl,rfl,rfl⟩|⟨b,rfl,hb,vj,aM,RJ⟩|⟨t,rfl,ht,vj,aM⟩
 ·exact⟨.inl ⟨rfl,rfl,rfl⟩,fun _ _=>rfl⟩
 ·rw[Zu hb RJ hs]
  exact⟨.inr rfl,fun x hx=>bA (by omega)⟩
 ·exact⟨.inr rfl,fun _ _=>rfl⟩
theorem App.ahc{α:Type}{enc:α→List AV}(F:Flat sz enc){us:List α}(ha:App c (aI enc us) us.length sz h nx n0)(n:Nat) :
  IsR sz enc (ax (n+1) c h).1 us∧∀ b:Key,b.toNat<n0.toNat→aa b (ax (n+1) c h).2=aa b h:=by
 obtain⟨h1,h2⟩:=ha.OS (F.bY us) n
 refine⟨?_,h2⟩
 rcases h1 with⟨e,_,e3⟩|e
 ·exact .inl ⟨e,zqr e3⟩
 ·exact .inr e
theorem App.aqu{α:Type}{enc:α→List AV}(F:Flat sz enc){us:List α}(ha:App c (aI enc us) us.length sz h nx n0)(h0:n0.toNat≤nx.toNat)(hl:us.length+1≤1048576)(x:α) :
  ∃ c' h' nx',appendTo sz c (enc x) 1 h nx=.val c' h' nx'∧App c' (aI enc (us ++ [x])) (us ++ [x]).length sz h' nx' n0∧nx.toNat≤nx'.toNat∧(∀ b:Key,b.toNat<n0.toNat→aa b h'=aa b h)∧∀ b:Key,b.toNat<nx.toNat→(∀ B,aa b h=some B→B≠.tok∧∀ l,B≠.cells l .part)→aa b h'=aa b h:=by
 obtain⟨c',h',nx',a,b,c,d,e⟩:=ha.ae0 (new:=enc x) (m:=1) h0 (by rw[F.len,Nat.one_mul]) hl (mi.2 (F.cell x))
 exact⟨c',h',nx',a,by rw[IB,abf,Lc];exact b,c,d,e⟩
end
end Go.Sx
/-
 SX: closed runs as known calls; the machine's start. No condition.
-/
namespace Go.Sx
open Go.RowKit
mutual
def AV.kf:AV→Bool
 |.bool _|.int _ _|.str _ _|.nilp|.nils|.nilm|.nilf|.nili=>true
 |.iface _ v=>AV.kf v
 |.agg l=>AV.kfs l
 |.tuple l=>AV.kfs l
 |.sl l _ _ .any=>AV.kfs l
 |.cref l=>AV.kfs l
 |.fn _ a c=>AV.kfs a&&AV.kfs c
 |_=>false
def AV.kfs:List AV→Bool
 | []=>true
 |a ::l=>AV.kf a&&AV.kfs l
end
mutual
theorem bn.kf{ρ:Nat→Int}{μ μ':Mu}(hf:∀ c i v,μ.fz c i=some v→μ'.fz c i=some v):∀ {a:AV} {v:Value},bn ρ μ a v→a.kf=true→bn ρ μ' a v
 |_,_,.bool b,_=>.bool b
 |_,_,.int k s n h,_=>.int k s n h
 |_,_,.str n c s h h',_=>.str n c s h h'
 |_,_,.ptr b off l a h ha,hk=>by simp[AV.kf] at hk
 |_,_,.nilp,_=>.nilp
 |_,_,.slice b off len sz cap l a h hc hl ha,hk=>by simp[AV.kf] at hk
 |_,_,.nils,_=>.nils
 |_,_,.map b l r h hr,hk=>by simp[AV.kf] at hk
 |_,_,.nilm,_=>.nilm
 |_,_,.fn f first cap vs ws h h',hk=>by
  simp only[AV.kf,Ad] at hk
  exact .fn f first cap vs ws (aB.kf hf h hk.1) (aB.kf hf h' hk.2)
 |_,_,.yld b l r h hr,hk=>by simp[AV.kf] at hk
 |_,_,.nilf,_=>.nilf
 |_,_,.iface t a v h,hk=>.iface t a v (bn.kf hf h (by simpa[AV.kf] using hk))
 |_,_,.nili,_=>.nili
 |_,_,.agg l vs h,hk=>.agg l vs (aB.kf hf h (by simpa[AV.kf] using hk))
 |_,_,.tuple l vs h,hk=>.tuple l vs (aB.kf hf h (by simpa[AV.kf] using hk))
 |_,_,.sl l len sz fl cap c o a vs h hn hl ha hff hg,hk=>by
  cases fl with
  |any=>exact .sl l len sz .any cap c o a vs (aB.kf hf h (by simpa[AV.kf] using hk)) hn hl ha (fun i v e=>hf _ _ _ (hff i v e)) trivial
  |tok b=>simp[AV.kf] at hk
 |_,_,.cref l c o a vs h ha hff,hk=>.cref l c o a vs (aB.kf hf h (by simpa[AV.kf] using hk)) ha (fun i v e=>hf _ _ _ (hff i v e))
theorem aB.kf{ρ:Nat→Int}{μ μ':Mu}(hf:∀ c i v,μ.fz c i=some v→μ'.fz c i=some v):∀ {l:List AV} {vs:List Value},aB ρ μ l vs→AV.kfs l=true→aB ρ μ' l vs
 |_,_,.nil,_=>.nil
 |_,_,.cons a l v vs h h',hk=>by
  simp only[AV.kfs,Ad] at hk
  exact .cons a l v vs (bn.kf hf h hk.1) (aB.kf hf h' hk.2)
end
structure qE(P:Program)(heap0:T ab)(w0:W0):Prop where
 size:P.globals.size≤w0.heap.size
 at_:∀ b B,aa b heap0=some B→b.toNat<P.globals.size∧∃ L arr elem f,B=.cells L .ro∧w0.heap[b.toNat]?=some (.cells arr elem f)∧(∀ (ρ:Nat→Int) (μ:Mu),aB ρ μ L arr.toList)∧∀ i v,arr[i]?=some v→w0.z b.toNat i=some v
section
variable{P:Program}{ρ:Nat→Int}{heap0:T ab}
noncomputable def Zx(heap0:T ab)(b:Key):Nat:=match aa b heap0 with
 |some (.cells L _)=>L.length
 |_=>0
noncomputable def gMu(P:Program)(heap0:T ab)(fz:Nat→Nat→Option Value):Mu:=⟨fun b=>if b.toNat<P.globals.size then some ⟨b.toNat,0,Zx heap0 b⟩ else none,fz⟩
theorem U0{fz:Nat→Nat→Option Value}{b:Key}{l:Loc}(h:(gMu P heap0 fz) b=some l):b.toNat<P.globals.size∧l=⟨b.toNat,0,Zx heap0 b⟩:=by
 have h:(if b.toNat<P.globals.size then some (⟨b.toNat,0,Zx heap0 b⟩:Loc) else none)=some l:=h
 split at h
 ·rename_i hb;cases h;exact⟨hb,rfl⟩
 ·cases h
theorem Ru{w0:W0}(hL:qE P heap0 w0)(hz:∀ c i v,w0.z c i=some v→∃ arr elem f,w0.heap[c]?=some (.cells arr elem f)∧arr[i]?=some v){nx:Nat}(hn:P.globals.size≤nx) :
  bG P ρ w0 (gMu P heap0 w0.z) (fun b=>aa b heap0) nx w0.toWorld:=by
 have awO:∀ b:Key,b.toNat<P.globals.size→(gMu P heap0 w0.z) b=some ⟨b.toNat,0,Zx heap0 b⟩:=by
  intro b hb
  show(if b.toNat<P.globals.size then some (⟨b.toNat,0,Zx heap0 b⟩:Loc) else none)=_
  rw[if_pos hb]
 refine⟨?_,?_,?_,?_,?_,?_,Below.refl _ _,hz,?_,fun _ _ _ h=>h,fun _ _ _ h=>.inr h,?_,bS _⟩
 ·intro b B hb
  obtain⟨h1,L,arr,elem,f,rfl,h3,h4,h5⟩:=hL.at_ b B hb
  have hlen:L.length=arr.size:=by simpa using(h4 ρ (gMu P heap0 w0.z)).length
  refine⟨_,_,awO b h1,h3,.cells L .ro _ arr elem f ?_ ?_ ?_ (fun h=>absurd rfl h) ?_⟩
  ·intro i a ha
   obtain⟨v,hv,hr⟩:=(h4 ρ (gMu P heap0 w0.z)).get i a ha
   exact⟨v,by simpa using hv,hr⟩
  ·show 0+Zx heap0 b≤arr.size
   simp only[Zx,hb];omega
  ·show L.length≤Zx heap0 b
   simp only[Zx,hb];exact bS _
  ·intro _
   show L.length=Zx heap0 b
   simp only[Zx,hb]
 ·intro b b' B B' l l' h1 h2 m1 m2 eM
  obtain⟨_,rfl⟩:=U0 m1
  obtain⟨_,rfl⟩:=U0 m2
  exact fun e=>eM (Key.toNat_inj e)
 ·intro b l m
  obtain⟨h1,rfl⟩:=U0 m
  exact YK h1 hL.size
 ·intro b B l hb m
  obtain⟨h1,L,arr,elem,f,rfl,_⟩:=hL.at_ b B hb
  exact .inl trivial
 ·intro k hk
  exact⟨_,awO k hk⟩
 ·intro b l m
  obtain⟨h1,rfl⟩:=U0 m
  omega
 ·intro b B l n hb m vj i hi
  obtain⟨h1,L,arr,elem,f,rfl,_⟩:=hL.at_ b B hb
  cases vj
 ·intro b L l hb m
  obtain⟨_,rfl⟩:=U0 m
  obtain⟨h1,L',arr,elem,f,e,h3,h4,h5⟩:=hL.at_ b _ hb
  refine .inr fun Tv ee ff i v ha hv=>?_
  have ha:w0.heap[b.toNat]?=some (.cells Tv ee ff):=ha
  rw[h3] at ha;cases ha
  exact h5 i v hv
theorem qE.later{w0:W0}{w:World}{fz:Nat→Nat→Option Value}(hL:qE P heap0 w0)(hb:Below w0.heap.size w0.toWorld w)(hz:∀ c i v,w0.z c i=some v→fz c i=some v):qE P heap0 ⟨w,fz⟩:=by
 refine⟨Nat.le_trans hL.size hb.size,fun b B h=>?_⟩
 obtain⟨h1,L,arr,elem,f,h2,h3,h4,h5⟩:=hL.at_ b B h
 refine⟨h1,L,arr,elem,f,h2,?_,h4,fun i v hv=>hz _ _ _ (h5 i v hv)⟩
 show w.heap[b.toNat]?=_
 rw[hb.block _ (YK h1 hL.size)]
 exact h3
theorem af8{C:cU}(hX:∀ w0:W0,qE P heap0 w0→Ctx P ρ w0 C){f:Nat}{p:eG}(hp:pFn P f=some p){l:List AV}(hl:AV.kfs l=true){v:AV}(hv:v.kf=true){n:Nat}{nx0 nx':Key}{H':T ab}(hn:P.globals.size≤nx0.toNat)
  (fe:Tt C n ⟨mn f p l,[],heap0,nx0⟩=.done f v H' nx'):∀ w0:W0,qE P heap0 w0→∀ H nx,Wp P ρ w0 f l H nx v H nx:=by
 intro w0 hL H nx args w μ G hM hH iv
 have Zo:qE P heap0 ⟨w,μ.fz⟩:=hL.later hM.below hM.zle
 have hM1:=Ru (ρ:=ρ) (w0:=⟨w,μ.fz⟩) Zo hM.fzw (nx:=nx0.toNat) hn
 have ha1:aB ρ (gMu P heap0 μ.fz) l args.toList:=aB.kf (μ:=μ) (μ':=gMu P heap0 μ.fz) (fun _ _ _ h=>h) iv hl
 refine(ajw (hX _ Zo) hp hM1 (fun _ _ h=>h) ha1 fe).mono ?_
 rintro e w' ⟨u,μ1,G1,rfl,hvr,hle,hM2,_⟩
 have hb:Below w.heap.size w w':=hM2.below
 have hfz:∀ c i x,μ1.fz c i=some x→w.heap.size≤c∨μ.fz c i=some x:=hM2.fzo
 have WN:μ.le ⟨μ.loc,μ1.fz⟩:=⟨fun _ _ h=>h,fun c i x h=>hle.f c i x h⟩
 refine⟨u,⟨μ.loc,μ1.fz⟩,G,rfl,bn.kf (μ:=μ1) (μ':=⟨μ.loc,μ1.fz⟩) (fun _ _ _ h=>h) hvr hv,WN,?_,hH,⟨fun _ _ _=>rfl,fun _ _=>rfl,fun _ h _=>h,bS _⟩⟩
 have aed:∀ b l,μ b=some l→w'.heap[l.c]?=w.heap[l.c]?:=fun b l h=>hb.block _ (hM.Cs b l h)
 refine⟨?_,hM.sep,?_,hM.own,hM.Xk,hM.new,hM.below.trans (hb.mono hM.below.size),hM2.fzw,?_,?_,?_,?_,Nat.le_trans hM.dr hM2.dr⟩
 ·intro b B hg
  obtain⟨l,o,h1,h2,h3⟩:=hM.Vo b B hg
  exact⟨l,o,h1,by rw[aed b l h1];exact h2,h3.mono WN⟩
 ·intro b l h
  exact YK (hM.Cs b l h) hb.size
 ·intro b B l n hg hm vj i hi
  show μ1.fz l.c i=none
  cases h:μ1.fz l.c i with
  |none=>rfl
  |some x=>
   rcases hfz _ _ _ h with h'|h'
   ·exact absurd (hM.Cs b l hm) (Nat.not_lt.2 h')
   ·rw[hM.fzf b B l n hg hm vj i hi] at h';cases h'
 ·intro c i x h;exact hle.f c i x (hM.zle c i x h)
 ·intro c i x h
  rcases hfz c i x h with h'|h'
  ·exact .inl (Nat.le_trans hM.below.size h')
  ·exact hM.fzo c i x h'
 ·intro b L l hg hm
  rcases hM.rof b L l hg hm with h|h
  ·exact .inl h
  ·refine .inr fun arr e f i x ha hx=>hle.f _ _ _ (h arr e f i x ?_ hx)
   rw[← aed b l hm];exact ha
def ah6(tab:List (Nat×List AV×AV))(f:Nat)(l:List AV)(h:T ab)(nx:Key):Option (AV×T ab×Key):=match tab with
 | []=>none
 |(g,m,v) ::r=>bif Nat.beq f g&&AV.Us l m then some (v,h,nx) else ah6 r f l h nx
theorem Wb:∀ {tab:List (Nat×List AV×AV)} {f:Nat} {l:List AV} {h:T ab} {nx:Key} {r:AV×T ab×Key},ah6 tab f l h nx=some r→∃ v,(f,l,v)∈tab∧r=(v,h,nx)
 | [],_,_,_,_,_,e=>by cases e
 |(g,m,v) ::tab,f,l,h,nx,r,e=>by
  unfold ah6 at e
  cases hb:(Nat.beq f g&&AV.Us l m) with
  |false=>
   rw[hb] at e
   obtain⟨v',h1,h2⟩:=Wb (tab:=tab) e
   exact⟨v',List.mem_cons_of_mem _ h1,h2⟩
  |true=>
   rw[hb] at e
   simp only[cond_true,dO] at e
   simp only[Ad] at hb
   have h1:=yB hb.1
   have h2:=AV.nD _ _ hb.2
   subst h1 h2
   exact⟨v,by simp,e.symm⟩
theorem Q0{C:cU}{w0:W0}{w:World}{μ0:Mu}{G0:Key→Option ab}{H:T ab}{nx:Key}(X:Ctx P ρ w0 C){f:Nat}{l:List AV}{args:Array Value}(hM:bG P ρ w0 μ0 G0 nx.toNat w)(hH:HSub H G0)(hl:aB ρ μ0 l args.toList)
  {R:Out→T ab→Key→Prop} (hR:∀ o h nx,R o h nx→∃ v,o=.ret v) (hc:aO C f l H nx R) :
  Calls P f args w fun e w'=>∃ v h' nx' u μ G,R (.ret v) h' nx'∧e=.returned u∧bn ρ μ v u∧μ0.le μ∧bG P ρ w0 μ G nx'.toNat w'∧HSub h' G:=by
 rcases hc with⟨v,h',nx',hs,hr⟩|⟨hs,p,hp,fe⟩
 ·refine(X.sum f l H nx v h' nx' hs args w μ0 G0 hM hH hl).mono ?_
  rintro e w' ⟨u,μ',G',rfl,h1,h2,h3,h4,_⟩
  exact⟨v,h',nx',u,μ',G',hr,rfl,h1,h2,h3,h4⟩
 ·have hpf:pFn P f=some p:=X.fns f p hp
  intro cs
  have hm:Yp P ρ C.orc w0 μ0 ⟨mn f p l,[],H,nx⟩ (Frame.enter P f args .normal) [] w:=
   ⟨μ0,G0,μ0.le_refl,hM,hH,Eg hpf hl false,trivial,by simp[bX,pk,mn]⟩
  obtain⟨am',ur,IN,w',⟨o,h',nx',fr,h1,hr,Ui,hdf,⟨hd,hL⟩,rfl⟩,s1,s2⟩:=Ev.sound (rest:=cs) X (fe []) hm
  obtain⟨v,rfl⟩:=hR o h' nx' hr
  obtain⟨Cr,l1,hl1,rfl,rfl⟩:=hL
  have SU:rl C ⟨fr,[],h1,nx'⟩=.done f (vU (cW (C.IS f) l1 h1).1) (cW (C.IS f) l1 h1).2 nx':=by
   unfold rl
   simp only[Cr]
   unfold Rp
   simp only[hd,Cr,hl1,Ui,IQ]
   unfold XX
   simp only[hdf,cond_false,Ui]
  have hg:=GK (rest:=cs) X s2
  rw[SU] at hg
  obtain⟨fr2,w2,μ,G,u,t1,t2,t3,t4,t5,t6,t7⟩:=hg
  exact⟨.returned u,w2,fr2,⟨_,_,_,u,μ,G,hr,rfl,t4,t5,t6,t7⟩,s1.trans t1,t2,t3⟩
noncomputable def Q2:List (Nat×eG)→T eG
 | []=>.nil
 |(i,p) ::l=>aK (Key.lZ 12 i) (some p) (Q2 l)
theorem Zy:∀ {l:List (Nat×eG)} {k:Key} {p:eG},aa k (Q2 l)=some p→∃ i,(i,p)∈l∧k=Key.lZ 12 i
 | [],k,p,h=>by simp[Q2] at h
 |(i,q) ::l,k,p,h=>by
  simp only[Q2] at h
  by_cases e:k=Key.lZ 12 i
  ·subst e;rw[gTSm] at h;cases h;exact⟨i,by simp,rfl⟩
  ·rw[bU _ _ _ _ e] at h
   obtain⟨j,h1,h2⟩:=Zy h
   exact⟨j,List.mem_cons_of_mem _ h1,h2⟩
def KZ(P:Program):List (Nat×eG)→Prop
 | []=>True
 |(i,p) ::l=>(Nat.blt i 8000=true∧pFn P i=some p)∧KZ P l
theorem KZ.mem:∀ {l:List (Nat×eG)},KZ P l→∀ {i:Nat} {p:eG},(i,p)∈l→i<8000∧pFn P i=some p
 | [],_,_,_,h=>by cases h
 |(j,q) ::l,ha,i,p,h=>by
  rcases xH.1 h with e|e
  ·cases e
   have:=ha.1.1
   rw[bltN_eq,decide_eq_true_eq] at this
   exact⟨this,ha.1.2⟩
  ·exact KZ.mem ha.2 e
noncomputable def ahe(fns:T eG)(tab:List (Nat×List AV×AV)):cU:=⟨[],fns,ah6 tab,fun _=>false,fun _=>false⟩
theorem ak8{fns:T eG}{aek:List (Nat×eG)}(hb:fns=Q2 aek)(ha:KZ P aek){tab:List (Nat×List AV×AV)}{f:Nat}{p:eG}(h:OL (ahe fns tab) f=some p):pFn P f=some p:=by
 unfold OL at h
 cases hk:Nat.beq (Key.lZ 12 f).toNat f with
 |false=>rw[hk] at h;cases h
 |true=>
  rw[hk] at h
  have hk:=yB hk
  have h:aa (Key.lZ 12 f) fns=some p:=h
  rw[hb] at h
  obtain⟨i,h1,h2⟩:=Zy h
  obtain⟨h3,h4⟩:=ha.mem h1
  have:i=f:=by
   have e:=congrArg Key.toNat h2
   rw[hk,xA 12 i (by omega)] at e
   exact e.symm
  subst this
  exact h4
def IT(P:Program)(ρ:Nat→Int)(heap0:T ab):List (Nat×List AV×AV)→Prop
 | []=>True
 |(f,l,v) ::r=>((∃ p,pFn P f=some p)∧∀ w0:W0,qE P heap0 w0→∀ H nx,Wp P ρ w0 f l H nx v H nx)∧IT P ρ heap0 r
theorem IT.mem:∀ {tab:List (Nat×List AV×AV)},IT P ρ heap0 tab→∀ {f:Nat} {l:List AV} {v:AV},(f,l,v)∈tab→(∃ p,pFn P f=some p)∧∀ w0:W0,qE P heap0 w0→∀ H nx,Wp P ρ w0 f l H nx v H nx
 | [],_,_,_,_,h=>by cases h
 |(g,m,u) ::r,ht,f,l,v,h=>by
  rcases xH.1 h with e|e
  ·cases e;exact ht.1
  ·exact IT.mem ht.2 e
theorem abR{fns:T eG}{aek:List (Nat×eG)}(hb:fns=Q2 aek)(ha:KZ P aek)(asu:P.follows .mixedOrders=true){tab:List (Nat×List AV×AV)}(ht:IT P ρ heap0 tab)(w0:W0)(hL:qE P heap0 w0):Ctx P ρ w0 (ahe fns tab):=by
 refine⟨?_,?_,jt.nil ρ,fun f p h=>ak8 hb ha h,asu⟩
 ·intro f l H nx a H' nx' hs
  obtain⟨v,h1,h2⟩:=Wb hs
  cases h2
  exact(ht.mem h1).2 w0 hL H nx
 ·intro f l H nx r hs
  obtain⟨v,h1,h2⟩:=Wb hs
  obtain⟨⟨p,hp⟩,_⟩:=ht.mem h1
  obtain⟨fn,c,f1,f2,f3,_⟩:=AO hp
  exact⟨fn,f1,by rw[f2];rfl,f3⟩
def ana:SR→Option (Nat×AV)
 |.done f v _ _=>some (f,v)
 |_=>none
theorem aiI{r:SR}{f:Nat}{v:AV}(h:ana r=some (f,v)):∃ H nx,r=.done f v H nx:=by
 cases r with
 |done g u H nx=>simp only[ana,dO,Prod.mk.injEq] at h;obtain⟨rfl,rfl⟩:=h;exact⟨H,nx,rfl⟩
 |next m=>cases h
 |alt l=>cases h
 |pan v h' nx=>cases h
 |bad n m=>cases h
theorem akK{fns:T eG}{aek:List (Nat×eG)}(hb:fns=Q2 aek)(ha:KZ P aek)(asu:P.follows .mixedOrders=true){tab awP:List (Nat×List AV×AV)}(ht:IT P ρ heap0 tab)(ht2:IT P ρ heap0 awP){f:Nat}{p:eG}(hp:pFn P f=some p){l:List AV}{v:AV}{n:Nat}{nx0:Key}
  (hl:AV.kfs l=true) (hv:v.kf=true) (hn:P.globals.size≤nx0.toNat) (fe:ana (Tt (ahe fns tab) n ⟨mn f p l,[],heap0,nx0⟩)=some (f,v)):IT P ρ heap0 ((f,l,v) ::awP):=by
 obtain⟨H',nx',hr⟩:=aiI fe
 exact⟨⟨⟨p,hp⟩,af8 (fun w0 hL=>abR hb ha asu ht w0 hL) hp hl hv hn hr⟩,ht2⟩
end
end Go.Sx
/-
 SG: slices.SortFunc on rows of flat parts, as a known call. No condition.
-/
namespace Go.Sx
open Go Go.RowKit Go.Sort
section
variable{α:Type}[Inhabited α]{k:Nat}{eA:α→List AV}{eV:α→List Value}
structure Two(k:Nat)(eA:α→List AV)(eV:α→List Value):Prop where
 flat:Flat k eA
 len:∀ x,(eV x).length=k
 one:∀ x,∀ v∈eV x,v.oneCell'=true
 rel:∀ (ρ:Nat→Int) (μ:Mu) x,aB ρ μ (eA x) (eV x)
 det:∀ (ρ:Nat→Int) (μ:Mu) x (i:Nat) a v,(eA x)[i]?=some a→bn ρ μ a v→(eV x)[i]?=some v
theorem abB(F:Flat k eA){l:List α}{i r:Nat}(hi:i<l.length)(hr:r<k):(aI eA l)[i*k+r]?=(eA l[i])[r]?:=by
 rw[← F.at hi,List.getElem?_take_of_lt hr,List.getElem?_drop]
theorem atp{w:World}{c off m:Nat}{d:Array α}{os:Array Obj}{arr:Array Value}{elem:TypeId}{fz:Nat×Nat}(h:w.heap[c]?=some (.cells arr elem fz)) :
  (Go.Proofs.sortWorldK eV k w c off m d os).heap[c]?=some (.cells (putCells id off (flatK eV k d) arr) elem fz):=by
 have hc:c<w.heap.size:=(Array.getElem?_eq_some_iff.1 h).1
 simp only[Go.Proofs.sortWorldK,grow,putRowK,putRow,mapBlock,Go.Sort.ahead,Array.getElem?_append,Array.size_modify,hc,if_true,Array.getElem?_modify,h,Option.map_some,onCells]
theorem Vk{w:World}{c off m:Nat}{d:Array α}{os:Array Obj}{c':Nat}(eM:c'≠c)(h:c'<w.heap.size) :
  (Go.Proofs.sortWorldK eV k w c off m d os).heap[c']?=w.heap[c']?:=by
 simp only[Go.Proofs.sortWorldK,grow,putRowK,putRow,mapBlock,Go.Sort.ahead,Array.getElem?_append,Array.size_modify,h,if_true,Array.getElem?_modify,Ne.symm eM,if_false]
theorem ahP{w:World}{c off m:Nat}{d:Array α}{os:Array Obj}:w.heap.size≤(Go.Proofs.sortWorldK eV k w c off m d os).heap.size:=by
 simp[Go.Proofs.sortWorldK,grow,putRowK,putRow,mapBlock,Go.Sort.ahead]
theorem aeG{w:World}{B c off m:Nat}{d:Array α}{os:Array Obj}(hB:B≤c)(hw:B≤w.heap.size):Below B w (Go.Proofs.sortWorldK eV k w c off m d os):=
 ⟨rfl,rfl,rfl,ahP,fun i hi=>Vk (by omega) (by omega)⟩
theorem ZZ{W w':World}(hb:Below W.heap.size W w')(hd:W.drawn≤w'.drawn):∃ q os',w'=grow (W.drewN q) os':=by
 refine⟨w'.drawn-W.drawn,w'.heap.extract W.heap.size w'.heap.size,?_⟩
 obtain⟨h1,h2,h3,h4,h5⟩:=hb
 have he:w'.heap=W.heap++w'.heap.extract W.heap.size w'.heap.size:=by
  apply Array.ext_getElem?
  intro i
  rw[Array.getElem?_append]
  split
  ·rename_i hi;exact h5 i hi
  ·rename_i hi
   rw[Array.getElem?_extract]
   by_cases hi2:i<w'.heap.size
   ·rw[if_pos (by omega)];congr 1;omega
   ·rw[if_neg (by omega),zqj (by omega)]
 cases w' with
 |mk heap tape drawn os output=>
  simp only[grow,World.drewN] at *
  subst h1 h2 h3
  congr 1
  omega
end
section
variable{P:Program}{ρ:Nat→Int}{heap0:T ab}{C:cU}{α:Type}[Inhabited α]{k:Nat}{eA:α→List AV}{eV:α→List Value}
theorem aoi{R:Go.Shelf.Ren}(hX:∀ w0:W0,qE P heap0 w0→Ctx P ρ w0 C)(T2:Two k eA eV){cf:α→α→Int}{g:Nat}{nx0:Key}(hn:P.globals.size≤nx0.toNat)
  (hc:∀ x y,aO C g [.agg (eA x),.agg (eA y)] heap0 nx0 fun o _ _=>o=.ret (.int .i64 (.lit (cf x y))))
  {w0:W0} (hL:qE P heap0 w0) {w:World} {μ:Mu} {G:Key→Option ab} {nx:Nat} (hM:bG P ρ w0 μ G nx w) {c off n:Nat} (mO:w0.heap.size≤c) (hfz:∀ i,μ.fz c i=none) (ON:c<w.heap.size) :
  Go.Proofs.CmpLays P g #[] eV k cf c off n w:=by
 intro m os dk _ x y
 have hb:Below w0.heap.size w0.toWorld (Go.Proofs.sortWorldK eV k w c off m dk os):=hM.below.trans (aeG mO hM.below.size)
 have Zo:qE P heap0 ⟨Go.Proofs.sortWorldK eV k w c off m dk os,w0.z⟩:=hL.later hb fun _ _ _ h=>h
 have hz:∀ c' i v,w0.z c' i=some v→∃ arr elem f,(Go.Proofs.sortWorldK eV k w c off m dk os).heap[c']?=some (.cells arr elem f)∧arr[i]?=some v:=by
  intro c' i v hv
  have h1:=hM.zle _ _ _ hv
  obtain⟨arr,elem,f,h2,h3⟩:=hM.fzw _ _ _ h1
  refine⟨arr,elem,f,?_,h3⟩
  have eM:c'≠c:=by rintro rfl;rw[hfz] at h1;cases h1
  rw[Vk eM (Array.getElem?_eq_some_iff.1 h2).1]
  exact h2
 have hM1:=Ru (ρ:=ρ) (w0:=⟨Go.Proofs.sortWorldK eV k w c off m dk os,w0.z⟩) Zo hz (nx:=nx0.toNat) hn
 have ha:aB ρ (gMu P heap0 w0.z) [.agg (eA x),.agg (eA y)] (#[Value.agg (eV x).toArray,.agg (eV y).toArray] ++ #[]).toList:=
  .cons _ _ _ _ (.agg _ _ (by simpa using T2.rel ρ _ x)) (.cons _ _ _ _ (.agg _ _ (by simpa using T2.rel ρ _ y)) .nil)
 refine(Q0 (hX _ Zo) hM1 (fun _ _ h=>h) ha (fun o _ _ h=>⟨_,h⟩) (hc x y)).mono ?_
 rintro e w' ⟨v,h',nx',u,μ2,G2,hr,rfl,hv,_,hM2,_⟩
 cases hr
 refine⟨?_,ZZ hM2.below hM2.dr⟩
 cases hv with
 |int _ _ n h=>rw[← h];rfl
theorem holds_of{w:World}{c off:Nat}{us:List α}{arr:Array Value}{elem:TypeId}{μ:Mu}(T2:Two k eA eV)(ho:w.heap[c]?=some (.cells arr elem (0,0)))
  (Jk:∀ (i:Nat) a,(aI eA us)[i]?=some a→∃ v,arr[off+i]?=some v∧bn ρ μ a v):HoldsK eV k w c off us.toArray:=by
 intro j hj
 rw[size_flatK] at hj
 have hk:0<k:=by
  rcases Nat.eq_zero_or_pos k with e|e
  ·subst e;simp at hj
  ·exact e
 have hlen:j<us.length*k:=by simpa using hj
 have hq:j / k<us.length:=Nat.div_lt_of_lt_mul (by rw[Nat.mul_comm];exact hlen)
 have hr:j%k<k:=Nat.mod_lt _ hk
 have sm:(aI eA us)[j]?=(eA us[j / k])[j%k]?:=by
  have:=abB T2.flat hq hr
  rwa [Nat.div_add_mod' j k] at this
 have hex:(eA us[j / k])[j%k]?=some ((eA us[j / k])[j%k]'(by rw[T2.flat.len];exact hr)):=Af _
 obtain⟨v,hv,vG⟩:=Jk j _ (by rw[sm,hex])
 have hd:=T2.det ρ μ _ _ _ _ hex vG
 refine⟨?_,?_⟩
 ·simp only[World.cell?,ho,hv,Option.isSome_none,Yz,if_false,id]
  rw[get_flatK _ _ _ _ hj]
  have e1:us.toArray[j / k]! = us[j / k]:=by simp[hq]
  rw[e1,List.getElem!_eq_getElem?_getD,hd];rfl
 ·simp[World.frozen?,ho]
theorem ajr(hX:∀ w0:W0,qE P heap0 w0→Ctx P ρ w0 C){R:Go.Shelf.Ren}(L:Go.Proofs.SlLaysF0.n6 P R)(aE:∀ w,(isAgg (R.t 24)).run P w=.ok true w)(zE:∀ w,(Go.sizeOf (R.t 24)).run P w=.ok k w)(T2:Two k eA eV){cf:α→α→Int}(hO:SWO (Go.Proofs.ltOf cf))
  (hT:∀ x y,Go.Proofs.ltOf cf x y=false→Go.Proofs.ltOf cf y x=false→x=y) {g:Nat} (eg:∀ args w,(callFunc g args).run P w=.ok (.enter g args) w) {nx0:Key} (hn:P.globals.size≤nx0.toNat)
  (hc:∀ x y,aO C g [.agg (eA x),.agg (eA y)] heap0 nx0 fun o _ _=>o=.ret (.int .i64 (.lit (cf x y)))) {us:List α} (hz:us.length<4611686018427387904)
  {w0:W0} (hL:qE P heap0 w0) {H:T ab} {nx b:Key} (hb:aa b H=some (.cells (aI eA us) .fix)) :
  Wp P ρ w0 (R.f 6) [.slice b 0 us.length k,.fn g [] []] H nx (.tuple []) (aK b (some (.cells (aI eA (us.mergeSort fun x y=>!(Go.Proofs.ltOf cf) y x)) .fix)) H) nx:=by
 intro args w μ G hM hH ha
 obtain⟨args⟩:=args
 have ha:aB ρ μ [.slice b 0 us.length k,.fn g [] []] args:=ha
 cases ha with
 |cons _ _ v1 r1 h1 hr1=>
 cases hr1 with
 |cons _ _ v2 r2 h2 hr2=>
 cases hr2
 cases h2 with
 |fn _ _ _ vs ws hvs hws=>
 obtain⟨vs⟩:=vs
 obtain⟨ws⟩:=ws
 have hvs:aB ρ μ [] vs:=hvs
 have hws:aB ρ μ [] ws:=hws
 cases hvs
 cases hws
 cases h1 with
 |slice _ _ _ _ cap l a hl Ob hle alR=>
 have hG:=hH _ _ hb
 obtain⟨l',o,SO,ho,hB⟩:=hM.Vo _ _ hG
 rw[hl] at SO;cases SO
 cases hB with
 |cells _ _ _ arr elem fz Jk tF avE aHp alS=>
 have aHq:=aHp (by simp);subst aHq
 have alS:=alS (by simp)
 have mO:w0.heap.size≤l.c:=by
  rcases hM.own _ _ _ hG hl with h|h
  ·exact h.elim
  ·exact h
 have hfr:∀ i,μ.fz l.c i=none:=fun i=>hM.fzf b _ l 0 hG hl rfl i (Nat.zero_le _)
 have atq:=hM.Cs _ _ hl
 have Wq:=T2.flat.rows us
 by_cases h0:us=[]
 ·subst h0
  refine(Go.Proofs.AnyF.slices_SortFunc_none L (some a) cap (.func (.func g) #[] #[]) w).mono ?_
  rintro e w' ⟨rfl,rfl⟩
  refine⟨_,μ,G,rfl,.tuple _ _ .nil,μ.le_refl,hM,?_,⟨fun _ _ _=>rfl,fun _ _=>rfl,fun b' h' _=>?_,bS _⟩⟩
  ·intro b' B' h'
   by_cases e:b'=b
   ·subst e;rw[gTSm] at h';cases h';simpa using hG
   ·rw[bU _ _ _ _ e] at h';exact hH _ _ h'
  ·have e:b'≠b:=by rintro rfl;rw[hb] at h';cases h'
   rw[bU _ _ _ _ e];exact h'
 ·have Oc:0<us.length:=List.length_pos_iff.2 h0
  have alR:a=⟨l.c,l.base,none⟩:=by
   rcases alR with h|h
   ·omega
   ·exact h
  subst alR
  have hH1:HoldsK eV k w l.c l.base us.toArray:=holds_of (μ:=μ) T2 ho Jk
  have key:=Go.Proofs.AnyQ.slices_SortFunc_total L k aE zE eV T2.len T2.one cf hO g #[] l.c l.base cap us.toArray w eg
   (aoi (R:=R) hX T2 hn hc hL hM mO hfr atq) hH1 atq (by simpa using hz) hT
  refine(show Calls P (R.f 6) #[.slice (some ⟨l.c,l.base,none⟩) us.length cap,.func (.func g) #[] #[]] w _ from by simpa using key).mono ?_
  rintro e w' ⟨rfl,n,os,rfl⟩
  have hlen:(us.mergeSort fun x y=>!(Go.Proofs.ltOf cf) y x).length=us.length:=List.length_mergeSort _
  generalize hsd:(us.mergeSort fun x y=>!(Go.Proofs.ltOf cf) y x)=sd at hlen ⊢
  have hH2:HoldsK eV k (Go.Proofs.sortWorldK eV k w l.c l.base n sd.toArray os) l.c l.base sd.toArray:=Go.Proofs.holdsK_sortWorldK_c eV k w l.c l.base us.toArray sd.toArray n os hH1 atq (by simpa using hlen)
  have am8:=atp (eV:=eV) (k:=k) (off:=l.base) (m:=n) (d:=sd.toArray) (os:=os) ho
  have ax9:∀ b' B' l',b'≠b→G b'=some B'→μ b'=some l'→(Go.Proofs.sortWorldK eV k w l.c l.base n sd.toArray os).heap[l'.c]?=w.heap[l'.c]?:=fun b' B' l' eM hg hm=>Vk (hM.sep _ _ _ _ _ _ hg hG hm hl eM) (hM.Cs _ _ hm)
  have alT:=T2.flat.rows sd
  have hsr:(aI eA sd).length=(aI eA us).length:=by rw[alT,Wq,hlen]
  refine⟨_,μ,QK G b (some (.cells (aI eA sd) .fix)),rfl,.tuple _ _ .nil,μ.le_refl,?_,?_,⟨fun b' h' _=>?_,fun _ _=>rfl,fun b' h' _=>?_,bS _⟩⟩
  ·refine⟨?_,?_,?_,?_,hM.Xk,hM.new,hM.below.trans (aeG mO hM.below.size),?_,?_,hM.zle,hM.fzo,?_,?_⟩
   ·intro b' B' hg
    by_cases e:b'=b
    ·subst e
     rw[iL] at hg;cases hg
     refine⟨l,_,hl,am8,.cells _ _ _ _ _ _ ?_ ?_ ?_ (fun _=>rfl) ?_⟩
     ·intro i x hx
      have hi:i<sd.length*k:=by rw[← alT];exact(List.getElem?_eq_some_iff.1 hx).1
      have hj:=(hH2 i (by rw[size_flatK];simpa using hi)).1
      simp only[World.cell?,am8,Option.isSome_none,Yz,if_false,id] at hj
      refine⟨_,hj,?_⟩
      have hk:0<k:=by
       rcases Nat.eq_zero_or_pos k with e|e
       ·subst e;simp at hi
       ·exact e
      have hq:i / k<sd.length:=Nat.div_lt_of_lt_mul (by rw[Nat.mul_comm];exact hi)
      have hr:i%k<k:=Nat.mod_lt _ hk
      rw[get_flatK _ _ _ _ (by simpa using hi)]
      have e1:sd.toArray[i / k]! = sd[i / k]:=by simp[hq]
      have sm:=abB T2.flat hq hr
      rw[Nat.div_add_mod' i k,hx] at sm
      obtain⟨v,hv,vG⟩:=(T2.rel ρ μ sd[i / k]).get _ _ sm.symm
      rw[e1,List.getElem!_eq_getElem?_getD,hv]
      exact vG
     ·simpa[putCells] using tF
     ·rw[hsr];exact avE
     ·intro _;rw[hsr];exact alS
    ·rw[cg _ _ e] at hg
     obtain⟨l2,o2,h3,h4,h5⟩:=hM.Vo _ _ hg
     exact⟨l2,o2,h3,by rw[ax9 _ _ _ e hg h3];exact h4,h5⟩
   ·intro b1 b2 B1 B2 l1 l2 g1 g2 m1 m2 eM
    have:∀ b' B',QK G b (some (.cells (aI eA sd) .fix)) b'=some B'→∃ B'',G b'=some B'':=by
     intro b' B' h'
     by_cases e:b'=b
     ·subst e;exact⟨_,hG⟩
     ·rw[cg _ _ e] at h';exact⟨_,h'⟩
    obtain⟨x1,y1⟩:=this _ _ g1
    obtain⟨x2,y2⟩:=this _ _ g2
    exact hM.sep _ _ _ _ _ _ y1 y2 m1 m2 eM
   ·intro b' l2 hm
    exact YK (hM.Cs _ _ hm) ahP
   ·intro b' B' l2 hg hm
    by_cases e:b'=b
    ·subst e;rw[hl] at hm;cases hm;exact .inr mO
    ·rw[cg _ _ e] at hg;exact hM.own _ _ _ hg hm
   ·intro c' i v hv
    have eM:c'≠l.c:=by rintro rfl;rw[hfr] at hv;cases hv
    obtain⟨aHr,el,f,h3,h4⟩:=hM.fzw _ _ _ hv
    exact⟨aHr,el,f,by rw[Vk eM (Array.getElem?_eq_some_iff.1 h3).1];exact h3,h4⟩
   ·intro b' B' l2 n2 hg hm vj i hi
    by_cases e:b'=b
    ·subst e;rw[hl] at hm;cases hm;exact hfr i
    ·rw[cg _ _ e] at hg;exact hM.fzf _ _ _ _ hg hm vj i hi
   ·intro b' L2 l2 hg hm
    by_cases e:b'=b
    ·subst e;rw[iL] at hg;cases hg
    ·rw[cg _ _ e] at hg
     rw[ax9 _ _ _ e hg hm]
     exact hM.rof _ _ _ hg hm
   ·show w0.drawn≤w.drawn+n
    have:=hM.dr
    omega
  ·intro b' B' h'
   by_cases e:b'=b
   ·subst e;rw[gTSm] at h';rw[iL];exact h'
   ·rw[bU _ _ _ _ e] at h';rw[cg _ _ e];exact hH _ _ h'
  ·have e:b'≠b:=by rintro rfl;rw[hb] at h';cases h'
   rw[cg _ _ e]
  ·have e:b'≠b:=by rintro rfl;rw[hb] at h';cases h'
   rw[bU _ _ _ _ e];exact h'
end
end Go.Sx
