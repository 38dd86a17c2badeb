/- A part of the proof. No condition. -/
import Derived.Test.YtecbfpngkfdkoaaGreatP6
set_option linter.unusedSimpArgs false
set_option linter.unusedVariables false
set_option linter.unusedSectionVars false
namespace Go.Sx
def K(n:Nat):Key:=bif Nat.blt n 4095 then Key.dL 12 n else Key.dL n n
theorem l7:∀(f n:Nat),n+1<2^(f+1)→(Key.dL f n).toNat=n
 |0,n,h=>by
  have:n=0:=by omega
  subst this;rfl
 |f+1,n,h=>by
  unfold Key.dL;have hp:2^(f+1+1)=2*2^(f+1):=by rw[Nat.pow_succ,Nat.mul_comm]
  cases h0:Nat.beq n 0 with
  |true=>have:=mo h0;subst this;rfl
  |false=>
   have hn:n≠0:=by intro e;subst e;cases h0
   simp only[cond_false];cases h1:Nat.beq (n%2) 1 with
   |true=>have h1:=mo h1;simp only[cond_true,Key.toNat,l7 f (n / 2) (by omega)];omega
   |false=>
    have h1:n%2≠1:=by intro e;rw[e]at h1;cases h1
    simp only[cond_false,Key.toNat,l7 f (n / 2-1) (by omega)];omega
theorem EC(n:Nat):(K n).toNat=n:=by
 unfold K;cases h:Nat.blt n 4095 with
 |true=>rw[bltN_eq,decide_eq_true_eq]at h;exact l7 12 n (by omega)
 |false=>refine l7 n n ?_;have:n+1<2^(n+1):=Nat.lt_two_pow_self;exact this
theorem ad7{i j:Nat}(h:K i=K j):i=j:=by rw[←EC i,←EC j,h]
theorem ZF(n:Nat):(K n).succ=K (n+1):=Key.toNat_inj (by rw[kTSu,EC,EC])
theorem get_set_K{α:Type}(i j:Nat)(v:Option α)(t:T α):ae (K i) (ar (K j) v t)=if i=j then v else ae (K i) t:=by
 by_cases h:i=j
 ·subst h;rw[if_pos rfl,gTSm]
 ·rw[if_neg h,bQ _ _ _ _ (fun e=>h (ad7 e))]
section
variable{orc:dP}{tm:T AV}{h:T ab}{nx:Key}
theorem at_t(k:Key):(PX.t k).at tm=ae k tm:=rfl
theorem at_v(a:AV):(PX.v a).at tm=some a:=rfl
theorem Mz:fX orc [] tm h nx=.fin tm h nx:=rfl
theorem putTm_some(k:Key)(v:AV):aV (some k) v tm=ar k (some v) tm:=rfl
theorem putTm_none(v:AV):aV none v tm=tm:=rfl
theorem wants_none:bJ none tm=some true:=rfl
theorem wants_some(k:Key)(b:Bool):bJ (some (k,b)) tm=match ae k tm with
  |some (.bool c)=>some (c==b)
  |some (.tuple [])=>some false
  |_=>none:=rfl
theorem ltI_dec(a b:Int):TY a b=decide (a<b):=CT a b
theorem aJ{n:Int}(h1:-9223372036854775808≤n)(h2:n<9223372036854775808):aX .i64 n=n:=by
 rw[dV];have:IntKind.wrap .i64 n=n:=by
  rw[←dV];simp only[aX,full,half,CT];have h3:Int.emod n 18446744073709551616=n%18446744073709551616:=rfl;rw[h3];by_cases h0:0≤n
  ·rw[show n%18446744073709551616=n by omega];have:decide (n<9223372036854775808)=true:=by simpa using h2
   rw[this];rfl
  ·rw[show n%18446744073709551616=n+18446744073709551616 by omega];have:decide (n+18446744073709551616<9223372036854775808)=false:=by simp;omega
   rw[this];show n+18446744073709551616-18446744073709551616=n;omega
 exact this
end
end Go.Sx
namespace Go.Sx
open Go.RowKit
def Tu(t:Option Bool)(A B:Prop):Prop:=match t with
 |none=>False
 |some t=>(t=true→A)∧(t=false→B)
noncomputable def xj(C:cX)(Q:cu):List aq→T AV→T ab→Key→Prop
 | [],tm,h,nx=>Q .norm tm h nx
 |o ::l,tm,h,nx=>Tu (bJ o.guard tm)
   (match aOp C.orc o.op tm h nx with
   |.val v h nx=>xj C Q l (aV o.dst v tm) h nx
   |.call f args=>ax C f (bG (C.raw f) args h).1 (bG (C.raw f) args h).2 nx (fun out h nx=>match out with
    |.ret v=>xj C Q l (aV o.dst v tm) h nx
    |.pan a=>Q (.pan a) tm h nx)
   |.yld k args=>IH C k args h nx (fun out h nx=>match out with
    |.ret v=>xj C Q l (aV o.dst v tm) h nx
    |.pan a=>Q (.pan a) tm h nx)
   |.pan a=>Q (.pan a) tm h nx
   |.alt la=>∀v h2,(v,h2)∈la→xj C Q l (aV o.dst v tm) h2 nx
   |_=>False)
   (xj C Q l (aV o.dst (.tuple []) tm) h nx)
noncomputable def wpS(C:cX)(Q:cu)(d:SD):List aT→List (Nat×Key×ab)→T AV→T ab→Key→Prop
 | [],ak,tm,h,nx=>Q .norm tm (bP ak h) nx
 |.L i o ::l,ak,tm,h,nx=>Tu (bJ o.guard tm)
   (match lightOp C.orc o.op tm (qL (xm i d.fQ) ak h)with
   |some v=>wpS C Q d l ak (aV o.dst v tm) h nx
   |none=>False)
   (wpS C Q d l ak (aV o.dst (.tuple []) tm) h nx)
 |.A i o ::l,ak,tm,h,nx=>Tu (bJ o.guard tm)
   (match allocOp o.op tm with
   |some (v,b)=>wpS C Q d l ((i,nx,b) ::ak) (aV o.dst (v nx) tm) h nx.succ
   |none=>False)
   (wpS C Q d l ak (aV o.dst (.tuple []) tm) h nx)
 |.H i o ad ::l,ak,tm,h,nx=>Tu (bJ o.guard tm)
   (match aOp C.orc o.op tm (bP (ak.filter fun x=>memN x.1 ad) h) nx with
   |.val v h nx=>wpS C Q d l (ak.filter fun x=>!(memN x.1 ad)) (aV o.dst v tm) h nx
   |.call f args=>ax C f (bG (C.raw f) args (bP (ak.filter fun x=>memN x.1 ad) h)).1 (bG (C.raw f) args (bP (ak.filter fun x=>memN x.1 ad) h)).2 nx (fun out h nx=>match out with
    |.ret v=>wpS C Q d l (ak.filter fun x=>!(memN x.1 ad)) (aV o.dst v tm) h nx
    |.pan a=>Q (.pan a) (gh d.ds tm) h nx)
   |.yld k args=>IH C k args (bP (ak.filter fun x=>memN x.1 ad) h) nx (fun out h nx=>match out with
    |.ret v=>wpS C Q d l (ak.filter fun x=>!(memN x.1 ad)) (aV o.dst v tm) h nx
    |.pan a=>Q (.pan a) (gh d.ds tm) h nx)
   |.pan a=>Q (.pan a) (gh d.ds tm) (bP (ak.filter fun x=>memN x.1 ad) h) nx
   |_=>False)
   (wpS C Q d l (ak.filter fun x=>!(memN x.1 ad)) (aV o.dst (.tuple []) tm) (bP (ak.filter fun x=>memN x.1 ad) h) nx)
 |.R os ::l,ak,tm,h,nx=>recheck C.orc d.fQ ak tm h os=true∧wpS C Q d l ak tm h nx
def fy(W:T AV→T ab→Key→Prop)(Q:cu):cu:=fun e tm h nx=>match e with
 |.norm=>W tm h nx
 |e=>Q e tm h nx
def cz(id:Nat)(Q:cu):cu:=fun e tm h nx=>match e with
 |.exit j=>if j=id then Q .norm tm h nx else Q (.exit j) tm h nx
 |e=>Q e tm h nx
noncomputable def il(C:cX):av→cu→T AV→T ab→Key→Prop
 |.skip,Q,tm,h,nx=>Q .norm tm h nx
 |.ops l,Q,tm,h,nx=>xj C Q l tm h nx
 |.staged l d,Q,tm,h,nx=>wpS C Q d l [] tm h nx
 |.seq a b,Q,tm,h,nx=>il C a (fy (il C b Q) Q) tm h nx
 |.cond x a b,Q,tm,h,nx=>match x.at tm with
  |some (.bool t)=>(t=true→il C a Q tm h nx)∧(t=false→il C b Q tm h nx)
  |_=>False
 |.block id c,Q,tm,h,nx=>il C c (cz id Q) tm h nx
 |.loop c,Q,tm,h,nx=>W C (.loop c) Q tm h nx
 |.rangeF f ps a b,Q,tm,h,nx=>W C (.rangeF f ps a b) Q tm h nx
 |.exit id,Q,tm,h,nx=>Q (.exit id) tm h nx
 |.ret,Q,tm,h,nx=>Q .ret tm h nx
section
variable{C:cX}{Q:cu}
theorem WI.same{x y:cv}{tm dR:T AV}{h h2:T ab}{nx aP:Key}(hy:∀i,y≠.code (Lv i))(hs:∀(af:jL) (k:List cv) (cs:List jL),af.mode=.run→bD C {af with tm:=tm,todo:=x ::k} cs h nx=bD C {af with tm:=dR,todo:=y ::k} cs h2 aP)
  (hw:WI C y Q dR h2 aP):WI C x Q tm h nx:=by
 intro af k cs h1 Jm;exact Ev.same (by rw[bC (m:=⟨{af with tm:=dR,todo:=y ::k},cs,h2,aP⟩) h1 rfl,bC (m:=⟨{af with tm:=tm,todo:=x ::k},cs,h,nx⟩) h1 rfl];exact hs af k cs h1)
  (Stop.not hy h1) (hw af k cs h1 Jm)
theorem vA:∀{l:List aq} {tm:T AV} {h:T ab} {nx:Key},xj C Q l tm h nx→WI C (.ops l) Q tm h nx
 | [],tm,h,nx,hw=>WI.Vl Mz hw
 |o ::l,tm,h,nx,hw=>by
  unfold xj at hw;cases hg:bJ o.guard tm with
  |none=>rw[hg]at hw;exact hw.elim
  |some t=>
   rw[hg]at hw;have Ak:∀{dR:T AV} {h2:T ab} {aP:Key},fX C.orc (o ::l) tm h nx=fX C.orc l dR h2 aP→xj C Q l dR h2 aP→WI C (.ops (o ::l)) Q tm h nx:=by intro dR h2 aP he Qn;refine WI.same (y:=.ops l) (fun i e=>by cases i<;>cases e) ?_ (vA Qn);intro af k cs _;show(match fX C.orc (o ::l) tm h nx with|.fin tm h nx=>_|.ev r rest tm h nx=>_)=(match fX C.orc l dR h2 aP with|.fin tm h nx=>_|.ev r rest tm h nx=>_);rw[he]
   cases t with
   |false=>refine Ak ?_ (hw.2 rfl);rw[iL,hg];simp only[cj]
   |true=>
    have hw:=hw.1 rfl;cases ha:aOp C.orc o.op tm h nx with
    |val v h' nx'=>rw[ha]at hw;refine Ak ?_ hw;rw[iL,hg,ha];simp only[cj]
    |call f args=>rw[ha]at hw;refine WI.Sv (by rw[iL,hg,ha]) hw (fun v h2 aP hr=>vA hr) (fun a h2 aP hr=>hr)
    |pan a=>rw[ha]at hw;exact WI.Vo (by rw[iL,hg,ha]) hw
    |alt la=>rw[ha]at hw;exact WI.Vn (by rw[iL,hg,ha]) (fun v h2 hm=>vA (hw v h2 hm))
    |yld k args=>rw[ha]at hw;exact WI.Vp (by rw[iL,hg,ha]) hw (fun v h2 aP hr=>vA hr)
    |dfr f args=>rw[ha]at hw;exact hw.elim
    |recover=>rw[ha]at hw;exact hw.elim
    |bad n=>rw[ha]at hw;exact hw.elim
theorem zh{d:SD}:∀{l:List aT} {ak:List (Nat×Key×ab)} {tm:T AV} {h:T ab} {nx:Key},wpS C Q d l ak tm h nx→WI C (.staged l d ak) Q tm h nx
 | [],ak,tm,h,nx,hw=>WI.aal (by show yc ak h (fun h=>RS.fin tm h nx)=_;rw[yO]) hw
 |x ::l,ak,tm,h,nx,hw=>by
  have Ak:∀{pend2:List (Nat×Key×ab)} {dR:T AV} {h2:T ab} {aP:Key},eJ C.orc d.fQ (x ::l) ak tm h nx=eJ C.orc d.fQ l pend2 dR h2 aP→wpS C Q d l pend2 dR h2 aP→WI C (.staged (x ::l) d ak) Q tm h nx:=by intro pend2 dR h2 aP he Qn;refine WI.same (y:=.staged l d pend2) (fun i e=>by cases i<;>cases e) ?_ (zh Qn);intro af k cs _;show(match eJ C.orc d.fQ (x ::l) ak tm h nx with|.fin tm h nx=>_|.ev r rest ak tm h nx=>_)=(match eJ C.orc d.fQ l pend2 dR h2 aP with|.fin tm h nx=>_|.ev r rest ak tm h nx=>_);rw[he]
  cases x with
  |L i o=>
   unfold wpS at hw;cases hg:bJ o.guard tm with
   |none=>rw[hg]at hw;exact hw.elim
   |some t=>
    rw[hg]at hw;cases t with
    |false=>refine Ak ?_ (hw.2 rfl);rw[I9,hg];simp only[cj]
    |true=>
     have hw:=hw.1 rfl;cases hl:lightOp C.orc o.op tm (qL (xm i d.fQ) ak h)with
     |none=>rw[hl]at hw;exact hw.elim
     |some v=>rw[hl]at hw;refine Ak ?_ hw;rw[I9,hg,hl];simp only[cj]
  |A i o=>
   unfold wpS at hw;cases hg:bJ o.guard tm with
   |none=>rw[hg]at hw;exact hw.elim
   |some t=>
    rw[hg]at hw;cases t with
    |false=>refine Ak ?_ (hw.2 rfl);rw[Ja,hg];simp only[cj]
    |true=>
     have hw:=hw.1 rfl;cases hl:allocOp o.op tm with
     |none=>rw[hl]at hw;exact hw.elim
     |some vb=>obtain⟨v,b⟩:=vb;rw[hl]at hw;refine Ak ?_ hw;rw[Ja,hg,hl];simp only[cj]
  |H i o ad=>
   unfold wpS at hw;cases hg:bJ o.guard tm with
   |none=>rw[hg]at hw;exact hw.elim
   |some t=>
    rw[hg]at hw;cases t with
    |false=>refine Ak ?_ (hw.2 rfl);rw[Jb,ra,hg];simp only[cj]
    |true=>
     have hw:=hw.1 rfl;have cR:eJ C.orc d.fQ (.H i o ad ::l) ak tm h nx=(match aOp C.orc o.op tm (bP (ak.filter fun x=>memN x.1 ad) h) nx with
       |.val v h nx=>qK o.dst (some v) tm fun tm=>eJ C.orc d.fQ l (ak.filter fun x=>!(memN x.1 ad)) tm h nx
       |r=>.ev r (.H i o ad ::l) (ak.filter fun x=>!(memN x.1 ad)) tm (bP (ak.filter fun x=>memN x.1 ad) h) nx):=by
      rw[Jb,ra,hg];rfl
     cases ha:aOp C.orc o.op tm (bP (ak.filter fun x=>memN x.1 ad) h) nx with
     |val v h' nx'=>rw[ha]at hw cR;refine Ak ?_ hw;rw[cR];simp only[cj]
     |call f args=>rw[ha]at hw cR;exact WI.Vm cR hw (fun v h2 aP hr=>zh hr) (fun a h2 aP hr=>hr)
     |pan a=>rw[ha]at hw cR;intro af k cs m1 m2;refine .step (m':=⟨{af with tm:=gh d.ds tm,todo:=[],mode:=.pan a false},cs,_,nx⟩) (bC m1 ?_) (.now ⟨.pan a,gh d.ds tm,_,nx,_,hw,rfl,rfl⟩);simp only[bD,cR,kO,ez]
     |alt la=>rw[ha]at hw;exact hw.elim
     |yld k args=>rw[ha]at hw cR;exact WI.aao cR hw (fun v h2 aP hr=>zh hr)
     |dfr f args=>rw[ha]at hw;exact hw.elim
     |recover=>rw[ha]at hw;exact hw.elim
     |bad n=>rw[ha]at hw;exact hw.elim
  |R os=>unfold wpS at hw;refine Ak ?_ hw.2;rw[IC,hw.1];rfl
theorem m6:∀{c:av} {Q:cu} {tm:T AV} {h:T ab} {nx:Key},il C c Q tm h nx→W C c Q tm h nx
 |.skip,Q,tm,h,nx,hw=>W.skip hw
 |.ops l,Q,tm,h,nx,hw=>W.ops (vA hw)
 |.staged l d,Q,tm,h,nx,hw=>W.staged (zh hw)
 |.seq a b,Q,tm,h,nx,hw=>by
  have hw:il C a (fy (il C b Q) Q) tm h nx:=hw;refine W.seq ((m6 hw).mono fun e tm h nx hq=>?_);cases e with
  |norm=>exact m6 hq
  |_=>exact hq
 |.cond x a b,Q,tm,h,nx,hw=>by
  unfold il at hw;split at hw
  ·rename_i t hx;refine W.cond hx ?_;cases t with
   |true=>exact m6 (hw.1 rfl)
   |false=>exact m6 (hw.2 rfl)
  ·exact hw.elim
 |.block id c,Q,tm,h,nx,hw=>by
  have hw:il C c (cz id Q) tm h nx:=hw;refine W.block ((m6 hw).mono fun e tm h nx hq=>?_);cases e with
  |exit j=>exact hq
  |_=>exact hq
 |.loop c,Q,tm,h,nx,hw=>hw
 |.rangeF f ps a b,Q,tm,h,nx,hw=>hw
 |.exit id,Q,tm,h,nx,hw=>W.exit hw
 |.ret,Q,tm,h,nx,hw=>W.ret hw
theorem ax.of_wp{f:Nat}{p:dB}{l:List AV}{h:T ab}{nx:Key}{R:Out→T ab→Key→Prop}(hs:C.sum f l h nx=none)(hp:zT C f=some p)(hw:il C p.body (uL C f p.res R) (eH l .z .nil) h nx):ax C f l h nx R:=
 ax.ajs hs hp (m6 hw)
end
end Go.Sx
namespace Go.Sx
noncomputable def A(b:Key):Nat→Key
 |0=>b
 |i+1=>(A b i).succ
theorem Np(b:Key):∀i,(A b i).toNat=b.toNat+i
 |0=>rfl
 |i+1=>by simp only[A,kTSu,Np b i];omega
@[simp] theorem aiw(b:Key)(i:Nat):(A b i).succ=A b (i+1):=rfl
@[simp] theorem aaY{α:Type}(b:Key)(i j:Nat)(v:Option α)(t:T α):ae (A b i) (ar (A b j) v t)=if i=j then v else ae (A b i) t:=by
 by_cases h:i=j
 ·subst h;rw[if_pos rfl,gTSm]
 ·rw[if_neg h,bQ];intro e;have:=congrArg Key.toNat e;simp only[Np]at this;omega
theorem Kg{α:Type}{b:Key}{c:Key}(v:Option α)(t:T α)(h:b.toNat<c.toNat):ae b (ar c v t)=ae b t:=
 bQ _ _ _ _ (fun e=>by rw[e]at h;exact absurd h (Nat.lt_irrefl _))
attribute [simp] get_set_K at_t at_v putTm_some putTm_none wants_none wants_some okV sTCe
@[simp] theorem Uy(W:T AV→T ab→Key→Prop)(Q:cu)(tm:T AV)(h:T ab)(nx:Key):fy W Q .norm tm h nx=W tm h nx:=propext Iff.rfl
@[simp] theorem WO(W:T AV→T ab→Key→Prop)(Q:cu)(tm:T AV)(h:T ab)(nx:Key):fy W Q .ret tm h nx=Q .ret tm h nx:=propext Iff.rfl
@[simp] theorem Uz(W:T AV→T ab→Key→Prop)(Q:cu)(i:Nat)(tm:T AV)(h:T ab)(nx:Key):fy W Q (.exit i) tm h nx=Q (.exit i) tm h nx:=propext Iff.rfl
@[simp] theorem WQ(W:T AV→T ab→Key→Prop)(Q:cu)(a:AV)(tm:T AV)(h:T ab)(nx:Key):fy W Q (.pan a) tm h nx=Q (.pan a) tm h nx:=propext Iff.rfl
@[simp] theorem Rf(j:Nat)(Q:cu)(tm:T AV)(h:T ab)(nx:Key):cz j Q .norm tm h nx=Q .norm tm h nx:=propext Iff.rfl
@[simp] theorem Ts(j:Nat)(Q:cu)(tm:T AV)(h:T ab)(nx:Key):cz j Q .ret tm h nx=Q .ret tm h nx:=propext Iff.rfl
@[simp] theorem Rg(j:Nat)(Q:cu)(i:Nat)(tm:T AV)(h:T ab)(nx:Key):cz j Q (.exit i) tm h nx=if i=j then Q .norm tm h nx else Q (.exit i) tm h nx:=propext Iff.rfl
@[simp] theorem Tt(j:Nat)(Q:cu)(a:AV)(tm:T AV)(h:T ab)(nx:Key):cz j Q (.pan a) tm h nx=Q (.pan a) tm h nx:=propext Iff.rfl
theorem Cu{p q:Prop}(h:p↔q):p=q:=propext h
section
variable(C:cX)(Q:cu)(tm:T AV)(h:T ab)(nx:Key)(d:SD)(ak:List (Nat×Key×ab))
@[simp] theorem Kh(t:Bool)(A B:Prop):Tu (some t) A B=((t=true→A)∧(t=false→B)):=Cu Iff.rfl
@[simp] theorem ac2(A B:Prop):Tu none A B=False:=Cu Iff.rfl
@[simp] theorem ac3:il C .skip Q tm h nx=Q .norm tm h nx:=Cu Iff.rfl
@[simp] theorem v8(l:List aq):il C (.ops l) Q tm h nx=xj C Q l tm h nx:=Cu Iff.rfl
@[simp] theorem Zf(l:List aT)(d:SD):il C (.staged l d) Q tm h nx=wpS C Q d l [] tm h nx:=Cu Iff.rfl
@[simp] theorem Iy(a b:av):il C (.seq a b) Q tm h nx=il C a (fy (il C b Q) Q) tm h nx:=Cu Iff.rfl
@[simp] theorem ac4(x:PX)(a b:av):il C (.cond x a b) Q tm h nx=(match x.at tm with
  |some (.bool t)=>(t=true→il C a Q tm h nx)∧(t=false→il C b Q tm h nx)
  |_=>False):=Cu Iff.rfl
@[simp] theorem aaZ(id:Nat)(c:av):il C (.block id c) Q tm h nx=il C c (cz id Q) tm h nx:=Cu Iff.rfl
@[simp] theorem ac5(c:av):il C (.loop c) Q tm h nx=W C (.loop c) Q tm h nx:=Cu Iff.rfl
@[simp] theorem ac6(id:Nat):il C (.exit id) Q tm h nx=Q (.exit id) tm h nx:=Cu Iff.rfl
@[simp] theorem aeY:il C .ret Q tm h nx=Q .ret tm h nx:=Cu Iff.rfl
@[simp] theorem Ix:xj C Q [] tm h nx=Q .norm tm h nx:=Cu Iff.rfl
def KO(o:aq)(l:List aq):Out→T ab→Key→Prop:=fun out h nx=>match out with
 |.ret v=>xj C Q l (aV o.dst v tm) h nx
 |.pan a=>Q (.pan a) tm h nx
def KS(o:aq)(l:List aT):Out→T ab→Key→Prop:=fun out h nx=>match out with
 |.ret v=>wpS C Q d l ak (aV o.dst v tm) h nx
 |.pan a=>Q (.pan a) (gh d.ds tm) h nx
@[simp] theorem v7(o:aq)(l:List aq)(v:AV):KO C Q tm o l (.ret v) h nx=xj C Q l (aV o.dst v tm) h nx:=Cu Iff.rfl
@[simp] theorem aix(o:aq)(l:List aq)(a:AV):KO C Q tm o l (.pan a) h nx=Q (.pan a) tm h nx:=Cu Iff.rfl
@[simp] theorem aiy(o:aq)(l:List aT)(v:AV):KS C Q tm d ak o l (.ret v) h nx=wpS C Q d l ak (aV o.dst v tm) h nx:=Cu Iff.rfl
@[simp] theorem aiz(o:aq)(l:List aT)(a:AV):KS C Q tm d ak o l (.pan a) h nx=Q (.pan a) (gh d.ds tm) h nx:=Cu Iff.rfl
def GN(o:aq)(l:List aq)(t:Option Bool):Prop:=Tu t
   (match aOp C.orc o.op tm h nx with
   |.val v h nx=>xj C Q l (aV o.dst v tm) h nx
   |.call f args=>ax C f (bG (C.raw f) args h).1 (bG (C.raw f) args h).2 nx (KO C Q tm o l)
   |.yld k args=>IH C k args h nx (KO C Q tm o l)
   |.pan a=>Q (.pan a) tm h nx
   |.alt la=>∀v h2,(v,h2)∈la→xj C Q l (aV o.dst v tm) h2 nx
   |_=>False)
   (xj C Q l (aV o.dst (.tuple []) tm) h nx)
@[simp] theorem xM(o:aq)(l:List aq):xj C Q (o ::l) tm h nx=GN C Q tm h nx o l (bJ o.guard tm):=Cu (by rw[xj];exact Iff.rfl)
@[simp] theorem tW(o:aq)(l:List aq):GN C Q tm h nx o l (some true)=(match aOp C.orc o.op tm h nx with
   |.val v h nx=>xj C Q l (aV o.dst v tm) h nx
   |.call f args=>ax C f (bG (C.raw f) args h).1 (bG (C.raw f) args h).2 nx (KO C Q tm o l)
   |.yld k args=>IH C k args h nx (KO C Q tm o l)
   |.pan a=>Q (.pan a) tm h nx
   |.alt la=>∀v h2,(v,h2)∈la→xj C Q l (aV o.dst v tm) h2 nx
   |_=>False):=by simp[GN]
@[simp] theorem Zg(o:aq)(l:List aq):GN C Q tm h nx o l (some false)=xj C Q l (aV o.dst (.tuple []) tm) h nx:=by simp[GN]
@[simp] theorem aa0(o:aq)(l:List aq):GN C Q tm h nx o l none=False:=by simp[GN]
@[simp low] theorem ac7(o:aq)(l:List aq)(t:Bool):GN C Q tm h nx o l (some t)=((t=true→GN C Q tm h nx o l (some true))∧(t=false→GN C Q tm h nx o l (some false))):=by cases t<;>simp
@[simp] theorem aeZ:wpS C Q d [] ak tm h nx=Q .norm tm (bP ak h) nx:=Cu Iff.rfl
def GO(i:Nat)(o:aq)(l:List aT)(t:Option Bool):Prop:=Tu t
   (match lightOp C.orc o.op tm (qL (xm i d.fQ) ak h)with
   |some v=>wpS C Q d l ak (aV o.dst v tm) h nx
   |none=>False)
   (wpS C Q d l ak (aV o.dst (.tuple []) tm) h nx)
@[simp] theorem alI(i:Nat)(o:aq)(l:List aT):wpS C Q d (.L i o ::l) ak tm h nx=GO C Q tm h nx d ak i o l (bJ o.guard tm):=Cu (by rw[wpS];exact Iff.rfl)
@[simp] theorem aa1(i:Nat)(o:aq)(l:List aT):GO C Q tm h nx d ak i o l (some true)=(match lightOp C.orc o.op tm (qL (xm i d.fQ) ak h)with
   |some v=>wpS C Q d l ak (aV o.dst v tm) h nx
   |none=>False):=by simp[GO]
@[simp] theorem Zh(i:Nat)(o:aq)(l:List aT):GO C Q tm h nx d ak i o l (some false)=wpS C Q d l ak (aV o.dst (.tuple []) tm) h nx:=by simp[GO]
@[simp] theorem aa2(i:Nat)(o:aq)(l:List aT):GO C Q tm h nx d ak i o l none=False:=by simp[GO]
@[simp low] theorem ac8(i:Nat)(o:aq)(l:List aT)(t:Bool):GO C Q tm h nx d ak i o l (some t)=((t=true→GO C Q tm h nx d ak i o l (some true))∧(t=false→GO C Q tm h nx d ak i o l (some false))):=by cases t<;>simp
def GP(i:Nat)(o:aq)(l:List aT)(t:Option Bool):Prop:=Tu t
   (match allocOp o.op tm with
   |some (v,b)=>wpS C Q d l ((i,nx,b) ::ak) (aV o.dst (v nx) tm) h nx.succ
   |none=>False)
   (wpS C Q d l ak (aV o.dst (.tuple []) tm) h nx)
@[simp] theorem alJ(i:Nat)(o:aq)(l:List aT):wpS C Q d (.A i o ::l) ak tm h nx=GP C Q tm h nx d ak i o l (bJ o.guard tm):=Cu (by rw[wpS];exact Iff.rfl)
@[simp] theorem aa3(i:Nat)(o:aq)(l:List aT):GP C Q tm h nx d ak i o l (some true)=(match allocOp o.op tm with
   |some (v,b)=>wpS C Q d l ((i,nx,b) ::ak) (aV o.dst (v nx) tm) h nx.succ
   |none=>False):=by simp[GP]
@[simp] theorem Zi(i:Nat)(o:aq)(l:List aT):GP C Q tm h nx d ak i o l (some false)=wpS C Q d l ak (aV o.dst (.tuple []) tm) h nx:=by simp[GP]
@[simp] theorem aa4(i:Nat)(o:aq)(l:List aT):GP C Q tm h nx d ak i o l none=False:=by simp[GP]
@[simp low] theorem ac9(i:Nat)(o:aq)(l:List aT)(t:Bool):GP C Q tm h nx d ak i o l (some t)=((t=true→GP C Q tm h nx d ak i o l (some true))∧(t=false→GP C Q tm h nx d ak i o l (some false))):=by cases t<;>simp
def GQ(o:aq)(ad:List Nat)(l:List aT)(t:Option Bool):Prop:=Tu t
   (match aOp C.orc o.op tm (bP (ak.filter fun x=>memN x.1 ad) h) nx with
   |.val v h nx=>wpS C Q d l (ak.filter fun x=>!(memN x.1 ad)) (aV o.dst v tm) h nx
   |.call f args=>ax C f (bG (C.raw f) args (bP (ak.filter fun x=>memN x.1 ad) h)).1 (bG (C.raw f) args (bP (ak.filter fun x=>memN x.1 ad) h)).2 nx (KS C Q tm d (ak.filter fun x=>!(memN x.1 ad)) o l)
   |.yld k args=>IH C k args (bP (ak.filter fun x=>memN x.1 ad) h) nx (KS C Q tm d (ak.filter fun x=>!(memN x.1 ad)) o l)
   |.pan a=>Q (.pan a) (gh d.ds tm) (bP (ak.filter fun x=>memN x.1 ad) h) nx
   |_=>False)
   (wpS C Q d l (ak.filter fun x=>!(memN x.1 ad)) (aV o.dst (.tuple []) tm) (bP (ak.filter fun x=>memN x.1 ad) h) nx)
@[simp] theorem alK(i:Nat)(o:aq)(ad:List Nat)(l:List aT):wpS C Q d (.H i o ad ::l) ak tm h nx=GQ C Q tm h nx d ak o ad l (bJ o.guard tm):=Cu (by rw[wpS];exact Iff.rfl)
@[simp] theorem aa5(o:aq)(ad:List Nat)(l:List aT):GQ C Q tm h nx d ak o ad l (some true)=(match aOp C.orc o.op tm (bP (ak.filter fun x=>memN x.1 ad) h) nx with
   |.val v h nx=>wpS C Q d l (ak.filter fun x=>!(memN x.1 ad)) (aV o.dst v tm) h nx
   |.call f args=>ax C f (bG (C.raw f) args (bP (ak.filter fun x=>memN x.1 ad) h)).1 (bG (C.raw f) args (bP (ak.filter fun x=>memN x.1 ad) h)).2 nx (KS C Q tm d (ak.filter fun x=>!(memN x.1 ad)) o l)
   |.yld k args=>IH C k args (bP (ak.filter fun x=>memN x.1 ad) h) nx (KS C Q tm d (ak.filter fun x=>!(memN x.1 ad)) o l)
   |.pan a=>Q (.pan a) (gh d.ds tm) (bP (ak.filter fun x=>memN x.1 ad) h) nx
   |_=>False):=by unfold GQ;simp only[Kh,true_implies,Bool.true_eq_false,false_implies,and_true]
@[simp] theorem Zj(o:aq)(ad:List Nat)(l:List aT):GQ C Q tm h nx d ak o ad l (some false)=wpS C Q d l (ak.filter fun x=>!(memN x.1 ad)) (aV o.dst (.tuple []) tm) (bP (ak.filter fun x=>memN x.1 ad) h) nx:=by unfold GQ;simp only[Kh,true_implies,Gy,false_implies,true_and]
@[simp] theorem aa6(o:aq)(ad:List Nat)(l:List aT):GQ C Q tm h nx d ak o ad l none=False:=by simp[GQ]
@[simp low] theorem ada(o:aq)(ad:List Nat)(l:List aT)(t:Bool):GQ C Q tm h nx d ak o ad l (some t)=((t=true→GQ C Q tm h nx d ak o ad l (some true))∧(t=false→GQ C Q tm h nx d ak o ad l (some false))):=by cases t<;>simp only[true_implies,Bool.true_eq_false,Gy,false_implies,and_true,true_and]
@[simp] theorem alL(os:List (Nat×aq))(l:List aT):wpS C Q d (.R os ::l) ak tm h nx=(recheck C.orc d.fQ ak tm h os=true∧wpS C Q d l ak tm h nx):=Cu (by rw[wpS])
@[simp] theorem Zk:bP [] h=h:=rfl
@[simp] theorem WR(x:Nat×Key×ab)(p:List (Nat×Key×ab)):bP (x ::p) h=bP p (ar x.2.1 (some x.2.2) h):=rfl
@[simp] theorem WT(orc:dP)(fQ:List (Nat×List Nat)):recheck orc fQ ak tm h []=true:=rfl
@[simp] theorem UA(orc:dP)(fQ:List (Nat×List Nat))(i:Nat)(o:aq)(l:List (Nat×aq)):recheck orc fQ ak tm h ((i,o) ::l)=(match bJ o.guard tm with
  |some false=>match o.dst with
   |none=>false
   |some d=>match ae d tm with
    |some (.tuple [])=>recheck orc fQ ak tm h l
    |_=>false
  |some true=>match o.dst with
   |none=>false
   |some d=>match ae d tm,lightOp orc o.op tm (qL (xm i fQ) ak h)with
    |some v,some u=>bif AV.beq v u then recheck orc fQ ak tm h l else false
    |_,_=>false
  |none=>false):=rfl
end
attribute [simp] memN
def eO(res:List RV)(R:Out→T ab→Key→Prop):cu:=fun e tm h nx=>match e with
 |.norm|.ret=>∃l,resultsA h tm res=some l∧R (.ret (lN (aO (aK 9999) l h).1)) (aO (aK 9999) l h).2 nx
 |.pan a=>R (.pan a) h nx
 |.exit _=>False
theorem ax.of{C:cX}{f:Nat}{p:dB}{l:List AV}{h:T ab}{nx:Key}{R:Out→T ab→Key→Prop}(hs:C.sum f l h nx=none)(hp:zT C f=some p)(hr:C.lL f=false)(hw:il C p.body (eO p.res R) (eH l (K 0) .nil) h nx):ax C f l h nx R:=by
 refine ax.of_wp hs hp ?_;have e:uL C f p.res R=eO p.res R:=by funext e tm h nx;cases e<;>simp only[uL,eO,hr]<;>rfl
 rw[e];exact hw
section
variable(res:List RV)(R:Out→T ab→Key→Prop)(tm:T AV)(h:T ab)(nx:Key)
@[simp] theorem aa7:eO res R .ret tm h nx=∃l,resultsA h tm res=some l∧R (.ret (lN (aO (aK 9999) l h).1)) (aO (aK 9999) l h).2 nx:=Cu Iff.rfl
@[simp] theorem Zl:eO res R .norm tm h nx=∃l,resultsA h tm res=some l∧R (.ret (lN (aO (aK 9999) l h).1)) (aO (aK 9999) l h).2 nx:=Cu Iff.rfl
@[simp] theorem aa8(a:AV):eO res R (.pan a) tm h nx=R (.pan a) h nx:=Cu Iff.rfl
end
attribute [simp] aOp lightOp allocOp newB atAll loadB isCmp beqKind arith
attribute [simp] nth_eq dropL_eq takeC_eq putC_eq appC_eq lenL_eq beqN_eq bltN_eq ltI_dec eqI_eq
@[simp] theorem ae0(a b:Nat):Nat.ble a b=decide (a≤b):=by rw[Bool.eq_iff_iff];simp
@[simp] theorem ae1(a b:Int):Int.add a b=a+b:=rfl
@[simp] theorem ae2(a b:Int):Int.sub a b=a-b:=rfl
@[simp] theorem ae3(a b:Int):Int.mul a b=a*b:=rfl
@[simp] theorem aa9(k:IntKind)(m:Nat):eL (.int k (.lit (m:Int)))=some m:=rfl
@[simp] theorem Zm(k:IntKind):eL (.int k (.lit 0))=some 0:=rfl
@[simp] theorem aba(k:IntKind):eL (.int k (.lit 1))=some 1:=rfl
@[simp] theorem abb(k:IntKind)(n:Nat):eL (.int k (.lit (OfNat.ofNat (n+2):Int)))=some (n+2):=rfl
@[simp] theorem Zn(tm:T AV)(d:Nat):iV tm d none=some d:=rfl
@[simp] theorem Zo(tm:T AV)(d:Nat)(x:PX):iV tm d (some x)=match x.at tm with|none=>none|some v=>eL v:=rfl
@[simp] theorem ae4(orc:dP)(op:BinOp)(x y:Int):zl orc op (.lit x) (.lit y)=(match op with
  |.eql=>some (x==y)
  |.neq=>some (!(x==y))
  |.lss=>some (decide (x<y))
  |.leq=>some (!(decide (y<x)))
  |.gtr=>some (decide (y<x))
  |.geq=>some (!(decide (x<y)))
  |_=>none):=by
 cases op<;>simp[zl]
@[simp] theorem adb(tm:T AV)(cs:List AV):BG tm [] cs=some cs:=rfl
@[simp] theorem abc(tm:T AV)(off size:Nat)(x:PX)(r:List (Nat×Nat×PX))(cs:List AV):BG tm ((off,size,x) ::r) cs =
  (match x.at tm with
  |none=>none
  |some v=>bif Nat.beq (lenL v.cells) size then JN v.cells off cs none (fun cs=>BG tm r cs)else none):=rfl
@[simp] theorem abd(off n:Nat)(l:List AV):qJ true off n l=if n≤(l.drop off).length then some (.agg ((l.drop off).take n))else none:=by simp[qJ]
@[simp] theorem Zp(off n:Nat)(l:List AV):qJ false off n l=l[off]?:=by simp[qJ]
@[simp] theorem WU(b:Bool):AV.bH (.bool b)=true:=rfl
@[simp] theorem Zq(b:Bool):AV.cells (.bool b)=[.bool b]:=rfl
@[simp] theorem Zr(k:IntKind)(n:SI):AV.bH (.int k n)=true:=rfl
@[simp] theorem abe(k:IntKind)(n:SI):AV.cells (.int k n)=[.int k n]:=rfl
@[simp] theorem Zs(n c:Nat):AV.bH (.str n c)=true:=rfl
@[simp] theorem abf(n c:Nat):AV.cells (.str n c)=[.str n c]:=rfl
@[simp] theorem Zt(b:Key)(off:Nat):AV.bH (.ptr b off)=true:=rfl
@[simp] theorem abg(b:Key)(off:Nat):AV.cells (.ptr b off)=[.ptr b off]:=rfl
@[simp] theorem WV:AV.bH (.nilp)=true:=rfl
@[simp] theorem Zu:AV.cells (.nilp)=[.nilp]:=rfl
@[simp] theorem UB(b:Key)(off len sz:Nat):AV.bH (.slice b off len sz)=true:=rfl
@[simp] theorem WW(b:Key)(off len sz:Nat):AV.cells (.slice b off len sz)=[.slice b off len sz]:=rfl
@[simp] theorem WX:AV.bH (.nils)=true:=rfl
@[simp] theorem Zv:AV.cells (.nils)=[.nils]:=rfl
@[simp] theorem Zw(b:Key):AV.bH (.map b)=true:=rfl
@[simp] theorem abh(b:Key):AV.cells (.map b)=[.map b]:=rfl
@[simp] theorem WY:AV.bH (.nilm)=true:=rfl
@[simp] theorem Zx:AV.cells (.nilm)=[.nilm]:=rfl
@[simp] theorem abi(f:Nat)(first cap:List AV):AV.bH (.fn f first cap)=true:=rfl
@[simp] theorem ade(f:Nat)(first cap:List AV):AV.cells (.fn f first cap)=[.fn f first cap]:=rfl
@[simp] theorem WZ:AV.bH (.nilf)=true:=rfl
@[simp] theorem Zy:AV.cells (.nilf)=[.nilf]:=rfl
@[simp] theorem UC(t:Nat)(v:AV):AV.bH (.iface t v)=true:=rfl
@[simp] theorem W7(t:Nat)(v:AV):AV.cells (.iface t v)=[.iface t v]:=rfl
@[simp] theorem W8:AV.bH (.nili)=true:=rfl
@[simp] theorem Zz:AV.cells (.nili)=[.nili]:=rfl
@[simp] theorem abj(l:List AV)(len sz:Nat)(fl:SF):AV.bH (.sl l len sz fl)=true:=rfl
@[simp] theorem adf(l:List AV)(len sz:Nat)(fl:SF):AV.cells (.sl l len sz fl)=[.sl l len sz fl]:=rfl
@[simp] theorem W9(l:List AV):AV.bH (.cref l)=true:=rfl
@[simp] theorem ZA(l:List AV):AV.cells (.cref l)=[.cref l]:=rfl
@[simp] theorem ZB(l:List AV):AV.bH (.agg l)=false:=rfl
@[simp] theorem abk(l:List AV):AV.cells (.agg l)=l:=rfl
@[simp] theorem UD(l:List AV)(h:T ab):bG false l h=aO (aK 9999) l h:=rfl
@[simp] theorem Xa(l:List AV)(h:T ab):bG true l h=(l,h):=rfl
@[simp] theorem abl(g:AV→T ab→AV×T ab)(h:T ab):aO g [] h=([],h):=rfl
@[simp] theorem ZC(g:AV→T ab→AV×T ab)(v:AV)(l:List AV)(h:T ab):aO g (v ::l) h=((g v h).1 ::(aO g l (g v h).2).1,(aO g l (g v h).2).2):=rfl
section
variable(n:Nat)(h:T ab)
@[simp] theorem adg(k:IntKind)(i:SI):aK n (.int k i) h=(.int k i,h):=by cases n<;>rfl
@[simp] theorem abm(b:Bool):aK n (.bool b) h=(.bool b,h):=by cases n<;>rfl
@[simp] theorem adh(a b:Nat):aK n (.str a b) h=(.str a b,h):=by cases n<;>rfl
@[simp] theorem adi(b:Key)(o:Nat):aK n (.ptr b o) h=(.ptr b o,h):=by cases n<;>rfl
@[simp] theorem abn:aK n .nilp h=(.nilp,h):=by cases n<;>rfl
@[simp] theorem abo:aK n .nils h=(.nils,h):=by cases n<;>rfl
@[simp] theorem adj(b:Key):aK n (.map b) h=(.map b,h):=by cases n<;>rfl
@[simp] theorem abp:aK n .nilm h=(.nilm,h):=by cases n<;>rfl
@[simp] theorem ae5(f:Nat)(a c:List AV):aK n (.fn f a c) h=(.fn f a c,h):=by cases n<;>rfl
@[simp] theorem abq:aK n .nilf h=(.nilf,h):=by cases n<;>rfl
@[simp] theorem ZD(t:Nat)(v:AV):aK n (.iface t v) h=(.iface t v,h):=by cases n<;>rfl
@[simp] theorem abr:aK n .nili h=(.nili,h):=by cases n<;>rfl
@[simp] theorem abt(l:List AV):aK n (.cref l) h=(.cref l,h):=by cases n<;>rfl
@[simp] theorem ZE(l:List AV):aK n (.tuple l) h=(.tuple l,h):=by cases n<;>rfl
@[simp] theorem ae6(l:List AV)(m z:Nat)(f:SF):aK (n+1) (.sl l m z f) h=(.sl l m z .any,h):=rfl
@[simp] theorem adk(l:List AV)(m z:Nat)(f:SF):aK 9999 (.sl l m z f) h=(.sl l m z .any,h):=rfl
@[simp] theorem adl(l:List AV)(m z:Nat)(f:SF):aK 9998 (.sl l m z f) h=(.sl l m z .any,h):=rfl
@[simp] theorem abu(l:List AV):aK 9999 (.agg l) h=(.agg (aO (aK 9998) l h).1,(aO (aK 9998) l h).2):=rfl
end
@[simp] theorem Xb(k:Key)(tm:T AV):eH [] k tm=tm:=rfl
@[simp] theorem UE(v:AV)(l:List AV)(i:Nat)(tm:T AV):eH (v ::l) (K i) tm=eH l (K (i+1)) (ar (K i) (some v) tm):=by simp only[eH,ZF]
@[simp] theorem ZG(v:AV):lN [v]=v:=rfl
@[simp] theorem ZH(v u:AV)(l:List AV):lN (v ::u ::l)=.tuple (v ::u ::l):=rfl
attribute [simp] resultsA
@[simp] theorem AV.all_nil:([]:List AV).all AV.bH=true:=rfl
attribute [simp] gTSm setK findK keyEq kTSu
theorem al{α:Type}{b c:Key}{v:Option α}{t:T α}(h:b.toNat<c.toNat):ae b (ar c v t)=ae b t:=Kg v t h
@[simp] theorem set_set{α:Type}(k:Key)(v u:Option α):∀(t:T α),ar k v (ar k u t)=ar k v t:=by
 induction k with
 |z=>intro t;cases t<;>rfl
 |o k ih=>intro t;cases t<;>simp only[T.Rh,T.Cz,ih]
 |e k ih=>intro t;cases t<;>simp only[T.Ri,T.CA,ih]
structure Ext(h:T ab)(nx:Key)(h':T ab)(nx':Key):Prop where
 n:nx.toNat≤nx'.toNat
 g:∀b:Key,b.toNat<nx.toNat→ae b h'=ae b h
theorem Ext.refl(h:T ab)(nx:Key):Ext h nx h nx:=⟨cI _,fun _ _=>rfl⟩
theorem Ext.trans{h1 h2 h3:T ab}{n1 n2 n3:Key}(a:Ext h1 n1 h2 n2)(b:Ext h2 n2 h3 n3):Ext h1 n1 h3 n3:=
 ⟨Nat.le_trans a.n b.n,fun k hk=>(b.g k (GD hk a.n)).trans (a.g k hk)⟩
@[simp] theorem ZI(a b:Bool):AV.beq (.bool a) (.bool b)=(a==b):=rfl
@[simp] theorem ae7(orc:dP)(a b:Bool):fq orc .bool (.bool a) (.bool b)=some (a==b):=by simp[fq]
@[simp] theorem eq_int(orc:dP)(k:IntKind)(a b:SI):fq orc .int (.int k a) (.int k b)=zl orc .eql a b:=by cases k<;>simp[fq]
@[simp] theorem adm(orc:dP)(l:List (Nat×ql))(a b:List AV):fq orc (.parts l) (.agg a) (.agg b)=bM orc l a b:=by simp[fq]
@[simp] theorem Xc(orc:dP)(a b:List AV):bM orc [] a b=some true:=by simp[bM]
@[simp] theorem UF(orc:dP)(off:Nat)(p:ql)(l:List (Nat×ql))(a b:List AV):bM orc ((off,p) ::l) a b=(match nth off a,nth off b with
  |some x,some y=>match fq orc p x y with
   |some true=>bM orc l a b
   |some false=>some false
   |none=>none
  |_,_=>none):=by rw[bM];rfl
section
variable{C:cX}{Q:cu}{tm:T AV}{h:T ab}{nx:Key}
theorem W.hO{c:av}(Inv:Nat→T AV→T ab→Key→Prop){n:Nat}(hi:Inv n tm h nx)(hw:∀n tm h nx,Inv n tm h nx→W C c (fy (fun tm h nx=>∃m,m<n∧Inv m tm h nx) Q) tm h nx):W C (.loop c) Q tm h nx:=
 W.loop Inv (fun n tm h nx hi=>WI.mono (hw n tm h nx hi) fun e tm h nx hq=>by cases e<;>exact hq) hi
theorem W.of{c:av}(h1:il C c Q tm h nx):W C c Q tm h nx:=m6 h1
end
@[simp] theorem adn{R:Type}(l:List AV)(h:T ab)(c:List AV→T ab→R):Cj (TH 9999) l h c=c (aO (aK 9999) l h).1 (aO (aK 9999) l h).2:=qm (xN 9999) l h c
attribute [simp] appendTo repL_eq
@[simp] theorem ado(i:Nat):xm i []=[]:=rfl
@[simp] theorem abv(i j:Nat)(l:List Nat)(r:List (Nat×List Nat)):xm i ((j,l) ::r)=if i=j then l else xm i r:=by simp[xm]
@[simp] theorem abw(p:List (Nat×Key×ab))(h:T ab):qL [] p h=h:=rfl
@[simp] theorem ZJ(a:Nat)(l:List Nat)(p:List (Nat×Key×ab))(h:T ab):qL (a ::l) p h=bP (p.filter fun x=>memN x.1 (a ::l)) h:=by show xJ (a ::l) p h (fun _ h=>h)=_;rw[ra]
theorem bA{k:Key}{n:Nat}(h:Key.beq k (K n)=true):k=K n:=Key.eq_of_beq h
def k0:Key:=.z
def k1:=Key.o k0
def k2:=Key.e k0
def k3:=Key.o k1
def k4:=Key.e k1
def k5:=Key.o k2
def k6:=Key.e k2
def k7:=Key.o k3
def k8:=Key.e k3
def k9:=Key.o k4
def ch:=Key.e k4
def b7:=Key.o k5
def cU:=Key.e k5
def dw:=Key.o k6
def dK:=Key.e k6
def dC:=Key.o k7
def dm:=Key.e k7
def eE:=Key.o k8
def fw:=Key.e k8
def im:=Key.o k9
def gF:=Key.e k9
def jC:=Key.o ch
def kX:=Key.e ch
def jR:=Key.o b7
def lT:=Key.e b7
def lA:=Key.o cU
def jv:=Key.e cU
def oR:=Key.o dw
def pK:=Key.e dw
def tQ:=Key.o dK
def sJ:=Key.e dK
def tA:=Key.o dC
def xF:=Key.e dC
def y9:=Key.o dm
def za:=Key.e dm
def wI:=Key.o eE
def xn:=Key.e eE
def Bk:=Key.o fw
def zo:=Key.e fw
def Cg:=Key.o im
def sh:=Key.e im
def xD:=Key.o gF
def xE:=Key.e gF
def Cx:=Key.o jC
def Ew:=Key.e jC
def Bl:=Key.o kX
def Dj:=Key.e kX
def DQ:=Key.o jR
def Dk:=Key.e jR
def DR:=Key.o lT
def Bm:=Key.e lT
def Fi:=Key.o lA
def DU:=Key.e lA
def GJ:=Key.o jv
def DV:=Key.e jv
def Gn:=Key.o oR
def Gp:=Key.e oR
def Jp:=Key.o pK
def Jq:=Key.e pK
def Jr:=Key.o tQ
def Ey:=Key.e tQ
def Js:=Key.o sJ
def HB:=Key.e sJ
def Ez:=Key.o tA
def J1:=Key.e tA
def IB:=Key.o xF
def J2:=Key.e xF
def Nj:=Key.o y9
def J3:=Key.e y9
def Nk:=Key.o za
def Nl:=Key.e za
def Ma:=Key.o wI
def PD:=Key.e wI
def PE:=Key.o xn
def QD:=Key.e xn
def Mb:=Key.o Bk
def QE:=Key.e Bk
def QF:=Key.o zo
def QG:=Key.e zo
def Tm:=Key.o Cg
def QH:=Key.e Cg
def QI:=Key.o sh
def Tn:=Key.e sh
def Wt:=Key.o xD
def Wu:=Key.e xD
def Yg:=Key.o xE
def Yh:=Key.e xE
def Yi:=Key.o Cx
def Yj:=Key.e Cx
def k89:=Key.o Ew
def k90:=Key.e Ew
def k91:=Key.o Bl
def Tp:=Key.e Bl
def k93:=Key.o Dj
def k94:=Key.e Dj
def k95:=Key.o DQ
def k96:=Key.e DQ
def k97:=Key.o Dk
def k98:=Key.e Dk
def k99:=Key.o DR
def Yk:=Key.e DR
def Yl:=Key.o Bm
def Ym:=Key.e Bm
def Yn:=Key.o Fi
def Ul:=Key.e Fi
def Yo:=Key.o DU
def Yp:=Key.e DU
def Yq:=Key.o GJ
def Yr:=Key.e GJ
def Ys:=Key.o DV
def QJ:=Key.e DV
def QK:=Key.o Gn
def QL:=Key.e Gn
def QM:=Key.o Gp
def QN:=Key.e Gp
def QO:=Key.o Jp
def QP:=Key.e Jp
def QQ:=Key.o Jq
def QR:=Key.e Jq
def Yt:=Key.o Jr
def Yu:=Key.e Jr
def Yv:=Key.o Ey
def Yw:=Key.e Ey
def Um:=Key.o Js
def Yx:=Key.e Js
def Yy:=Key.o HB
def Yz:=Key.e HB
def YA:=Key.o Ez
def YB:=Key.e Ez
def YC:=Key.o J1
def YD:=Key.e J1
def Un:=Key.o IB
def YE:=Key.e IB
def YF:=Key.o J2
def YG:=Key.e J2
def YH:=Key.o Nj
def YI:=Key.e Nj
def YJ:=Key.o J3
def Mc:=Key.e J3
def YK:=Key.o Nk
def YL:=Key.e Nk
def Md:=Key.o Nl
def YM:=Key.e Nl
def YN:=Key.o Ma
def YO:=Key.e Ma
def YP:=Key.o PD
def YQ:=Key.e PD
def YR:=Key.o PE
def Me:=Key.e PE
def YS:=Key.o QD
def YT:=Key.e QD
def Mf:=Key.o Mb
def YU:=Key.e Mb
def YV:=Key.o QE
def GK:=Key.e QE
def YW:=Key.o QF
def YX:=Key.e QF
def YY:=Key.o QG
def YZ:=Key.e QG
def Y0:=Key.o Tm
def Y1:=Key.e Tm
def Y2:=Key.o QH
def Y3:=Key.e QH
def Y4:=Key.o QI
def Y5:=Key.e QI
def Y6:=Key.o Tn
def agi:=Key.e k90
def agj:=Key.o Ul
def agk:=Key.o agi
def af9:=Key.e agj
def aga:=Key.e agk
@[simp] theorem af4:k0=K 0:=bA rfl
@[simp] theorem ab5:k1=K 1:=bA rfl
@[simp] theorem agl:k2=K 2:=bA rfl
@[simp] theorem acF:k3=K 3:=bA rfl
@[simp] theorem acb:k4=K 4:=bA rfl
@[simp] theorem acd:k5=K 5:=bA rfl
@[simp] theorem ace:k6=K 6:=bA rfl
@[simp] theorem acf:k7=K 7:=bA rfl
@[simp] theorem acg:k8=K 8:=bA rfl
@[simp] theorem ach:k9=K 9:=bA rfl
@[simp] theorem Wi:ch=K 10:=bA rfl
@[simp] theorem Wj:b7=K 11:=bA rfl
@[simp] theorem Wk:cU=K 12:=bA rfl
@[simp] theorem acG:dw=K 13:=bA rfl
@[simp] theorem akh:dK=K 14:=bA rfl
@[simp] theorem aki:dC=K 15:=bA rfl
@[simp] theorem akj:dm=K 16:=bA rfl
@[simp] theorem akk:eE=K 17:=bA rfl
@[simp] theorem ab6:fw=K 18:=bA rfl
@[simp] theorem ab7:im=K 19:=bA rfl
@[simp] theorem akl:gF=K 20:=bA rfl
@[simp] theorem akm:jC=K 21:=bA rfl
@[simp] theorem akn:kX=K 22:=bA rfl
@[simp] theorem ako:jR=K 23:=bA rfl
@[simp] theorem akp:lT=K 24:=bA rfl
@[simp] theorem akq:lA=K 25:=bA rfl
@[simp] theorem akr:jv=K 26:=bA rfl
@[simp] theorem aks:oR=K 27:=bA rfl
@[simp] theorem akt:pK=K 28:=bA rfl
@[simp] theorem aku:tQ=K 29:=bA rfl
@[simp] theorem akv:sJ=K 30:=bA rfl
@[simp] theorem akw:tA=K 31:=bA rfl
@[simp] theorem akx:xF=K 32:=bA rfl
@[simp] theorem aky:y9=K 33:=bA rfl
@[simp] theorem akz:za=K 34:=bA rfl
@[simp] theorem akA:wI=K 35:=bA rfl
@[simp] theorem akB:xn=K 36:=bA rfl
@[simp] theorem akC:Bk=K 37:=bA rfl
@[simp] theorem akD:zo=K 38:=bA rfl
@[simp] theorem akE:Cg=K 39:=bA rfl
@[simp] theorem akF:sh=K 40:=bA rfl
@[simp] theorem akG:xD=K 41:=bA rfl
@[simp] theorem akH:xE=K 42:=bA rfl
@[simp] theorem akI:Cx=K 43:=bA rfl
@[simp] theorem akJ:Ew=K 44:=bA rfl
@[simp] theorem acH:Bl=K 45:=bA rfl
@[simp] theorem acI:Dj=K 46:=bA rfl
@[simp] theorem acJ:DQ=K 47:=bA rfl
@[simp] theorem acK:Dk=K 48:=bA rfl
@[simp] theorem acL:DR=K 49:=bA rfl
@[simp] theorem acM:Bm=K 50:=bA rfl
@[simp] theorem acN:Fi=K 51:=bA rfl
@[simp] theorem acO:DU=K 52:=bA rfl
@[simp] theorem akK:GJ=K 53:=bA rfl
@[simp] theorem akL:DV=K 54:=bA rfl
@[simp] theorem akM:Gn=K 55:=bA rfl
@[simp] theorem akN:Gp=K 56:=bA rfl
@[simp] theorem akO:Jp=K 57:=bA rfl
@[simp] theorem akP:Jq=K 58:=bA rfl
@[simp] theorem akQ:Jr=K 59:=bA rfl
@[simp] theorem akR:Ey=K 60:=bA rfl
@[simp] theorem akS:Js=K 61:=bA rfl
@[simp] theorem akT:HB=K 62:=bA rfl
@[simp] theorem akU:Ez=K 63:=bA rfl
@[simp] theorem akV:J1=K 64:=bA rfl
@[simp] theorem akW:IB=K 65:=bA rfl
@[simp] theorem akX:J2=K 66:=bA rfl
@[simp] theorem akY:Nj=K 67:=bA rfl
@[simp] theorem akZ:J3=K 68:=bA rfl
@[simp] theorem ak0:Nk=K 69:=bA rfl
@[simp] theorem ak1:Nl=K 70:=bA rfl
@[simp] theorem ak2:Ma=K 71:=bA rfl
@[simp] theorem ak3:PD=K 72:=bA rfl
@[simp] theorem ak4:PE=K 73:=bA rfl
@[simp] theorem ak5:QD=K 74:=bA rfl
@[simp] theorem ak6:Mb=K 75:=bA rfl
@[simp] theorem ak7:QE=K 76:=bA rfl
@[simp] theorem ak8:QF=K 77:=bA rfl
@[simp] theorem ak9:QG=K 78:=bA rfl
@[simp] theorem ala:Tm=K 79:=bA rfl
@[simp] theorem alb:QH=K 80:=bA rfl
@[simp] theorem alc:QI=K 81:=bA rfl
@[simp] theorem ald:Tn=K 82:=bA rfl
@[simp] theorem ale:Wt=K 83:=bA rfl
@[simp] theorem alf:Wu=K 84:=bA rfl
@[simp] theorem alg:Yg=K 85:=bA rfl
@[simp] theorem alh:Yh=K 86:=bA rfl
@[simp] theorem ali:Yi=K 87:=bA rfl
@[simp] theorem alj:Yj=K 88:=bA rfl
@[simp] theorem alk:k89=K 89:=bA rfl
@[simp] theorem alm:k90=K 90:=bA rfl
@[simp] theorem aln:k91=K 91:=bA rfl
@[simp] theorem alo:Tp=K 92:=bA rfl
@[simp] theorem alp:k93=K 93:=bA rfl
@[simp] theorem alq:k94=K 94:=bA rfl
@[simp] theorem alr:k95=K 95:=bA rfl
@[simp] theorem als:k96=K 96:=bA rfl
@[simp] theorem alu:k97=K 97:=bA rfl
@[simp] theorem alv:k98=K 98:=bA rfl
@[simp] theorem alw:k99=K 99:=bA rfl
@[simp] theorem agm:Yk=K 100:=bA rfl
@[simp] theorem agn:Yl=K 101:=bA rfl
@[simp] theorem ago:Ym=K 102:=bA rfl
@[simp] theorem agp:Yn=K 103:=bA rfl
@[simp] theorem agq:Ul=K 104:=bA rfl
@[simp] theorem agr:Yo=K 105:=bA rfl
@[simp] theorem ags:Yp=K 106:=bA rfl
@[simp] theorem agt:Yq=K 107:=bA rfl
@[simp] theorem agu:Yr=K 108:=bA rfl
@[simp] theorem agv:Ys=K 109:=bA rfl
@[simp] theorem agw:QJ=K 110:=bA rfl
@[simp] theorem agx:QK=K 111:=bA rfl
@[simp] theorem agy:QL=K 112:=bA rfl
@[simp] theorem agz:QM=K 113:=bA rfl
@[simp] theorem agA:QN=K 114:=bA rfl
@[simp] theorem agB:QO=K 115:=bA rfl
@[simp] theorem agC:QP=K 116:=bA rfl
@[simp] theorem agD:QQ=K 117:=bA rfl
@[simp] theorem agE:QR=K 118:=bA rfl
@[simp] theorem agF:Yt=K 119:=bA rfl
@[simp] theorem agG:Yu=K 120:=bA rfl
@[simp] theorem agH:Yv=K 121:=bA rfl
@[simp] theorem agI:Yw=K 122:=bA rfl
@[simp] theorem agJ:Um=K 123:=bA rfl
@[simp] theorem agK:Yx=K 124:=bA rfl
@[simp] theorem agL:Yy=K 125:=bA rfl
@[simp] theorem agM:Yz=K 126:=bA rfl
@[simp] theorem agN:YA=K 127:=bA rfl
@[simp] theorem agO:YB=K 128:=bA rfl
@[simp] theorem agP:YC=K 129:=bA rfl
@[simp] theorem agQ:YD=K 130:=bA rfl
@[simp] theorem agR:Un=K 131:=bA rfl
@[simp] theorem agS:YE=K 132:=bA rfl
@[simp] theorem agT:YF=K 133:=bA rfl
@[simp] theorem agU:YG=K 134:=bA rfl
@[simp] theorem agV:YH=K 135:=bA rfl
@[simp] theorem agW:YI=K 136:=bA rfl
@[simp] theorem agX:YJ=K 137:=bA rfl
@[simp] theorem agY:Mc=K 138:=bA rfl
@[simp] theorem agZ:YK=K 139:=bA rfl
@[simp] theorem ag0:YL=K 140:=bA rfl
@[simp] theorem ag1:Md=K 141:=bA rfl
@[simp] theorem ag2:YM=K 142:=bA rfl
@[simp] theorem ag3:YN=K 143:=bA rfl
@[simp] theorem ag4:YO=K 144:=bA rfl
@[simp] theorem ag5:YP=K 145:=bA rfl
@[simp] theorem ag6:YQ=K 146:=bA rfl
@[simp] theorem ag7:YR=K 147:=bA rfl
@[simp] theorem ag8:Me=K 148:=bA rfl
@[simp] theorem ag9:YS=K 149:=bA rfl
@[simp] theorem aha:YT=K 150:=bA rfl
@[simp] theorem ahb:Mf=K 151:=bA rfl
@[simp] theorem ahc:YU=K 152:=bA rfl
@[simp] theorem ahd:YV=K 153:=bA rfl
@[simp] theorem ahe:GK=K 154:=bA rfl
@[simp] theorem ahf:YW=K 155:=bA rfl
@[simp] theorem ahg:YX=K 156:=bA rfl
@[simp] theorem ahh:YY=K 157:=bA rfl
@[simp] theorem ahi:YZ=K 158:=bA rfl
@[simp] theorem ahj:Y0=K 159:=bA rfl
@[simp] theorem ahk:Y1=K 160:=bA rfl
@[simp] theorem ahl:Y2=K 161:=bA rfl
@[simp] theorem ahm:Y3=K 162:=bA rfl
@[simp] theorem ahn:Y4=K 163:=bA rfl
@[simp] theorem aho:Y5=K 164:=bA rfl
@[simp] theorem ahp:Y6=K 165:=bA rfl
theorem hide{α:Type}{a b:α}(h:a=b):a=b:=h
abbrev I(n:Int):AV:=.int .i64 (.lit n)
def oM(d s:Key):aq:=⟨some d,.mov (.t s),none⟩
def oL(d:Key)(n:Nat)(s:Key):aq:=⟨some d,.load false n (.t s),none⟩
def oA(d:Key)(n:Nat)(s:Key):aq:=⟨some d,.load true n (.t s),none⟩
def oF(d:Key)(n:Nat)(s:Key):aq:=⟨some d,.fieldA n (.t s),none⟩
def oS(n:Nat)(a s:Key):aq:=⟨none,.store n (.t a) (.t s),none⟩
def oN(d s:Key):aq:=⟨some d,.nilc (.t s),none⟩
def oZ(d s:Key):aq:=⟨some d,.lenL (.t s),none⟩
def oE(d s:Key)(n:Int):aq:=⟨some d,.bin .eql (.t s) (.v (I n)),none⟩
def oI(d:Key)(n:Nat)(s i:Key):aq:=⟨some d,.indexL n (.t s) (.t i),none⟩
def oX(d s:Key)(n:Nat):aq:=⟨some d,.extract (.t s) n,none⟩
def oB(d s:Key):aq:=⟨some d,.box (.t s),none⟩
def oJ(d:Key)(v:AV):aq:=⟨some d,.mov (.v v),none⟩
@[simp] theorem hU(d s:Key):oM d s=⟨some d,.mov (.t s),none⟩:=hide rfl
@[simp] theorem hZ(d:Key)(n:Nat)(s:Key):oL d n s=⟨some d,.load false n (.t s),none⟩:=hide rfl
@[simp] theorem jl(d:Key)(n:Nat)(s:Key):oA d n s=⟨some d,.load true n (.t s),none⟩:=hide rfl
@[simp] theorem jm(d:Key)(n:Nat)(s:Key):oF d n s=⟨some d,.fieldA n (.t s),none⟩:=hide rfl
@[simp] theorem jo(n:Nat)(a s:Key):oS n a s=⟨none,.store n (.t a) (.t s),none⟩:=hide rfl
@[simp] theorem js(d s:Key):oN d s=⟨some d,.nilc (.t s),none⟩:=hide rfl
@[simp] theorem jr(d s:Key):oZ d s=⟨some d,.lenL (.t s),none⟩:=hide rfl
@[simp] theorem jq(d s:Key)(n:Int):oE d s n=⟨some d,.bin .eql (.t s) (.v (I n)),none⟩:=hide rfl
@[simp] theorem jk(d:Key)(n:Nat)(s i:Key):oI d n s i=⟨some d,.indexL n (.t s) (.t i),none⟩:=hide rfl
@[simp] theorem jt(d s:Key)(n:Nat):oX d s n=⟨some d,.extract (.t s) n,none⟩:=hide rfl
@[simp] theorem alx(d s:Key):oB d s=⟨some d,.box (.t s),none⟩:=hide rfl
@[simp] theorem ia(d:Key)(v:AV):oJ d v=⟨some d,.mov (.v v),none⟩:=hide rfl
abbrev Rw:=List aq
def oO(d:Key)(o:BinOp)(a b:Key):aq:=⟨some d,.bin o (.t a) (.t b),none⟩
@[simp] theorem ib(d:Key)(o:BinOp)(a b:Key):oO d o a b=⟨some d,.bin o (.t a) (.t b),none⟩:=hide rfl
def oK(d:Key)(o:BinOp)(a:Key)(i:Int):aq:=⟨some d,.bin o (.t a) (.v (I i)),none⟩
@[simp] theorem ic(d:Key)(o:BinOp)(a:Key)(i:Int):oK d o a i=⟨some d,.bin o (.t a) (.v (I i)),none⟩:=hide rfl
instance:Coe Key PX:=⟨.t⟩
instance:Coe AV PX:=⟨.v⟩
instance:Coe (List aq) av:=⟨.ops⟩
def oC(d:Key)(f:Nat)(l:List PX):aq:=⟨some d,.callF f l,none⟩
@[simp] theorem jn(d:Key)(f:Nat)(l:List PX):oC d f l=⟨some d,.callF f l,none⟩:=hide rfl
def oT(d s g:Key):aq:=⟨some d,.mov (.t s),some (g,true)⟩
@[simp] theorem aly(d s g:Key):oT d s g=⟨some d,.mov (.t s),some (g,true)⟩:=hide rfl
def oQ(d s g:Key):aq:=⟨some d,.mov (.t s),some (g,false)⟩
@[simp] theorem alz(d s g:Key):oQ d s g=⟨some d,.mov (.t s),some (g,false)⟩:=hide rfl
def oP(d a b:Key):aq:=⟨some d,.pick (.t a) (.t b) (.v (.bool false)),none⟩
@[simp] theorem alA(d a b:Key):oP d a b=⟨some d,.pick (.t a) (.t b) (.v (.bool false)),none⟩:=hide rfl
end Go.Sx
namespace Go.Sx
open Go.RowKit
mutual
def AV.kf:AV→Bool
 |.bool _|.int _ _|.str _ _|.nilp|.nils|.nilm|.nilf|.nili=>true
 |.iface _ v=>AV.kf v
 |.agg l=>AV.OO l
 |.tuple l=>AV.OO l
 |.sl l _ _ .any=>AV.OO l
 |.cref l=>AV.OO l
 |.fn _ a c=>AV.OO a&&AV.OO c
 |_=>false
def AV.OO:List AV→Bool
 | []=>true
 |a ::l=>AV.kf a&&AV.OO l
end
mutual
theorem aA.kf{ρ:Nat→Int}{μ μ':Mu}(hf:∀c i v,μ.fz c i=some v→μ'.fz c i=some v):∀{a:AV} {v:Value},aA ρ μ a v→a.kf=true→aA ρ μ' a v
 |_,_,.bool b,_=>.bool b
 |_,_,.int k s n h,_=>.int k s n h
 |_,_,.str n c s h h',_=>.str n c s h h'
 |_,_,.ptr b off l a h ha,hk=>by simp[AV.kf]at hk
 |_,_,.nilp,_=>.nilp
 |_,_,.slice b off len sz cap l a h hc hl ha,hk=>by simp[AV.kf]at hk
 |_,_,.nils,_=>.nils
 |_,_,.map b l r h hr,hk=>by simp[AV.kf]at hk
 |_,_,.nilm,_=>.nilm
 |_,_,.fn f first cap vs ws h h',hk=>by simp only[AV.kf,fa]at hk;exact .fn f first cap vs ws (ao.kf hf h hk.1) (ao.kf hf h' hk.2)
 |_,_,.yld b l r h hr,hk=>by simp[AV.kf]at hk
 |_,_,.nilf,_=>.nilf
 |_,_,.iface t a v h,hk=>.iface t a v (aA.kf hf h (by simpa[AV.kf]using hk))
 |_,_,.nili,_=>.nili
 |_,_,.agg l vs h,hk=>.agg l vs (ao.kf hf h (by simpa[AV.kf]using hk))
 |_,_,.tuple l vs h,hk=>.tuple l vs (ao.kf hf h (by simpa[AV.kf]using hk))
 |_,_,.sl l len sz fl cap c o a vs h hn hl ha hff hg,hk=>by
  cases fl with
  |any=>exact .sl l len sz .any cap c o a vs (ao.kf hf h (by simpa[AV.kf]using hk)) hn hl ha (fun i v e=>hf _ _ _ (hff i v e)) trivial
  |tok b=>simp[AV.kf]at hk
 |_,_,.cref l c o a vs h ha hff,hk=>.cref l c o a vs (ao.kf hf h (by simpa[AV.kf]using hk)) ha (fun i v e=>hf _ _ _ (hff i v e))
theorem ao.kf{ρ:Nat→Int}{μ μ':Mu}(hf:∀c i v,μ.fz c i=some v→μ'.fz c i=some v):∀{l:List AV} {vs:List Value},ao ρ μ l vs→AV.OO l=true→ao ρ μ' l vs
 |_,_,.nil,_=>.nil
 |_,_,.cons a l v vs h h',hk=>by simp only[AV.OO,fa]at hk;exact .cons a l v vs (aA.kf hf h hk.1) (ao.kf hf h' hk.2)
end
structure nO(P:Program)(aI:T ab)(w0:W0):Prop where
 size:P.globals.size≤w0.heap.size
 at_:∀b B,ae b aI=some B→b.toNat<P.globals.size∧∃L arr elem f,B=.cells L .ro∧w0.heap[b.toNat]?=some (.cells arr elem f)∧(∀(ρ:Nat→Int) (μ:Mu),ao ρ μ L arr.toList)∧∀i v,arr[i]?=some v→w0.z b.toNat i=some v
section
variable{P:Program}{ρ:Nat→Int}{aI:T ab}
noncomputable def FD(aI:T ab)(b:Key):Nat:=match ae b aI with
 |some (.cells L _)=>L.length
 |_=>0
noncomputable def UN(P:Program)(aI:T ab)(fz:Nat→Nat→Option Value):Mu:=⟨fun b=>if b.toNat<P.globals.size then some ⟨b.toNat,0,FD aI b⟩else none,fz⟩
theorem BY{fz:Nat→Nat→Option Value}{b:Key}{l:Loc}(h:(UN P aI fz) b=some l):b.toNat<P.globals.size∧l=⟨b.toNat,0,FD aI b⟩:=by
 have h:(if b.toNat<P.globals.size then some (⟨b.toNat,0,FD aI b⟩:Loc)else none)=some l:=h;split at h
 ·rename_i hb;cases h;exact⟨hb,rfl⟩
 ·cases h
theorem HL{w0:W0}(hL:nO P aI w0)(hz:∀c i v,w0.z c i=some v→∃arr elem f,w0.heap[c]?=some (.cells arr elem f)∧arr[i]?=some v){nx:Nat}(hn:P.globals.size≤nx) :
  aL P ρ w0 (UN P aI w0.z) (fun b=>ae b aI) nx w0.toWorld:=by
 have adQ:∀b:Key,b.toNat<P.globals.size→(UN P aI w0.z) b=some ⟨b.toNat,0,FD aI b⟩:=by intro b hb;show(if b.toNat<P.globals.size then some (⟨b.toNat,0,FD aI b⟩:Loc)else none)=_;rw[if_pos hb]
 refine⟨?_,?_,?_,?_,?_,?_,Below.refl _ _,hz,?_,fun _ _ _ h=>h,fun _ _ _ h=>.inr h,?_,cI _⟩
 ·intro b B hb;obtain⟨h1,L,arr,elem,f,rfl,h3,h4,h5⟩:=hL.at_ b B hb;have hlen:L.length=arr.size:=by simpa using(h4 ρ (UN P aI w0.z)).length
  refine⟨_,_,adQ b h1,h3,.cells L .ro _ arr elem f ?_ ?_ ?_ (fun h=>absurd rfl h) ?_⟩
  ·intro i a ha;obtain⟨v,hv,hr⟩:=(h4 ρ (UN P aI w0.z)).get i a ha;exact⟨v,by simpa using hv,hr⟩
  ·show 0+FD aI b≤arr.size;simp only[FD,hb];omega
  ·show L.length≤FD aI b;simp only[FD,hb];exact cI _
  ·intro _;show L.length=FD aI b;simp only[FD,hb]
 ·intro b b' B B' l l' h1 h2 m1 m2 cL;obtain⟨_,rfl⟩:=BY m1;obtain⟨_,rfl⟩:=BY m2;exact fun e=>cL (Key.toNat_inj e)
 ·intro b l m;obtain⟨h1,rfl⟩:=BY m;exact GD h1 hL.size
 ·intro b B l hb m;obtain⟨h1,L,arr,elem,f,rfl,_⟩:=hL.at_ b B hb;exact .inl trivial
 ·intro k hk;exact⟨_,adQ k hk⟩
 ·intro b l m;obtain⟨h1,rfl⟩:=BY m;omega
 ·intro b B l n hb m sf i hi;obtain⟨h1,L,arr,elem,f,rfl,_⟩:=hL.at_ b B hb;cases sf
 ·intro b L l hb m;obtain⟨_,rfl⟩:=BY m;obtain⟨h1,L',arr,elem,f,e,h3,h4,h5⟩:=hL.at_ b _ hb;refine .inr fun AG ee ff i v ha hv=>?_;have ha:w0.heap[b.toNat]?=some (.cells AG ee ff):=ha;rw[h3]at ha;cases ha;exact h5 i v hv
theorem nO.ady{w0:W0}{w:World}{fz:Nat→Nat→Option Value}(hL:nO P aI w0)(hb:Below w0.heap.size w0.toWorld w)(hz:∀c i v,w0.z c i=some v→fz c i=some v):nO P aI ⟨w,fz⟩:=by refine⟨Nat.le_trans hL.size hb.size,fun b B h=>?_⟩;obtain⟨h1,L,arr,elem,f,h2,h3,h4,h5⟩:=hL.at_ b B h;refine⟨h1,L,arr,elem,f,h2,?_,h4,fun i v hv=>hz _ _ _ (h5 i v hv)⟩;show w.heap[b.toNat]?=_;rw[hb.block _ (GD h1 hL.size)];exact h3
def adR(tab:List (Nat×List AV×AV))(f:Nat)(l:List AV)(h:T ab)(nx:Key):Option (AV×T ab×Key):=match tab with
 | []=>none
 |(g,m,v) ::r=>bif Nat.beq f g&&AV.AJ l m then some (v,h,nx)else adR r f l h nx
theorem FE{C:cX}{w0:W0}{w:World}{μ0:Mu}{G0:Key→Option ab}{H:T ab}{nx:Key}(X:Ctx P ρ w0 C){f:Nat}{l:List AV}{args:Array Value}(hM:aL P ρ w0 μ0 G0 nx.toNat w)(hH:HSub H G0)(hl:ao ρ μ0 l args.toList)
  {R:Out→T ab→Key→Prop} (hR:∀o h nx,R o h nx→∃v,o=.ret v) (hc:ax C f l H nx R) :
  Calls P f args w fun e w'=>∃v h' nx' u μ G,R (.ret v) h' nx'∧e=.returned u∧aA ρ μ v u∧μ0.le μ∧aL P ρ w0 μ G nx'.toNat w'∧HSub h' G:=by
 rcases hc with⟨v,h',nx',hs,hr⟩|⟨hs,p,hp,cR⟩
 ·refine(X.sum f l H nx v h' nx' hs args w μ0 G0 hM hH hl).mono ?_;rintro e w' ⟨u,μ',G',rfl,h1,h2,h3,h4,_⟩;exact⟨v,h',nx',u,μ',G',hr,rfl,h1,h2,h3,h4⟩
 ·have hpf:Ay P f=some p:=X.fns f p hp;intro cs;have hm:xk P ρ C.orc w0 μ0 ⟨eK f p l,[],H,nx⟩ (Frame.enter P f args .normal) [] w:=
   ⟨μ0,G0,μ0.le_refl,hM,hH,uc hpf hl false,trivial,by simp[aU,pk,eK]⟩
  obtain⟨MP,dG,vQ,w',⟨o,h',nx',fr,h1,hr,XO,Pw,⟨hd,hL⟩,rfl⟩,s1,s2⟩:=Ev.sound (rest:=cs) X (cR []) hm;obtain⟨v,rfl⟩:=hR o h' nx' hr;obtain⟨Dl,l1,QA,rfl,rfl⟩:=hL;have z8:fU C ⟨fr,[],h1,nx'⟩=.done f (lN (bG (C.lL f) l1 h1).1) (bG (C.lL f) l1 h1).2 nx':=by unfold fU;simp only[Dl];unfold y0;simp only[hd,Dl,QA,XO,tZ];unfold Eu;simp only[Pw,cond_false,XO]
  have hg:=sm (rest:=cs) X s2;rw[z8]at hg;obtain⟨C9,w2,μ,G,u,t1,t2,t3,t4,t5,t6,t7⟩:=hg;exact⟨.returned u,w2,C9,⟨_,_,_,u,μ,G,hr,rfl,t4,t5,t6,t7⟩,s1.trans t1,t2,t3⟩
noncomputable def yz:List (Nat×dB)→T dB
 | []=>.nil
 |(i,p) ::l=>ar (Key.dL 12 i) (some p) (yz l)
theorem FF:∀{l:List (Nat×dB)} {k:Key} {p:dB},ae k (yz l)=some p→∃i,(i,p)∈l∧k=Key.dL 12 i
 | [],k,p,h=>by simp[yz]at h
 |(i,q) ::l,k,p,h=>by
  simp only[yz]at h;by_cases e:k=Key.dL 12 i
  ·subst e;rw[gTSm]at h;cases h;exact⟨i,by simp,rfl⟩
  ·rw[bQ _ _ _ _ e]at h;obtain⟨j,h1,h2⟩:=FF h;exact⟨j,List.mem_cons_of_mem _ h1,h2⟩
def BX(P:Program):List (Nat×dB)→Prop
 | []=>True
 |(i,p) ::l=>(Nat.blt i 8000=true∧Ay P i=some p)∧BX P l
theorem BX.mem:∀{l:List (Nat×dB)},BX P l→∀{i:Nat} {p:dB},(i,p)∈l→i<8000∧Ay P i=some p
 | [],_,_,_,h=>by cases h
 |(j,q) ::l,ha,i,p,h=>by
  rcases zk.1 h with e|e
  ·cases e;have:=ha.1.1;rw[bltN_eq,decide_eq_true_eq]at this;exact⟨this,ha.1.2⟩
  ·exact BX.mem ha.2 e
noncomputable def adS(fns:T dB)(tab:List (Nat×List AV×AV)):cX:=⟨[],fns,adR tab,fun _=>false,fun _=>false⟩
theorem Kq{fns:T dB}{Kp:List (Nat×dB)}(hb:fns=yz Kp)(ha:BX P Kp){tab:List (Nat×List AV×AV)}{f:Nat}{p:dB}(h:zT (adS fns tab) f=some p):Ay P f=some p:=by
 unfold zT at h;cases hk:Nat.beq (Key.dL 12 f).toNat f with
 |false=>rw[hk]at h;cases h
 |true=>
  rw[hk]at h;have hk:=mo hk;have h:ae (Key.dL 12 f) fns=some p:=h;rw[hb]at h;obtain⟨i,h1,h2⟩:=FF h;obtain⟨h3,h4⟩:=ha.mem h1;have:i=f:=by have e:=congrArg Key.toNat h2;rw[hk,l7 12 i (by omega)]at e;exact e.symm
  subst this;exact h4
def NB(P:Program)(ρ:Nat→Int)(aI:T ab):List (Nat×List AV×AV)→Prop
 | []=>True
 |(f,l,v) ::r=>((∃p,Ay P f=some p)∧∀w0:W0,nO P aI w0→∀H nx,Km P ρ w0 f l H nx v H nx)∧NB P ρ aI r
theorem NB.mem:∀{tab:List (Nat×List AV×AV)},NB P ρ aI tab→∀{f:Nat} {l:List AV} {v:AV},(f,l,v)∈tab→(∃p,Ay P f=some p)∧∀w0:W0,nO P aI w0→∀H nx,Km P ρ w0 f l H nx v H nx
 | [],_,_,_,_,h=>by cases h
 |(g,m,u) ::r,ht,f,l,v,h=>by
  rcases zk.1 h with e|e
  ·cases e;exact ht.1
  ·exact NB.mem ht.2 e
end
end Go.Sx
namespace Go.Sx
open Go
theorem ay{a b:Key}(h:a.toNat≠b.toNat):a≠b:=fun e=>h (by rw[e])
theorem mw{a b:Key}(h:a.toNat≠b.toNat)(v:Option ab)(t:T ab):ae a (ar b v t)=ae a t:=bQ _ _ _ _ (ay h)
variable(n:Key)(v:Option ab)(t:T ab)
@[simp] theorem ahw:ae n (ar n.succ v t)=ae n t:=mw (by simp;try omega) v t
@[simp] theorem ahx:ae n (ar n.succ.succ v t)=ae n t:=mw (by simp;try omega) v t
@[simp] theorem ahy:ae n (ar n.succ.succ.succ v t)=ae n t:=mw (by simp;try omega) v t
@[simp] theorem ahz:ae n (ar n.succ.succ.succ.succ v t)=ae n t:=mw (by simp;try omega) v t
@[simp] theorem ahA:ae n (ar n.succ.succ.succ.succ.succ v t)=ae n t:=mw (by simp;try omega) v t
@[simp] theorem ahB:ae n (ar n.succ.succ.succ.succ.succ.succ v t)=ae n t:=mw (by simp;try omega) v t
@[simp] theorem ahC:ae n (ar n.succ.succ.succ.succ.succ.succ.succ v t)=ae n t:=mw (by simp;try omega) v t
@[simp] theorem ahD:ae n.succ (ar n v t)=ae n.succ t:=mw (by simp;try omega) v t
@[simp] theorem ahE:ae n.succ (ar n.succ.succ v t)=ae n.succ t:=mw (by simp;try omega) v t
@[simp] theorem ahF:ae n.succ (ar n.succ.succ.succ v t)=ae n.succ t:=mw (by simp;try omega) v t
@[simp] theorem ahG:ae n.succ (ar n.succ.succ.succ.succ v t)=ae n.succ t:=mw (by simp;try omega) v t
@[simp] theorem ahH:ae n.succ (ar n.succ.succ.succ.succ.succ v t)=ae n.succ t:=mw (by simp;try omega) v t
@[simp] theorem ahI:ae n.succ (ar n.succ.succ.succ.succ.succ.succ v t)=ae n.succ t:=mw (by simp;try omega) v t
@[simp] theorem ahJ:ae n.succ (ar n.succ.succ.succ.succ.succ.succ.succ v t)=ae n.succ t:=mw (by simp;try omega) v t
@[simp] theorem ahK:ae n.succ.succ (ar n v t)=ae n.succ.succ t:=mw (by simp;try omega) v t
@[simp] theorem ahL:ae n.succ.succ (ar n.succ v t)=ae n.succ.succ t:=mw (by simp;try omega) v t
@[simp] theorem ahM:ae n.succ.succ (ar n.succ.succ.succ v t)=ae n.succ.succ t:=mw (by simp;try omega) v t
@[simp] theorem ahN:ae n.succ.succ (ar n.succ.succ.succ.succ v t)=ae n.succ.succ t:=mw (by simp;try omega) v t
@[simp] theorem ahO:ae n.succ.succ (ar n.succ.succ.succ.succ.succ v t)=ae n.succ.succ t:=mw (by simp;try omega) v t
@[simp] theorem ahP:ae n.succ.succ (ar n.succ.succ.succ.succ.succ.succ v t)=ae n.succ.succ t:=mw (by simp;try omega) v t
@[simp] theorem ahQ:ae n.succ.succ (ar n.succ.succ.succ.succ.succ.succ.succ v t)=ae n.succ.succ t:=mw (by simp;try omega) v t
@[simp] theorem ahR:ae n.succ.succ.succ (ar n v t)=ae n.succ.succ.succ t:=mw (by simp;try omega) v t
@[simp] theorem ahS:ae n.succ.succ.succ (ar n.succ v t)=ae n.succ.succ.succ t:=mw (by simp;try omega) v t
@[simp] theorem ahT:ae n.succ.succ.succ (ar n.succ.succ v t)=ae n.succ.succ.succ t:=mw (by simp;try omega) v t
@[simp] theorem ahU:ae n.succ.succ.succ (ar n.succ.succ.succ.succ v t)=ae n.succ.succ.succ t:=mw (by simp;try omega) v t
@[simp] theorem ahV:ae n.succ.succ.succ (ar n.succ.succ.succ.succ.succ v t)=ae n.succ.succ.succ t:=mw (by simp;try omega) v t
@[simp] theorem ahW:ae n.succ.succ.succ (ar n.succ.succ.succ.succ.succ.succ v t)=ae n.succ.succ.succ t:=mw (by simp;try omega) v t
@[simp] theorem ahX:ae n.succ.succ.succ (ar n.succ.succ.succ.succ.succ.succ.succ v t)=ae n.succ.succ.succ t:=mw (by simp;try omega) v t
@[simp] theorem ahY:ae n.succ.succ.succ.succ (ar n v t)=ae n.succ.succ.succ.succ t:=mw (by simp;try omega) v t
@[simp] theorem ahZ:ae n.succ.succ.succ.succ (ar n.succ v t)=ae n.succ.succ.succ.succ t:=mw (by simp;try omega) v t
@[simp] theorem ah0:ae n.succ.succ.succ.succ (ar n.succ.succ v t)=ae n.succ.succ.succ.succ t:=mw (by simp;try omega) v t
@[simp] theorem ah1:ae n.succ.succ.succ.succ (ar n.succ.succ.succ v t)=ae n.succ.succ.succ.succ t:=mw (by simp;try omega) v t
@[simp] theorem ah2:ae n.succ.succ.succ.succ (ar n.succ.succ.succ.succ.succ v t)=ae n.succ.succ.succ.succ t:=mw (by simp;try omega) v t
@[simp] theorem ah3:ae n.succ.succ.succ.succ (ar n.succ.succ.succ.succ.succ.succ v t)=ae n.succ.succ.succ.succ t:=mw (by simp;try omega) v t
@[simp] theorem ah4:ae n.succ.succ.succ.succ (ar n.succ.succ.succ.succ.succ.succ.succ v t)=ae n.succ.succ.succ.succ t:=mw (by simp;try omega) v t
@[simp] theorem ah5:ae n.succ.succ.succ.succ.succ (ar n v t)=ae n.succ.succ.succ.succ.succ t:=mw (by simp;try omega) v t
@[simp] theorem ah6:ae n.succ.succ.succ.succ.succ (ar n.succ v t)=ae n.succ.succ.succ.succ.succ t:=mw (by simp;try omega) v t
@[simp] theorem ah7:ae n.succ.succ.succ.succ.succ (ar n.succ.succ v t)=ae n.succ.succ.succ.succ.succ t:=mw (by simp;try omega) v t
@[simp] theorem ah8:ae n.succ.succ.succ.succ.succ (ar n.succ.succ.succ v t)=ae n.succ.succ.succ.succ.succ t:=mw (by simp;try omega) v t
@[simp] theorem ah9:ae n.succ.succ.succ.succ.succ (ar n.succ.succ.succ.succ v t)=ae n.succ.succ.succ.succ.succ t:=mw (by simp;try omega) v t
@[simp] theorem aia:ae n.succ.succ.succ.succ.succ (ar n.succ.succ.succ.succ.succ.succ v t)=ae n.succ.succ.succ.succ.succ t:=mw (by simp;try omega) v t
@[simp] theorem aib:ae n.succ.succ.succ.succ.succ (ar n.succ.succ.succ.succ.succ.succ.succ v t)=ae n.succ.succ.succ.succ.succ t:=mw (by simp;try omega) v t
@[simp] theorem aic:ae n.succ.succ.succ.succ.succ.succ (ar n v t)=ae n.succ.succ.succ.succ.succ.succ t:=mw (by simp;try omega) v t
@[simp] theorem aid:ae n.succ.succ.succ.succ.succ.succ (ar n.succ v t)=ae n.succ.succ.succ.succ.succ.succ t:=mw (by simp;try omega) v t
@[simp] theorem aie:ae n.succ.succ.succ.succ.succ.succ (ar n.succ.succ v t)=ae n.succ.succ.succ.succ.succ.succ t:=mw (by simp;try omega) v t
@[simp] theorem aif:ae n.succ.succ.succ.succ.succ.succ (ar n.succ.succ.succ v t)=ae n.succ.succ.succ.succ.succ.succ t:=mw (by simp;try omega) v t
@[simp] theorem aih:ae n.succ.succ.succ.succ.succ.succ (ar n.succ.succ.succ.succ v t)=ae n.succ.succ.succ.succ.succ.succ t:=mw (by simp;try omega) v t
@[simp] theorem aii:ae n.succ.succ.succ.succ.succ.succ (ar n.succ.succ.succ.succ.succ v t)=ae n.succ.succ.succ.succ.succ.succ t:=mw (by simp;try omega) v t
@[simp] theorem aij:ae n.succ.succ.succ.succ.succ.succ (ar n.succ.succ.succ.succ.succ.succ.succ v t)=ae n.succ.succ.succ.succ.succ.succ t:=mw (by simp;try omega) v t
@[simp] theorem aik:ae n.succ.succ.succ.succ.succ.succ.succ (ar n v t)=ae n.succ.succ.succ.succ.succ.succ.succ t:=mw (by simp;try omega) v t
@[simp] theorem ail:ae n.succ.succ.succ.succ.succ.succ.succ (ar n.succ v t)=ae n.succ.succ.succ.succ.succ.succ.succ t:=mw (by simp;try omega) v t
@[simp] theorem aim:ae n.succ.succ.succ.succ.succ.succ.succ (ar n.succ.succ v t)=ae n.succ.succ.succ.succ.succ.succ.succ t:=mw (by simp;try omega) v t
@[simp] theorem ain:ae n.succ.succ.succ.succ.succ.succ.succ (ar n.succ.succ.succ v t)=ae n.succ.succ.succ.succ.succ.succ.succ t:=mw (by simp;try omega) v t
@[simp] theorem aio:ae n.succ.succ.succ.succ.succ.succ.succ (ar n.succ.succ.succ.succ v t)=ae n.succ.succ.succ.succ.succ.succ.succ t:=mw (by simp;try omega) v t
@[simp] theorem aip:ae n.succ.succ.succ.succ.succ.succ.succ (ar n.succ.succ.succ.succ.succ v t)=ae n.succ.succ.succ.succ.succ.succ.succ t:=mw (by simp;try omega) v t
@[simp] theorem aiq:ae n.succ.succ.succ.succ.succ.succ.succ (ar n.succ.succ.succ.succ.succ.succ v t)=ae n.succ.succ.succ.succ.succ.succ.succ t:=mw (by simp;try omega) v t
@[simp] theorem aaU(k:IntKind):eL (.int k (.lit 2))=some 2:=rfl
@[simp] theorem Ww(k:IntKind):eL (.int k (.lit 3))=some 3:=rfl
theorem iB:∀(k:Key),Key.beq k k=true
 |.z=>rfl
 |.o k=>by rw[Key.beq];exact iB k
 |.e k=>by rw[Key.beq];exact iB k
theorem Ml(f:SF):SF.beq f f=true:=by cases f<;>simp[SF.beq,iB]
mutual
def AV.lits:AV→Bool
 |.int _ (.lit _)=>true
 |.int _ _=>false
 |.fn _ a c=>AV.ey a&&AV.ey c
 |.iface _ v=>AV.lits v
 |.agg l=>AV.ey l
 |.tuple l=>AV.ey l
 |.sl l _ _ _=>AV.ey l
 |.cref l=>AV.ey l
 |_=>true
def AV.ey:List AV→Bool
 | []=>true
 |v ::l=>AV.lits v&&AV.ey l
end
mutual
theorem beq_refl:∀(v:AV),AV.lits v=true→AV.beq v v=true
 |.bool b,_=>by simp[AV.beq]
 |.int k (.lit n),_=>by cases k<;>simp[AV.beq,SI.beq]
 |.int k (.var n),h=>by simp[AV.lits]at h
 |.int k (.bin o k' a b),h=>by simp[AV.lits]at h
 |.str n c,_=>by simp[AV.beq]
 |.ptr b o,_=>by simp[AV.beq,iB]
 |.nilp,_=>by simp[AV.beq]
 |.slice b o l s,_=>by simp[AV.beq,iB]
 |.nils,_=>by simp[AV.beq]
 |.map b,_=>by simp[AV.beq,iB]
 |.nilm,_=>by simp[AV.beq]
 |.fn f a c,h=>by simp[AV.lits]at h;simp[AV.beq,mY a h.1,mY c h.2]
 |.yld l,_=>by simp[AV.beq,iB]
 |.nilf,_=>by simp[AV.beq]
 |.iface t v,h=>by simp[AV.lits]at h;simp[AV.beq,beq_refl v h]
 |.nili,_=>by simp[AV.beq]
 |.agg l,h=>by simp[AV.lits]at h;simp[AV.beq,mY l h]
 |.tuple l,h=>by simp[AV.lits]at h;simp[AV.beq,mY l h]
 |.sl l n z f,h=>by simp[AV.lits]at h;simp[AV.beq,Ml,mY l h]
 |.cref l,h=>by simp[AV.lits]at h;simp[AV.beq,mY l h]
theorem mY:∀(l:List AV),AV.ey l=true→AV.AJ l l=true
 | [],_=>by simp[AV.AJ]
 |v ::l,h=>by simp[AV.ey]at h;simp[AV.AJ,beq_refl v h.1,mY l h.2]
end
theorem Fm:∀{l:List AV},(∀x∈l,AV.lits x=true)→AV.ey l=true
 | [],_=>by simp[AV.ey]
 |v ::l,h=>by simp[AV.ey,h v (by simp),Fm (l:=l) fun x hx=>h x (by simp[hx])]
theorem zb:∀{l:List AV},AV.ey l=true→∀x∈l,AV.lits x=true
 | [],_,x,hx=>by simp at hx
 |v ::l,h,x,hx=>by
  simp[AV.ey]at h;rcases zk.1 hx with rfl|hx
  ·exact h.1
  ·exact zb h.2 x hx
end Go.Sx
namespace Go.Sx
open Go
structure Fn(C:cX)(f:Nat)(p:dB):Prop where
 get:zT C f=some p
 off:∀l h nx,C.sum f l h nx=none
 lL:C.lL f=false
theorem Fn.call{C:cX}{f:Nat}{p:dB}(S:Fn C f p){l:List AV}{h:T ab}{nx:Key}{R:Out→T ab→Key→Prop}(hw:il C p.body (eO p.res R) (eH l (K 0) .nil) h nx):ax C f l h nx R:=
 ax.of (S.off _ _ _) S.get S.lL hw
abbrev S:=Nat×Nat
def PG(c:AV):Prop:=∀n h,aK n c h=(c,h)
theorem Q9(l:List AV)(n z:Nat):PG (.sl l n z .any):=fun k h=>by cases k<;>rfl
theorem Rj:PG .nils:=fun k h=>by cases k<;>rfl
theorem qp(k:IntKind)(n:SI):PG (.int k n):=fun k h=>by cases k<;>rfl
theorem UG(a b:Nat):PG (.str a b):=fun k h=>by cases k<;>rfl
theorem aG{n:Nat}:∀{l:List AV} {h:T ab},(∀x∈l,PG x)→aO (aK n) l h=(l,h)
 | [],_,_=>rfl
 |v ::l,h,hs=>by have h1:=hs v (by simp) n h;have h2:=aG (n:=n) (l:=l) (h:=h) fun x hx=>hs x (by simp[hx]);simp only[aO,h1,h2]
theorem EZ{n:Nat}{b:Key}{len sz:Nat}{l:List AV}{H:T ab}(hg:ae b H=some (.cells l .part))(hl:l.length=len*sz)(hs:∀x∈l,PG x):aK (n+1) (.slice b 0 len sz) H=(.sl l len sz .any,ar b none H):=by simp only[aK,Fo,hg,List.drop_zero];rw[if_pos (by omega),Hf (by omega),aG hs]
theorem M9{n:Nat}{b:Key}{len sz:Nat}{l:List AV}{H:T ab}(hg:ae b H=some (.cells l .fix))(hl:l.length=len*sz)(hs:∀x∈l,PG x):aK (n+1) (.slice b 0 len sz) H=(.sl l len sz .any,ar b (some (.cells l .ro)) H):=by simp only[aK,Fo,hg,List.drop_zero];rw[if_pos (by omega),Hf (by omega),aG hs]
def Pur(C:cX)(f:Nat)(l:List AV)(P:Out→Prop):Prop:=∀h nx,ax C f l h nx (fun o h' nx'=>P o∧Ext h nx h' nx')
theorem Pur.mono{C:cX}{f:Nat}{l:List AV}{P Q:Out→Prop}(hp:Pur C f l P)(hq:∀o,P o→Q o):Pur C f l Q:=
 fun h nx=>(hp h nx).mono fun o _ _ ⟨a,b⟩=>⟨hq o a,b⟩
theorem E0(h:T ab)(nx:Key)(B:ab):Ext h nx (ar nx (some B) h) nx.succ:=by have s1:=kTSu nx;exact⟨by omega,fun b hb=>by rw[al hb]⟩
theorem Ext.put{h h':T ab}{nx nx' k:Key}{B:Option ab}(e:Ext h nx h' nx')(hk:nx.toNat≤k.toNat):Ext h nx (ar k B h') nx':=
 ⟨e.n,fun b hb=>by rw[al (by omega)];exact e.g b hb⟩
theorem Ext.up{h h':T ab}{nx nx' n2:Key}(e:Ext h nx h' nx')(hn:nx'.toNat≤n2.toNat):Ext h nx h' n2:=⟨by have:=e.n;omega,e.g⟩
section
variable{α:Type}
def an(enc:α→List AV)(l:List α):List AV:=l.flatMap enc
structure Flat(z:Nat)(enc:α→List AV):Prop where
 len:∀x,(enc x).length=z
 sg:∀x,∀y∈enc x,PG y
 cell:∀x,∀y∈enc x,AV.bH y=true
 lits:∀x,AV.ey (enc x)=true
variable{z:Nat}{enc:α→List AV}
@[simp] theorem tU(enc:α→List AV):an enc []=[]:=rfl
theorem db(enc:α→List AV)(x:α)(l:List α):an enc (x ::l)=enc x++an enc l:=rfl
theorem gA(enc:α→List AV)(l m:List α):an enc (l++m)=an enc l++an enc m:=by simp[an]
theorem kU(enc:α→List AV)(x:α):an enc [x]=enc x:=by simp[an]
theorem Flat.rows(F:Flat z enc):∀(l:List α),(an enc l).length=l.length*z
 | []=>by simp
 |x ::l=>by rw[db,fO,F.len,F.rows l,Ci,Nat.add_mul,Nat.one_mul,Nat.add_comm]
theorem Flat.drop(F:Flat z enc):∀(l:List α) (i:Nat),(an enc l).drop (i*z)=an enc (l.drop i)
 |l,0=>by simp
 | [],i+1=>by simp
 |x ::l,i+1=>by
  have hx:(enc x).length=z:=F.len x;have hz:z≤(i+1)*z:=Nat.le_mul_of_pos_left _ (Nat.succ_pos _);have he:(i+1)*z-z=i*z:=by rw[Nat.add_mul,Nat.one_mul];omega
  rw[db,zqq,List.drop_eq_nil_of_le (by omega),List.nil_append,hx,he,F.drop l i];simp
theorem Flat.take(F:Flat z enc):∀(l:List α) (i:Nat),(an enc l).take (i*z)=an enc (l.take i)
 |l,0=>by simp
 | [],i+1=>by simp
 |x ::l,i+1=>by
  have hx:(enc x).length=z:=F.len x;have hz:z≤(i+1)*z:=Nat.le_mul_of_pos_left _ (Nat.succ_pos _);have he:(i+1)*z-z=i*z:=by rw[Nat.add_mul,Nat.one_mul];omega
  rw[db,zqw,Hf (by omega),hx,he,F.take l i];simp[db]
theorem Flat.at(F:Flat z enc){l:List α}{i:Nat}(hi:i<l.length):((an enc l).drop (i*z)).take z=enc l[i]:=by rw[F.drop,zqt hi,db,List.take_append_of_le_length (by rw[F.len];exact cI _),Hf (by rw[F.len];exact cI _)]
theorem Flat.H9(F:Flat z enc)(l:List α):∀y∈an enc l,PG y:=by intro y hy;obtain⟨x,_,hx⟩:=List.mem_flatMap.1 hy;exact F.sg x y hx
theorem Flat.cells(F:Flat z enc)(l:List α):∀y∈an enc l,AV.bH y=true:=by intro y hy;obtain⟨x,_,hx⟩:=List.mem_flatMap.1 hy;exact F.cell x y hx
theorem Flat.EH(F:Flat z enc)(l:List α):(an enc l).all AV.bH=true:=Gj.2 (F.cells l)
theorem Flat.V7(F:Flat z enc)(l:List α):AV.ey (an enc l)=true:=by refine Fm fun y hy=>?_;obtain⟨x,_,hx⟩:=List.mem_flatMap.1 hy;exact zb (F.lits x) y hx
def py(z:Nat)(enc:α→List AV)(c:AV)(l:List α):Prop:=(c=.nils∧l=[])∨c=.sl (an enc l) l.length z .any
theorem py.sg{c:AV}{l:List α}(h:py z enc c l):PG c:=by
 rcases h with⟨rfl,_⟩|rfl
 ·exact Rj
 ·exact Q9 _ _ _
theorem py.cell{c:AV}{l:List α}(h:py z enc c l):c.bH=true∧c.cells=[c]:=by rcases h with⟨rfl,_⟩|rfl<;>exact⟨rfl,rfl⟩
end
structure App(c:AV)(l:List AV)(len sz:Nat)(h:T ab)(nx n0:Key):Prop where
 is:(c=.nils∧l=[]∧len=0)∨(∃b:Key,c=.slice b 0 len sz∧ae b h=some (.cells l .part)∧n0.toNat≤b.toNat∧b.toNat<nx.toNat∧l.length=len*sz)∨
  (∃t:Key,c=.sl l len sz (.tok t)∧ae t h=some .tok∧n0.toNat≤t.toNat∧t.toNat<nx.toNat)
section
variable{c:AV}{l new:List AV}{len sz m:Nat}{h h':T ab}{nx nx' n0:Key}
theorem App.nil(sz:Nat):App .nils [] 0 sz h nx n0:=⟨.inl ⟨rfl,rfl,rfl⟩⟩
theorem App.Jt(ha:App c l len sz h nx n0)(h0:n0.toNat≤nx.toNat)(hn:new.length=m*sz)(hl:len+m≤1048576)(hc:new.all AV.bH=true) :
  ∃c' h' nx',appendTo sz c new m h nx=.val c' h' nx'∧App c' (l++new) (len+m) sz h' nx' n0∧nx.toNat≤nx'.toNat∧(∀b:Key,b.toNat<n0.toNat→ae b h'=ae b h)∧∀b:Key,b.toNat<nx.toNat→(∀B,ae b h=some B→B≠.tok∧∀l,B≠.cells l .part)→ae b h'=ae b h:=by
 have s1:=kTSu nx;by_cases hm:m=0
 ·subst hm;have:new=[]:=H8 (by omega);subst this;rcases id ha.is with⟨rfl,rfl,rfl⟩|⟨b,rfl,hb,sf,bF,PM⟩|⟨t,rfl,ht,sf,bF⟩
  ·exact⟨.nils,h,nx,by simp,by simpa using ha,cI _,fun _ _=>rfl,fun _ _ _=>rfl⟩
  ·exact⟨.slice b 0 len sz,h,nx,by have IA:len≤1048576:=hl;simp[hb,IA],by simpa using ha,cI _,fun _ _=>rfl,fun _ _ _=>rfl⟩
  ·exact⟨.sl l len sz (.tok t),h,nx,by simp,by simpa using ha,cI _,fun _ _=>rfl,fun _ _ _=>rfl⟩
 ·rcases id ha.is with⟨rfl,rfl,rfl⟩|⟨b,rfl,hb,sf,bF,PM⟩|⟨t,rfl,ht,sf,bF⟩
  ·have Dl:m≤1048576:=by omega
   exact⟨.slice nx 0 (0+m) sz,ar nx (some (.cells new .part)) h,nx.succ,by simp[hm,Dl],⟨.inr (.inl ⟨nx,rfl,by simp,by omega,by omega,by simpa using hn⟩)⟩,by omega,fun b hb=>al (by omega),fun b hb _=>al hb⟩
  ·cases hw:Dg sz with
   |true=>
    refine⟨.slice nx 0 (len+m) sz,ar nx (some (.cells (l++new) .part)) (ar b none h),nx.succ,?_,⟨.inr (.inl ⟨nx,rfl,by simp,by omega,by omega,by rw[fO,PM,hn,Nat.add_mul]⟩)⟩,by omega,fun x hx=>?_,fun x hx hk=>?_⟩
    ·simp[hl,hc,hb,PM,hm,hw]
    ·rw[al (by omega),al (by omega)]
    ·rw[al hx,bQ];rintro rfl;exact(hk _ hb).2 l rfl
   |false=>
    refine⟨.sl (l++new) (len+m) sz (.tok nx),ar nx (some .tok) (ar b none h),nx.succ,?_,⟨.inr (.inr ⟨nx,rfl,by simp,by omega,by omega⟩)⟩,by omega,fun x hx=>?_,fun x hx hk=>?_⟩
    ·simp[hl,hc,hb,PM,hm,hw]
    ·rw[al (by omega),al (by omega)]
    ·rw[al hx,bQ];rintro rfl;exact(hk _ hb).2 l rfl
  ·refine⟨.sl (l++new) (len+m) sz (.tok nx),ar nx (some .tok) (ar t none h),nx.succ,?_,⟨.inr (.inr ⟨nx,rfl,by simp,by omega,by omega⟩)⟩,by omega,fun x hx=>?_,fun x hx hk=>?_⟩
   ·simp[hl,hc,ht,hm]
   ·rw[al (by omega),al (by omega)]
   ·rw[al hx,bQ];rintro rfl;exact(hk _ ht).1 rfl
theorem App.tY(ha:App c l len sz h nx n0)(hn:nx.toNat≤nx'.toNat)(hg:∀b:Key,b.toNat<nx.toNat→(ae b h=some .tok∨∃l,ae b h=some (.cells l .part))→ae b h'=ae b h):App c l len sz h' nx' n0:=by
 refine⟨?_⟩;rcases ha.is with⟨rfl,rfl,rfl⟩|⟨b,rfl,hb,sf,bF,PM⟩|⟨t,rfl,ht,sf,bF⟩
 ·exact .inl ⟨rfl,rfl,rfl⟩
 ·exact .inr (.inl ⟨b,rfl,by rw[hg b bF (.inr ⟨_,hb⟩)];exact hb,sf,by omega,PM⟩)
 ·exact .inr (.inr ⟨t,rfl,by rw[hg t bF (.inl ht)];exact ht,sf,by omega⟩)
theorem App.ext(ha:App c l len sz h nx n0)(e:Ext h nx h' nx'):App c l len sz h' nx' n0:=ha.tY e.n fun b hb _=>e.g b hb
theorem App.cell(ha:App c l len sz h nx n0):c.bH=true∧c.cells=[c]:=by rcases ha.is with⟨rfl,rfl,rfl⟩|⟨b,rfl,_⟩|⟨t,rfl,_⟩<;>exact⟨rfl,rfl⟩
theorem App.set{k:Key}{B:Option ab}(ha:App c l len sz h nx n0)(hk:∀B,ae k h=some B→B≠.tok∧∀l,B≠.cells l .part):App c l len sz (ar k B h) nx n0:=
 ha.tY (cI _) fun b _ hx=>bQ _ _ _ _ fun e=>by
  subst e;rcases hx with hx|⟨l,hx⟩
  ·exact(hk _ hx).1 rfl
  ·exact(hk _ hx).2 _ rfl
theorem App.OJ(ha:App c l len sz h nx n0)(hs:∀y∈l,PG y)(n:Nat) :
  ((aK (n+1) c h).1=.nils∧l=[]∧len=0∨(aK (n+1) c h).1=.sl l len sz .any)∧∀b:Key,b.toNat<n0.toNat→ae b (aK (n+1) c h).2=ae b h:=by
 rcases ha.is with⟨rfl,rfl,rfl⟩|⟨b,rfl,hb,sf,bF,PM⟩|⟨t,rfl,ht,sf,bF⟩
 ·exact⟨.inl ⟨rfl,rfl,rfl⟩,fun _ _=>rfl⟩
 ·rw[EZ hb PM hs];exact⟨.inr rfl,fun x hx=>al (by omega)⟩
 ·exact⟨.inr rfl,fun _ _=>rfl⟩
theorem App.Dh{α:Type}{enc:α→List AV}(F:Flat sz enc){us:List α}(ha:App c (an enc us) us.length sz h nx n0)(n:Nat) :
  py sz enc (aK (n+1) c h).1 us∧∀b:Key,b.toNat<n0.toNat→ae b (aK (n+1) c h).2=ae b h:=by
 obtain⟨h1,h2⟩:=ha.OJ (F.H9 us) n;refine⟨?_,h2⟩;rcases h1 with⟨e,_,e3⟩|e
 ·exact .inl ⟨e,H8 e3⟩
 ·exact .inr e
theorem App.LV{α:Type}{enc:α→List AV}(F:Flat sz enc){us:List α}(ha:App c (an enc us) us.length sz h nx n0)(h0:n0.toNat≤nx.toNat)(hl:us.length+1≤1048576)(x:α) :
  ∃c' h' nx',appendTo sz c (enc x) 1 h nx=.val c' h' nx'∧App c' (an enc (us ++ [x])) (us ++ [x]).length sz h' nx' n0∧nx.toNat≤nx'.toNat∧(∀b:Key,b.toNat<n0.toNat→ae b h'=ae b h)∧∀b:Key,b.toNat<nx.toNat→(∀B,ae b h=some B→B≠.tok∧∀l,B≠.cells l .part)→ae b h'=ae b h:=by
 obtain⟨c',h',nx',a,b,c,d,e⟩:=ha.Jt (new:=enc x) (m:=1) h0 (by rw[F.len,Nat.one_mul]) hl (Gj.2 (F.cell x));exact⟨c',h',nx',a,by rw[gA,kU,fO];exact b,c,d,e⟩
end
end Go.Sx
namespace Go.Sx
open Go.RowKit
mutual
def AV.sub(ρ:Nat→Int):AV→AV
 |.int k s=>.int k (.lit (s.den ρ))
 |.iface t v=>.iface t (AV.sub ρ v)
 |.agg l=>.agg (AV.BW ρ l)
 |.tuple l=>.tuple (AV.BW ρ l)
 |.sl l n z f=>.sl (AV.BW ρ l) n z f
 |.cref l=>.cref (AV.BW ρ l)
 |.fn f a c=>.fn f (AV.BW ρ a) (AV.BW ρ c)
 |a=>a
def AV.BW(ρ:Nat→Int):List AV→List AV
 | []=>[]
 |a ::l=>AV.sub ρ a ::AV.BW ρ l
end
theorem AV.Fz(ρ:Nat→Int):∀l:List AV,(AV.BW ρ l).length=l.length
 | []=>rfl
 |_ ::l=>by simp only[AV.BW,Ci,AV.Fz ρ l]
section
variable{ρ ρ':Nat→Int}{μ:Mu}
mutual
theorem aA.sub:∀{a:AV} {v:Value},aA ρ μ a v→aA ρ' μ (a.sub ρ) v
 |_,_,.bool b=>.bool b
 |_,_,.int k s n h=>.int k _ n h
 |_,_,.str n c s h h'=>.str n c s h h'
 |_,_,.ptr b off l a h ha=>.ptr b off l a h ha
 |_,_,.nilp=>.nilp
 |_,_,.slice b off len sz cap l a h hc hl ha=>.slice b off len sz cap l a h hc hl ha
 |_,_,.nils=>.nils
 |_,_,.map b l r h hr=>.map b l r h hr
 |_,_,.nilm=>.nilm
 |_,_,.fn f first cap vs ws h h'=>.fn f _ _ vs ws (ao.sub h) (ao.sub h')
 |_,_,.yld b l r h hr=>.yld b l r h hr
 |_,_,.nilf=>.nilf
 |_,_,.iface t a v h=>.iface t _ v (aA.sub h)
 |_,_,.nili=>.nili
 |_,_,.agg l vs h=>.agg _ vs (ao.sub h)
 |_,_,.tuple l vs h=>.tuple _ vs (ao.sub h)
 |_,_,.sl l len sz fl cap c o a vs h hn hl ha hf hg=>.sl _ len sz fl cap c o a vs (ao.sub h) (by rw[AV.Fz];exact hn) hl ha hf hg
 |_,_,.cref l c o a vs h ha hf=>.cref _ c o a vs (ao.sub h) ha hf
theorem ao.sub:∀{l:List AV} {vs:List Value},ao ρ μ l vs→ao ρ' μ (AV.BW ρ l) vs
 |_,_,.nil=>.nil
 |_,_,.cons a l v vs h h'=>.cons _ _ v vs (aA.sub h) (ao.sub h')
end
mutual
theorem aA.yx:∀(a:AV) {v:Value},aA ρ' μ (a.sub ρ) v→aA ρ μ a v
 |.bool b,_,h=>by cases h;exact .bool b
 |.int k s,_,h=>by cases h with|int _ _ n h=>exact .int k s n h
 |.str n c,_,h=>by cases h with|str _ _ s h h'=>exact .str n c s h h'
 |.ptr b off,_,h=>by cases h with|ptr _ _ l a h ha=>exact .ptr b off l a h ha
 |.nilp,_,h=>by cases h;exact .nilp
 |.slice b off len sz,_,h=>by cases h with|slice _ _ _ _ cap l a h hc hl ha=>exact .slice b off len sz cap l a h hc hl ha
 |.nils,_,h=>by cases h;exact .nils
 |.map b,_,h=>by cases h with|map _ l r h hr=>exact .map b l r h hr
 |.nilm,_,h=>by cases h;exact .nilm
 |.fn f a c,_,h=>by cases h with|fn _ _ _ vs ws h h'=>exact .fn f a c vs ws (ao.yx a h) (ao.yx c h')
 |.yld b,_,h=>by cases h with|yld _ l r h hr=>exact .yld b l r h hr
 |.nilf,_,h=>by cases h;exact .nilf
 |.iface t a,_,h=>by cases h with|iface _ _ v h=>exact .iface t a v (aA.yx a h)
 |.nili,_,h=>by cases h;exact .nili
 |.agg l,_,h=>by cases h with|agg _ vs h=>exact .agg l vs (ao.yx l h)
 |.tuple l,_,h=>by cases h with|tuple _ vs h=>exact .tuple l vs (ao.yx l h)
 |.sl l len sz fl,_,h=>by cases h with|sl _ _ _ _ cap c o a vs h hn hl ha hf hg=>exact .sl l len sz fl cap c o a vs (ao.yx l h) (by rw[AV.Fz]at hn;exact hn) hl ha hf hg
 |.cref l,_,h=>by cases h with|cref _ c o a vs h ha hf=>exact .cref l c o a vs (ao.yx l h) ha hf
theorem ao.yx:∀(l:List AV) {vs:List Value},ao ρ' μ (AV.BW ρ l) vs→ao ρ μ l vs
 | [],_,h=>by cases h;exact .nil
 |a ::l,_,h=>by cases h with|cons _ _ v vs h h'=>exact .cons a l v vs (aA.yx a h) (ao.yx l h')
end
end
noncomputable def FA{α:Type}:List Key→T α→T α
 | [],_=>.nil
 |k ::r,t=>match ae k t with
  |some v=>pw k (some v) (FA r t) fun t=>t
  |none=>FA r t
theorem zf{α:Type}(t:T α):∀(ks:List Key) {b:Key} {v:α},ae b (FA ks t)=some v→ae b t=some v
 | [],b,v,h=>by simp[FA]at h
 |k ::r,b,v,h=>by
  unfold FA at h;cases hk:ae k t with
  |none=>rw[hk]at h;exact zf t r h
  |some x=>
   rw[hk]at h;simp only[sTCe]at h;by_cases e:b=k
   ·subst e;rw[gTSm]at h;rw[hk];exact h
   ·rw[bQ _ _ _ _ e]at h;exact zf t r h
noncomputable def tp(ss ks:List Key):SR→Option AM
 |.next ⟨fr,[],h,nx⟩=>match fr.todo with
  |.inLoop _ ::_=>some ⟨{fr with tm:=FA ss fr.tm},[],FA ks h,nx⟩
  |_=>none
 |_=>none
inductive Fin(C:cX)(f:Nat)(v:AV):AM→Prop
 |done {m:AM} (n:Nat) {H:T ab} {nx:Key} (h:ou C n m=.done f v H nx):Fin C f v m
 |seg {m m':AM} (n:Nat) (ss ks:List Key) (h:tp ss ks (ou C n m)=some m') (h':Fin C f v m'):Fin C f v m
section
variable{P:Program}{ρ:Nat→Int}{C:cX}{w0:W0}{μ0:Mu}{rest:List Frame}
theorem Mn{r:SR}{ss ks:List Key}{m':AM}(h:tp ss ks r=some m'):∃m,r=.next m∧∀{fr:Frame} {cs:List Frame} {w:World},xk P ρ C.orc w0 μ0 m fr cs w→cs=[]∧xk P ρ C.orc w0 μ0 m' fr [] w:=by
 unfold tp at h;split at h
 ·rename_i fr h0 nx;split at h
  ·rename_i c k ht;simp only[bB]at h;subst h;refine⟨_,rfl,?_⟩;intro C9 cs w hm;obtain⟨μ,G,h1,h2,h3,h4,h5,h6⟩:=hm.ex;have ud:cs=[]:=by
    cases cs with
    |nil=>rfl
    |cons x l=>exact h5.elim
   subst ud;refine⟨rfl,⟨μ,G,h1,h2,fun b B hb=>h3 b B (zf _ _ hb),?_,trivial,?_⟩⟩
   ·cases h4 with
    |run nt hb Wr Dl hT=>
     have xl:fr.todo=_:=ht;simp only[ht]at hT;generalize hK:C9.todo=K at hT;generalize hTm:C9.tmps=TM at hT;generalize hL:cv.inLoop c ::k=LL at hT;cases hT with
     |plain _ _ _ _ hr htr=>refine .run nt ⟨hb.fn,hb.Lq,hb.dfs,hb.kind,hb.pz,hb.rd⟩ Wr Dl ?_;rw[hK,hTm];show Jz P ρ C.orc μ G _ _ nt fr.todo _ _ _;rw[ht,hL];exact .plain _ _ _ _ hr ⟨htr.1,fun k a ha=>htr.2 k a (zf _ _ ha)⟩
     |ready=>cases hL
     |back=>cases hL
    |ret nt hb Wr Dl h3 hT=>rcases h3 with h3|⟨_,h3⟩<;>(rw[ht]at h3;cases h3)
    |pan nt hb v u r Wr Dl hv h3 hT=>rw[ht]at h3;cases h3
   ·simp[aU,pk,ht]
  ·cases h
 ·cases h
theorem Fin.sound(X:Ctx P ρ w0 C){f:Nat}{v:AV}{m:AM}(hf:Fin C f v m):∀{fr:Frame} {w:World},xk P ρ C.orc w0 μ0 m fr [] w→
  ∃dG w' μ G u H nx,Steps P (lone fr rest w) (lone dG rest w')∧dG.fn=f∧dG.leaving P w' (.returned u)∧aA ρ μ v u∧μ0.le μ∧aL P ρ w0 μ G (Key.toNat nx) w'∧HSub H G:=by
 induction hf with
 |done n h=>intro fr w hm;have hg:=q8 (rest:=rest) X n hm;rw[h]at hg;obtain⟨dG,w',μ,G,u,s⟩:=hg;exact⟨dG,w',μ,G,u,_,_,s⟩
 |seg n ss ks h h' ih=>intro fr w hm;have hg:=q8 (rest:=rest) X n hm;obtain⟨m1,e,hk⟩:=Mn (P:=P) (ρ:=ρ) (C:=C) (w0:=w0) (μ0:=μ0) h;rw[e]at hg;obtain⟨fr1,cs1,w1,s1,h2⟩:=hg;obtain⟨rfl,Dl⟩:=hk h2;obtain⟨dG,w',μ,G,u,H,nx,s,r⟩:=ih Dl;exact⟨dG,w',μ,G,u,H,nx,s1.trans s,r⟩
theorem ON(X:Ctx P ρ w0 C){f:Nat}{p:dB}{w:World}{G0:Key→Option ab}{H:T ab}{nx:Key}(hp:Ay P f=some p){l:List AV}{args:Array Value}(hM:aL P ρ w0 μ0 G0 nx.toNat w)(hH:HSub H G0)(hl:ao ρ μ0 l args.toList){v:AV}
  (DJ:Fin C f v ⟨eK f p l,[],H,nx⟩):Calls P f args w fun e w'=>∃u μ G nx',e=.returned u∧aA ρ μ v u∧μ0.le μ∧aL P ρ w0 μ G (Key.toNat nx') w':=by
 intro cs;have hm:xk P ρ C.orc w0 μ0 ⟨eK f p l,[],H,nx⟩ (Frame.enter P f args .normal) [] w:=
  ⟨μ0,G0,μ0.le_refl,hM,hH,uc hp hl false,trivial,by simp[aU,pk,eK]⟩
 obtain⟨dG,w',μ,G,u,H2,aP,s1,s2,s3,s4,s5,s6,s7⟩:=DJ.sound (rest:=cs) X hm;exact⟨.returned u,w',dG,⟨u,μ,G,aP,rfl,s4,s5,s6⟩,s1,s2,s3⟩
end
section
variable{P:Program}{ρ ρ':Nat→Int}{aI:T ab}
theorem UM{C:cX}(hX:∀w0:W0,nO P aI w0→Ctx P ρ' w0 C){f:Nat}{p:dB}(hp:Ay P f=some p){l:List AV}(hl:AV.OO l=true){v:AV}(hv:v.kf=true){Kf:Key}(hn:P.globals.size≤Kf.toNat)
  (cR:Fin C f v ⟨eK f p l,[],aI,Kf⟩):∀w0:W0,nO P aI w0→∀H nx,Km P ρ w0 f (AV.BW ρ' l) H nx (v.sub ρ') H nx:=by
 intro w0 hL H nx args w μ G hM hH dJ;have hL1:nO P aI ⟨w,μ.fz⟩:=hL.ady hM.below hM.Tj;have Uf:=HL (ρ:=ρ') (w0:=⟨w,μ.fz⟩) hL1 hM.LQ (nx:=Kf.toNat) hn;have ha1:ao ρ' (UN P aI μ.fz) l args.toList:=ao.kf (μ:=μ) (μ':=UN P aI μ.fz) (fun _ _ _ h=>h) (ao.yx l dJ) hl;refine(ON (hX _ hL1) hp Uf (fun _ _ h=>h) ha1 cR).mono ?_;rintro e w' ⟨u,μ1,G1,aP,rfl,XV,hle,Xi⟩;have hb:Below w.heap.size w w':=Xi.below;have PC:∀c i x,μ1.fz c i=some x→w.heap.size≤c∨μ.fz c i=some x:=Xi.Tk;have Kn:μ.le ⟨μ.loc,μ1.fz⟩:=⟨fun _ _ h=>h,fun c i x h=>hle.f c i x h⟩;refine⟨u,⟨μ.loc,μ1.fz⟩,G,rfl,aA.sub (aA.kf (μ:=μ1) (μ':=⟨μ.loc,μ1.fz⟩) (fun _ _ _ h=>h) XV hv),Kn,?_,hH,⟨fun _ _ _=>rfl,fun _ _=>rfl,fun _ h _=>h,cI _⟩⟩;have Xj:∀b l,μ b=some l→w'.heap[l.c]?=w.heap[l.c]?:=fun b l h=>hb.block _ (hM.Dc b l h);refine⟨?_,hM.sep,?_,hM.own,hM.GH,hM.new,hM.below.trans (hb.mono hM.below.size),Xi.LQ,?_,?_,?_,?_,Nat.le_trans hM.dr Xi.dr⟩
 ·intro b B hg;obtain⟨l,o,h1,h2,h3⟩:=hM.DI b B hg;exact⟨l,o,h1,by rw[Xj b l h1];exact h2,h3.mono Kn⟩
 ·intro b l h;exact GD (hM.Dc b l h) hb.size
 ·intro b B l n hg hm sf i hi;show μ1.fz l.c i=none;cases h:μ1.fz l.c i with
  |none=>rfl
  |some x=>
   rcases PC _ _ _ h with h'|h'
   ·exact absurd (hM.Dc b l hm) (Nat.not_lt.2 h')
   ·rw[hM.Qv b B l n hg hm sf i hi]at h';cases h'
 ·intro c i x h;exact hle.f c i x (hM.Tj c i x h)
 ·intro c i x h;rcases PC c i x h with h'|h'
  ·exact .inl (Nat.le_trans hM.below.size h')
  ·exact hM.Tk c i x h'
 ·intro b L l hg hm;rcases hM.Tl b L l hg hm with h|h
  ·exact .inl h
  ·refine .inr fun arr e f i x ha hx=>hle.f _ _ _ (h arr e f i x ?_ hx);rw[←Xj b l hm];exact ha
inductive DT where
 |leaf (v:AV)
 |ask (op:BinOp) (a b:SI) (t e:DT)
def holds(ρ:Nat→Int)(op:BinOp)(a b:SI):Bool:=match kH op (a.den ρ) (b.den ρ)with
 |some r=>r
 |none=>false
def DT.val(ρ:Nat→Int):DT→AV
 |.leaf v=>v.sub ρ
 |.ask op a b t e=>match holds ρ op a b with
  |true=>t.val ρ
  |false=>e.val ρ
mutual
theorem FB{ρ:Nat→Int}:∀(a:AV),AV.lits a=true→a.sub ρ=a
 |.bool _,_=>rfl
 |.int _ (.lit _),_=>rfl
 |.int _ (.var _),h=>by simp[AV.lits]at h
 |.int _ (.bin _ _ _ _),h=>by simp[AV.lits]at h
 |.str _ _,_=>rfl
 |.ptr _ _,_=>rfl
 |.nilp,_=>rfl
 |.slice _ _ _ _,_=>rfl
 |.nils,_=>rfl
 |.map _,_=>rfl
 |.nilm,_=>rfl
 |.fn f a c,h=>by simp only[AV.lits,fa]at h;simp only[AV.sub,kZ a h.1,kZ c h.2]
 |.yld _,_=>rfl
 |.nilf,_=>rfl
 |.iface t v,h=>by simp only[AV.lits]at h;simp only[AV.sub,FB v h]
 |.nili,_=>rfl
 |.agg l,h=>by simp only[AV.lits]at h;simp only[AV.sub,kZ l h]
 |.tuple l,h=>by simp only[AV.lits]at h;simp only[AV.sub,kZ l h]
 |.sl l _ _ _,h=>by simp only[AV.lits]at h;simp only[AV.sub,kZ l h]
 |.cref l,h=>by simp only[AV.lits]at h;simp only[AV.sub,kZ l h]
theorem kZ{ρ:Nat→Int}:∀(l:List AV),AV.ey l=true→AV.BW ρ l=l
 | [],_=>rfl
 |a ::l,h=>by simp only[AV.ey,fa]at h;simp only[AV.BW,FB a h.1,kZ l h.2]
end
def Pt(P:Program)(aI:T ab)(f:Nat)(l:List AV)(v:AV):Prop:=∀(ρ:Nat→Int) (w0:W0),nO P aI w0→∀H nx,Km P ρ w0 f l H nx v H nx
abbrev Es:=List (List AV×AV)
def aC(P:Program)(aI:T ab)(f:Nat):Es→Prop
 | []=>True
 |(m,v) ::r=>Pt P aI f m v∧aC P aI f r
def aiL:List AV→Key
 | [_,.int _ (.lit (.ofNat n))]=>Key.dL 12 n
 | [.int _ (.lit (.ofNat n))]=>Key.dL 12 n
 | [_,.str _ c]=>Key.dL 12 (Nat.mod c 251)
 |_=>.z
def lf:T Es→Es
 |.nil=>[]
 |.node v l r=>(match v with|some e=>e|none=>[])++(lf l++lf r)
def one(es:Es):T Es:=.node (some es) .nil .nil
def xi(P:Program)(aI:T ab)(f:Nat)(t:T Es):Prop:=∀k es,ae k t=some es→aC P aI f es
def nE(P:Program)(aI:T ab):List (Nat×T Es)→Prop
 | []=>True
 |(f,t) ::r=>((∃p,Ay P f=some p)∧xi P aI f t)∧nE P aI r
def Nt:Es→List AV→Option AV
 | [],_=>none
 |(m,v) ::r,l=>bif AV.AJ l m then some v else Nt r l
noncomputable def UO:List (Nat×T Es)→Nat→List AV→T ab→Key→Option (AV×T ab×Key)
 | [],_,_,_,_=>none
 |(g,t) ::r,f,l,h,nx=>bif Nat.beq f g then(match ae (aiL l) t with
  |some es=>match Nt es l with
   |some v=>some (v,h,nx)
   |none=>none
  |none=>none)else UO r f l h nx
theorem aC.left{f:Nat}:∀{a b:Es},aC P aI f (a++b)→aC P aI f a
 | [],_,_=>trivial
 |(_,_) ::_,_,h=>⟨h.1,aC.left h.2⟩
theorem aC.right{f:Nat}:∀{a b:Es},aC P aI f (a++b)→aC P aI f b
 | [],_,h=>h
 |(_,_) ::_,_,h=>aC.right h.2
theorem xi.of{f:Nat}:∀{t:T Es},aC P aI f (lf t)→xi P aI f t
 |.nil,_=>fun k es h=>by cases k<;>cases h
 |.node v l r,h=>fun k es e=>by
  unfold lf at h;cases k with
  |z=>have e:v=some es:=e;subst e;exact aC.left h
  |o k=>exact xi.of (aC.left (aC.right h)) k es e
  |e k=>exact xi.of (aC.right (aC.right h)) k es e
theorem xi.eq{f:Nat}{t:T Es}{es:Es}(h:aC P aI f es)(e:lf t=es):xi P aI f t:=.of (by rw[e];exact h)
theorem xi.one{f:Nat}{es:Es}(h:aC P aI f es):xi P aI f (one es):=.of (by show aC P aI f (es++([] ++ []));rw[List.append_nil,List.append_nil];exact h)
theorem aC.app{f:Nat}:∀{a b:Es},aC P aI f a→aC P aI f b→aC P aI f (a++b)
 | [],_,_,h=>h
 |(_,_) ::_,_,h,k=>⟨h.1,h.2.app k⟩
theorem Ko{f:Nat}:∀{es:Es},aC P aI f es→∀{l:List AV} {v:AV},Nt es l=some v→Pt P aI f l v
 | [],_,_,_,e=>by cases e
 |(m,u) ::r,h,l,v,e=>by
  unfold Nt at e;cases hb:AV.AJ l m with
  |true=>rw[hb]at e;simp only[cond_true,bB]at e;rw[AV.fV _ _ hb,←e];exact h.1
  |false=>rw[hb]at e;exact Ko h.2 e
theorem IP:∀{tab:List (Nat×T Es)},nE P aI tab→∀{f:Nat} {l:List AV} {h:T ab} {nx:Key} {r:AV×T ab×Key},UO tab f l h nx=some r→(∃p,Ay P f=some p)∧∃v,Pt P aI f l v∧r=(v,h,nx)
 | [],_,_,_,_,_,_,e=>by cases e
 |(g,es) ::t,ht,f,l,h,nx,r,e=>by
  unfold UO at e;cases hb:Nat.beq f g with
  |true=>
   rw[hb]at e;have hb:=mo hb;subst hb;simp only[cond_true]at e;split at e
   ·rename_i JK h2;split at e
    ·rename_i v hv;simp only[bB]at e;exact⟨ht.1.1,v,Ko (ht.1.2 _ _ h2) hv,e.symm⟩
    ·cases e
   ·cases e
  |false=>rw[hb]at e;exact IP ht.2 e
noncomputable def adz(fns:T dB)(raw lL:Nat→Bool)(tab:List (Nat×T Es))(o:dP):cX:=⟨o,fns,UO tab,raw,lL⟩
theorem aiM{fns:T dB}{Kp:List (Nat×dB)}(hb:fns=yz Kp)(ha:BX P Kp)(ZR:P.follows .mixedOrders=true){tab:List (Nat×T Es)}(ht:nE P aI tab)(raw lL:Nat→Bool){o:dP}(ho:cD ρ o)(w0:W0)(hL:nO P aI w0):Ctx P ρ w0 (adz fns raw lL tab o):=by
 refine⟨?_,?_,ho,fun f p h=>Kq hb ha (tab:=[]) h,ZR⟩
 ·intro f l H nx a H' nx' hs;obtain⟨_,v,h1,h2⟩:=IP ht hs;cases h2;exact h1 ρ w0 hL H nx
 ·intro f l H nx r hs;obtain⟨⟨p,hp⟩,_⟩:=IP ht hs;obtain⟨fn,c,f1,f2,f3,_⟩:=ua hp;exact⟨fn,f1,by rw[f2];rfl,f3⟩
theorem Nu{C:cX}(hX:∀(ρ:Nat→Int) (w0:W0),nO P aI w0→Ctx P ρ w0 C){f:Nat}{p:dB}(hp:Ay P f=some p){l:List AV}{v:AV}(hl:(AV.ey l&&AV.OO l&&AV.lits v&&v.kf)=true){Kf:Key}(hn:P.globals.size≤Kf.toNat)
  (hf:Fin C f v ⟨eK f p l,[],aI,Kf⟩):Pt P aI f l v:=by
 intro ρ w0 hL H nx;simp only[fa]at hl;have:=UM (ρ:=ρ) (ρ':=ρ) (hX ρ) hp hl.1.1.2 hl.2 hn hf w0 hL H nx;rw[kZ l hl.1.1.1,FB v hl.1.2]at this;exact this
def OA(f:Nat)(v:AV):SR→Bool
 |.done g u _ _=>Nat.beq g f&&AV.beq u v
 |_=>false
theorem tS{f:Nat}{v:AV}{C:cX}{n:Nat}{m:AM}(h:OA f v (ou C n m)=true):Fin C f v m:=by
 cases hr:ou C n m with
 |done g u H nx=>rw[hr]at h;simp only[OA,fa]at h;have h1:=mo h.1;have h2:=AV.eq_of_beq _ _ h.2;subst h1 h2;exact .done n hr
 |next m=>rw[hr]at h;cases h
 |alt l=>rw[hr]at h;cases h
 |pan v h' nx=>rw[hr]at h;cases h
 |bad n m=>rw[hr]at h;cases h
noncomputable def UP(C:cX)(n f:Nat)(p:dB)(aI:T ab)(Kf:Key):Es→Bool
 | []=>true
 |(m,v) ::r=>AV.ey m&&AV.OO m&&AV.lits v&&v.kf&&OA f v (ou C n ⟨eK f p m,[],aI,Kf⟩)&&UP C n f p aI Kf r
theorem Nv{C:cX}(hX:∀(ρ:Nat→Int) (w0:W0),nO P aI w0→Ctx P ρ w0 C){f:Nat}{p:dB}(hp:Ay P f=some p){n:Nat}{Kf:Key}(hn:P.globals.size≤Kf.toNat):∀{es:Es},UP C n f p aI Kf es=true→aC P aI f es
 | [],_=>trivial
 |(m,v) ::r,h=>by unfold UP at h;rw[fa,fa]at h;exact⟨Nu hX hp h.1.1 hn (tS h.1.2),Nv hX hp hn h.2⟩
end
end Go.Sx
