/- A part of the proof. No condition. -/
import Derived.Test.YtecbfpngkfdkoaaGreatP4
import Derived.Recover
set_option linter.unusedSimpArgs false
set_option linter.unusedVariables false
set_option linter.unusedSectionVars false
namespace Go.Sx
open Go.RowKit
section
variable{P:Program}{fr c:Frame}{cs:List Frame}{w w':World}{k:List Item}{fn:Func}
theorem OF{v:Value}(hm:fr.mode=.returning)(hd:fr.defers=[])(hk:fr.kind=.normal)(hf:P.funcs[fr.fn]?=some fn)(hr:(results fn fr.tmps).run P w=.ok v w) :
  step P (lone fr (c ::cs) w)=.next (lone (c.finish v) cs w):=
 CR (by simp[hm]) (by simp[unwind,hd,hm,hf,hr,doReturn,hk,G1])
theorem AQ{v:Value}(hm:fr.mode=.returning)(hd:fr.defers=[])(hk:fr.kind=.deferred)(hf:P.funcs[fr.fn]?=some fn)(hr:(results fn fr.tmps).run P w=.ok v w) :
  step P (lone fr (c ::cs) w)=.next (lone {c with mode:=settle c.mode} cs w):=
 step_going_returned (fr:=fr) hk ⟨hm,hd,fn,hf,hr⟩
theorem J7{chain:List PanicEntry}(hm:fr.mode=.panicking chain)(hd:fr.defers=[])(hf:P.funcs[fr.fn]?=some fn) :
  step P (lone fr (c ::cs) w)=.next (lone (c.raise chain) cs w):=
 CR (by simp[hm]) (by simp[unwind,hd,hm,Frame.catches,hf,G1])
theorem J6{d:Deferred}{ds:List Deferred}{fv:Fn}{cap args:Array Value}{f:FuncId}(hm:fr.mode≠.run)(hd:fr.defers=d ::ds)(ht:d.target=.fn fv cap)
  (hi:(invoke d.target d.args).run P w=.ok (.enter f args) w):step P (lone fr cs w)=.next (lone (Frame.enter P f args .deferred) ({fr with defers:=ds} ::cs) w):=
 step_defer hm hd ht hi
theorem IE{b:Nat}{ds ds':List Deferred}(hm:fr.mode≠.run)(hd:fr.defers=⟨.collected b,#[]⟩ ::ds)(h:(Instr.takeDeferred b).run P w=.ok ds' w') :
  step P (lone fr cs w)=.next (lone {fr with defers:=ds'++ds} cs w'):=
 CR hm (by simp[unwind,hd,h,G1])
theorem FL{l:Nat}{v:Value}(hm:fr.mode=.run)(ht:fr.todo=[])(hr:fr.roundOf=some l)(hk:fr.kind=.normal)(h:(Instr.endRound l none).run P w=.ok v w') :
  step P (lone fr (c ::cs) w)=.next (lone (c.finish v) cs w'):=
 ct hm (by simp[stepG.exec,ht,hr,h,doReturn,hk,G1])
theorem I2{l:Nat}{v:Value}(hm:fr.mode=.run)(ht:fr.todo=.code .ret ::k)(hr:fr.roundOf=some l)(hk:fr.kind=.normal)(h:(Instr.endRound l (some .ret)).run P w=.ok v w') :
  step P (lone fr (c ::cs) w)=.next (lone (c.finish v) cs w'):=
 ct hm (by simp[stepG.exec,ht,hr,h,doReturn,hk,G1])
theorem GY{l id:Nat}{v:Value}(hm:fr.mode=.run)(ht:fr.todo=.code (.exit id) ::k)(he:exitTo id k=none)(hr:fr.roundOf=some l)(hk:fr.kind=.normal)(h:(Instr.endRound l (some (.exit id))).run P w=.ok v w') :
  step P (lone fr (c ::cs) w)=.next (lone (c.finish v) cs w'):=
 ct hm (by simp[stepG.exec,ht,he,hr,h,doReturn,hk,G1])
theorem GL{l:Nat}(hm:fr.mode=.run)(ht:fr.todo=.beginRound ::k)(hr:fr.roundOf=some l)(h:(Instr.beginRound l).run P w=.ok () w') :
  step P (lone fr cs w)=.next (lone {fr with todo:=k} cs w'):=
 ct hm (by simp[stepG.exec,ht,hr,stepG.apply,h,G1,Frame.finish])
theorem QU{l:Nat}{j:Option Code}(hm:fr.mode=.run)(ht:fr.todo=.endRangeFunc l ::k)(h:(Instr.endLoop l).run P w=.ok j w') :
  step P (lone fr cs w)=.next (lone {fr with todo:=(j.map Item.code).toList++k} cs w'):=
 ct hm (by simp[stepG.exec,ht,h,G1])
theorem Vh (ev : Operand → Value) {f : Operand} {g : FuncId} {first cap : Array Value} (hev : ev f = .func (.func g) first cap) {y : Value} (hy : ev (.const y) = y) {Wo : Func} (hf : P.funcs[g]? = some Wo) (hb : Wo.body.isSome = true) (hn : Wo.name ≠ "runtime.NumGoroutine") :
  (do let d ←resolve ev {callee:=.value f,args:=#[.const y],argTypes:=#[]} 0;invoke d.target d.args:Sem Next).run P w=.ok (.enter g (first ++ #[y]++cap)) w:=by
 simp[resolve,hev,Deferred.ofValue,invoke,hy,qv hf hb hn]
theorem I3{f:Operand}{params:Array Tmp}{as bd:Code}{l:Nat}{mk:List Deferred}{w1:World}{g:FuncId}{first cap:Array Value}{Wo:Func}(hm:fr.mode=.run)(ht:fr.todo=.code (.rangeFunc f params as bd) ::k)(hr:fr.roundOf=none)
  (h:(Instr.enterLoop fr.fn fr.tmps params as bd none).run P w=.ok (l,mk) w1) (hev:fr.eval f=.func (.func g) first cap)
  (hf : P.funcs[g]? = some Wo) (hb : Wo.body.isSome = true) (hn : Wo.name ≠ "runtime.NumGoroutine") :
  step P (lone fr cs w)=.next (lone (Frame.enter P g (first ++ #[.func (.yield l) #[] #[]]++cap) .normal) ({fr with todo:=.inRangeFunc l ::k,defers:=mk++fr.defers} ::cs) w1):=by
 obtain⟨fn0,Xu,amb,NT,amc,Xv,ajj⟩:=fr;simp only at hm ht hr h hev;subst hm ht hr;refine ct rfl ?_;have ajk:({fn:=fn0,tmps:=Xu,todo:=Item.inRangeFunc l ::k,defers:=mk++NT,mode:=.run,kind:=Xv}:Frame).eval f=.func (.func g) first cap:=by rw[←hev];cases f<;>rfl
 have Gw:=Vh (w:=w1) ({fn:=fn0,tmps:=Xu,todo:=Item.inRangeFunc l ::k,defers:=mk++NT,mode:=.run,kind:=Xv}:Frame).eval ajk (y:=.func (.yield l) #[] #[]) rfl hf hb hn;simp only[stepG.exec,Sem.runT_eq,h,GStep.bare_after];simp only[stepG.apply,Sem.runT_eq,Gw,GStep.bare_after];simp[G1]
end
structure Hl(P:Program)(nt:Nat)(ops:Array Oper)(pl:List aq)(bf:List Nat):Prop where
 nH:jw P nt ops (List.range ops.size)=some pl
 VV:Em ops bf=true
 abO:H7 ops bf=true
section
variable{P:Program}{ρ:Nat→Int}{nt:Nat}{ops:Array Oper}{pl:List aq}{bf:List Nat}
theorem AF:∀{l:List Nat} {pl:List aq},jw P nt ops l=some pl→pl.length=l.length∧∀(q i:Nat),l[q]?=some i→∃o po,ops[i]?=some o∧C8 P nt ops o=some po∧pl[q]?=some po
 | [],pl,h=>by simp only[jw,bB]at h;subst h;exact⟨rfl,fun q i hq=>by simp at hq⟩
 |j ::l,pl,h=>by
  simp only[jw]at h;split at h
  ·cases h
  ·rename_i o ho;split at h
   ·rename_i a r h1 h2;cases h;obtain⟨e1,e2⟩:=AF h2;refine⟨by simp[e1],fun q i hq=>?_⟩;cases q with
    |zero=>simp at hq;subst hq;exact⟨o,a,ho,h1,by simp⟩
    |succ q=>simpa using e2 q i (by simpa using hq)
   ·cases h
theorem Hl.at(R:Hl P nt ops pl bf){i:Nat}(hi:i<ops.size):∃o po,ops[i]?=some o∧C8 P nt ops o=some po∧pl[i]?=some po:=by obtain⟨_,h⟩:=AF R.nH;exact h i i (by simp[hi])
theorem Hl.P1(R:Hl P nt ops pl bf){i:Nat}{po:aq}(h:pl[i]?=some po):i<ops.size:=by
 obtain⟨h1,_⟩:=AF R.nH;rcases zE i ops.size with h'|h'
 ·exact h'
 ·rw[JE (by rw[h1];simpa using h')]at h;cases h
theorem Hl.abP(R:Hl P nt ops pl bf){i:Nat}{o:Oper}(ho:ops[i]?=some o){e:Edge}(he:e∈o.after.toList)(hb:Region.binds .any e=true):e.on<i∧hasB (dF bf i) e.on=true:=by
 have hi:i<ops.size:=by
  rcases zE i ops.size with h'|h'
  ·exact h'
  ·rw[Jn h']at ho;cases ho
 have h:=R.VV;unfold Em at h;rw[Gj]at h;have h:=h i (by simpa using hi);rw[ho]at h;simp only[fa,Gj]at h;have h:=h.1 e he;simp only[hb,Bool.not_true,Bool.false_or,fa,bltN_eq,decide_eq_true_eq]at h;exact h
theorem Hl.down(R:Hl P nt ops pl bf):Cm ops:=fun _ _ ho _ he hb=>(R.abP ho he hb).1
theorem Hl.pred(R:Hl P nt ops pl bf){i:Nat}{o:Oper}(ho:ops[i]?=some o){j:Nat}(hj:j<ops.size)(hb:hasB (dF bf i) j=true) :
  ∃e∈o.after.toList,Region.binds .any e=true∧(e.on=j∨hasB (dF bf e.on) j=true):=by
 have hi:i<ops.size:=by
  rcases zE i ops.size with h'|h'
  ·exact h'
  ·rw[Jn h']at ho;cases ho
 have h:=R.VV;unfold Em at h;rw[Gj]at h;have h:=h i (by simpa using hi);rw[ho]at h;simp only[fa,Gj]at h;have h:=h.2 j (by simpa using hj);simp only[hb,Bool.not_true,Bool.false_or,List.any_eq_true,fa,Bool.or_eq_true,beqN_eq,decide_eq_true_eq]at h;exact h
def P2(ops:Array Oper)(D:Nat→Bool):Prop:=∀(i:Nat) (o:Oper),D i=true→ops[i]?=some o→∀e∈o.after.toList,Region.binds .any e=true→D e.on=true
theorem Hl.closed(R:Hl P nt ops pl bf){D:Nat→Bool}(hD:P2 ops D):∀(i:Nat) (o:Oper),ops[i]?=some o→(∀e∈o.after.toList,Region.binds .any e=true→D e.on=true)→∀j,j<ops.size→hasB (dF bf i) j=true→D j=true:=by
 intro i
 induction i using Nat.strongRecOn with
 |_ i ih=>
  intro o ho hp j hj hb;obtain⟨e,he,heb,Oi⟩:=R.pred ho hj hb;have bF:=(R.abP ho he heb).1;have hi:i<ops.size:=by
   rcases zE i ops.size with h'|h'
   ·exact h'
   ·rw[Jn h']at ho;cases ho
  rcases Oi with h|h
  ·rw[←h];exact hp e he heb
  ·have JF:ops[e.on]?=some ops[e.on]:=by
    have:e.on<ops.size:=by omega
    simp[this]
   exact ih e.on bF _ JF (fun e' he' eA=>hD e.on _ (hp e he heb) JF e' he' eA) j hj h
theorem Hl.slot(R:Hl P nt ops pl bf){i j t:Nat}{o:Oper}(ho:ops[i]?=some o)(hj:jx ops j=some t) :
  (i=j→t∉iq ops o)∧(i≠j→o.dst≠some t∧(t∈iq ops o→hasB (dF bf i) j=true∨hasB (dF bf j) i=true)):=by
 have hi:i<ops.size:=by
  rcases zE i ops.size with h'|h'
  ·exact h'
  ·rw[Jn h']at ho;cases ho
 have eo:j<ops.size:=by
  rcases zE j ops.size with h'|h'
  ·exact h'
  ·simp[jx,Jn h']at hj
 have h:=R.abO;unfold H7 at h;rw[Gj]at h;have h:=h i (by simpa using hi);rw[ho]at h;simp only[Gj]at h;have h:=h j (by simpa using eo);rw[hj]at h;simp only[beqN_eq]at h;constructor
 ·rintro rfl;simpa using h
 ·intro cL;simp only[cL,decide_false,cond_false,fa,Bool.not_eq_true',Bool.or_eq_true]at h;refine⟨by simpa using h.1,fun hm=>?_⟩;have h2:=h.2;have hc:(iq ops o).contains t=true:=by simpa using hm
  rw[hc]at h2;simpa using h2
theorem LP{j t:Nat}(hj:jx ops j=some t):∃o,ops[j]?=some o∧o.dst=some t:=by
 unfold jx at hj;cases h:ops[j]? with
 |none=>rw[h]at hj;cases hj
 |some o=>rw[h]at hj;exact⟨o,rfl,by simpa using hj⟩
theorem Hl.Eo(R:Hl P nt ops pl bf){i j t:Nat}(hi:jx ops i=some t)(hj:jx ops j=some t):i=j:=by
 rcases Nat.decEq i j with cL|h
 ·obtain⟨o,ho,hd⟩:=LP hi;exact absurd hd ((R.slot ho hj).2 cL).1
 ·exact h
end
theorem BB(m i j:Nat):hasB (Bq m i) j=(hasB m j||decide (i=j)):=by unfold hasB Bq;rw[Nat.testBit_or,Nat.testBit_two_pow]
theorem yX(j:Nat):hasB 0 j=false:=by simp[hasB]
theorem yY{n a b:Nat}:LC n a b=true↔∀j,j<n→hasB a j=true→hasB b j=true:=by
 unfold LC;rw[Gj];constructor
 ·intro h j hj ha;have:=h j (by simpa using hj);simpa[ha]using this
 ·intro h j hj;have hj:j<n:=by simpa using hj
  cases ha:hasB a j with
  |false=>rfl
  |true=>simpa using h j hj ha
theorem kK{nt i:Nat}{k:Key}(h:zD nt i=some k):k.toNat=i∧i<nt:=by unfold zD at h;replace h:=aB h;obtain⟨hc,h⟩:=h;simp only[bB]at h;subst h;simp only[fa,bltN_eq,decide_eq_true_eq]at hc;exact⟨mo hc.2,hc.1⟩
theorem fb{P:Program}{nt:Nat}{ops:Array Oper}{o:Oper}{po:aq}(h:C8 P nt ops o=some po) :
  eZ P nt o=some po.op∧EF nt ops o.guard=some po.guard∧((o.dst=none∧po.dst=none)∨∃k,o.dst=some k.toNat∧po.dst=some k∧k.toNat<nt):=by
 unfold C8 at h;split at h
 ·rename_i op g h1 h2;split at h
  ·rename_i hd;cases h;exact⟨h1,h2,.inl ⟨hd,rfl⟩⟩
  ·rename_i d hd;split at h
   ·rename_i k hk;cases h;obtain⟨e,bF⟩:=kK hk;exact⟨h1,h2,.inr ⟨k,by rw[e];exact hd,rfl,by omega⟩⟩
   ·cases h
 ·cases h
noncomputable def bP(p:List (Nat×Key×ab))(h:T ab):T ab:=p.foldl (fun h x=>ar x.2.1 (some x.2.2) h) h
theorem yO{R:Type}:∀(p:List (Nat×Key×ab)) (h:T ab) (c:T ab→R),yc p h c=c (bP p h)
 | [],h,c=>rfl
 |x ::p,h,c=>by show pw x.2.1 (some x.2.2) h (fun h=>yc p h c)=_;rw[sTCe,yO p];rfl
theorem ra{R:Type}(l:List Nat):∀(p:List (Nat×Key×ab)) (h:T ab) (c:List (Nat×Key×ab)→T ab→R),xJ l p h c=c (p.filter fun x=>!(memN x.1 l)) (bP (p.filter fun x=>memN x.1 l) h)
 | [],h,c=>rfl
 |x ::p,h,c=>by
  show(bif memN x.1 l then pw x.2.1 (some x.2.2) h (fun h=>xJ l p h c)else xJ l p h fun p h=>c (x ::p) h)=_;cases hm:memN x.1 l with
  |true=>simp only[cond_true,sTCe,ra l p,List.filter_cons,hm,Bool.not_true,Gy,if_false,if_true];rfl
  |false=>simp only[cond_false,ra l p,List.filter_cons,hm,Bool.not_false,Gy,if_false,if_true]
theorem B8{i:Nat}:∀{l:List Nat},memN i l=true→i∈l
 | [],h=>by cases h
 |j ::l,h=>by
  simp only[memN]at h;cases hb:Nat.beq i j with
  |true=>have:=mo hb;simp[this]
  |false=>rw[hb]at h;exact List.mem_cons_of_mem _ (B8 h)
theorem Gb:∀{p:List (Nat×Key×ab)} {h:T ab} {b:Key} {B:ab},ae b (bP p h)=some B→ae b h=some B∨∃x∈p,x.2.1=b∧x.2.2=B
 | [],_,_,_,e=>.inl e
 |x ::p,h,b,B,e=>by
  rcases Gb (p:=p) e with h1|⟨y,h1,h2⟩
  ·by_cases hb:b=x.2.1
   ·subst hb;rw[gTSm]at h1;cases h1;exact .inr ⟨x,by simp,rfl,rfl⟩
   ·rw[bQ _ _ _ _ hb]at h1;exact .inl h1
  ·exact .inr ⟨y,List.mem_cons_of_mem _ h1,h2⟩
theorem Pq{l:List Nat}{ak:List (Nat×Key×ab)}{h:T ab}{b:Key}{B:ab}(e:ae b (qL l ak h)=some B):ae b h=some B∨∃j,(j,b,B)∈ak∧j∈l:=by
 unfold qL at e;split at e
 ·exact .inl e
 ·rw[ra]at e;rcases Gb e with h1|⟨⟨j,k,B'⟩,h1,h2,h3⟩
  ·exact .inl h1
  ·obtain⟨h4,h5⟩:=List.mem_filter.1 h1;simp only at h2 h3;subst h2 h3;exact .inr ⟨j,h4,B8 h5⟩
theorem Lg{bf:List Nat}:∀{fQ:List (Nat×List Nat)},tT bf fQ=true→∀i j,j∈xm i fQ→hasB (dF bf i) j=true
 | [],_,i,j,h=>by cases h
 |(q,l) ::r,ha,i,j,h=>by
  simp only[tT,fa,Gj]at ha;simp only[xm]at h;cases hb:Nat.beq i q with
  |true=>rw[hb]at h;have:=mo hb;subst this;exact ha.1 j h
  |false=>rw[hb]at h;exact Lg ha.2 i j h
def VC(bf:List Nat)(H:T ab)(ak:List (Nat×Key×ab))(i:Nat)(V:T ab):Prop:=∀b B,ae b V=some B→ae b H=some B∨∃j,(j,b,B)∈ak∧hasB (dF bf i) j=true
theorem VC.refl(bf:List Nat)(H:T ab)(ak:List (Nat×Key×ab))(i:Nat):VC bf H ak i H:=fun _ _ h=>.inl h
theorem VC.view{bf:List Nat}{fQ:List (Nat×List Nat)}(ha:tT bf fQ=true)(H:T ab)(ak:List (Nat×Key×ab))(i:Nat):VC bf H ak i (qL (xm i fQ) ak H):=by
 intro b B e;rcases Pq e with h|⟨j,h1,h2⟩
 ·exact .inl h
 ·exact .inr ⟨j,h1,Lg ha i j h2⟩
structure Gh where
 L:Nat
 D:Nat→Bool
 a0:Key→Option AV
 val:Nat→Option AV
section
variable(P:Program)(ρ:Nat→Int)(orc:dP)(nt:Nat)(ops:Array Oper)(pl:List aq)(bf:List Nat)
def Jf(g:Gh)(i:Nat)(k:Key)(a:AV):Prop:=
 (∃j,jx ops j=some k.toNat∧hasB (dF bf i) j=true∧g.val j=some a)∨((∀j,jx ops j=some k.toNat→hasB (dF bf j) i=true)∧g.a0 k=some a)
def Kk(g:Gh)(i:Nat)(jb:T AV):Prop:=∀o,ops[i]?=some o→∀(k:Key) a,k.toNat∈iq ops o→ae k jb=some a→Jf ops bf g i k a
inductive q9(H:T ab)(g:Gh)(ak:List (Nat×Key×ab))(wP:Nat→Prop)(i:Nat):Prop
 |skip (po:aq) (jb:T AV) (h1:pl[i]?=some po) (h2:Kk ops bf g i jb) (h3:bJ po.guard jb=some false) (h4:g.val i=some (.tuple [])) (h5:∀x∈ak,x.1≠i):q9 H g ak wP i
 |light (po:aq) (jb:T AV) (v:AV) (h1:pl[i]?=some po) (h2:Kk ops bf g i jb) (h3:bJ po.guard jb=some true) (hk:mJ pl i=0) (h4:¬wP i→∃V,lightOp orc po.op jb V=some v∧VC bf H ak i V) (h5:g.val i=some v)
   (h6:∀x∈ak,x.1≠i):q9 H g ak wP i
 |alloc (po:aq) (jb:T AV) (f:Key→AV) (B:ab) (k:Key) (h1:pl[i]?=some po) (h2:Kk ops bf g i jb) (h3:bJ po.guard jb=some true) (hk:mJ pl i=1) (h4:allocOp po.op jb=some (f,B))
   (h5:g.val i=some (f k)) (h6:(i,k,B)∈ak):q9 H g ak wP i
structure dS(μ:Mu)(G:Key→Option ab)(H:T ab)(nx:Key)(g:Gh)(wP:Nat→Prop)(ak:List (Nat×Key×ab))(tm:T AV)(tmps:Array Value)(rest:List Nat):Prop where
 EA:Hl P nt ops pl bf
 ord:Ee ops g.D rest
 cl:P2 ops g.D
 sub:∀i,g.D i=true→hasB g.L i=true
 AT:∀i,hasB g.L i=true→i<ops.size
 QY:∀i,hasB g.L i=true→∀j,j<ops.size→hasB (dF bf i) j=true→hasB g.L j=true
 a1:∀(k:Key) j,hasB g.L j=true→jx ops j=some k.toNat→ae k tm=g.val j
 a2:∀(k:Key),(∀j,hasB g.L j=true→jx ops j≠some k.toNat)→ae k tm=g.a0 k
 sz:nt≤tmps.size
 c1:∀(k:Key) j a,g.D j=true→jx ops j=some k.toNat→g.val j=some a→∃v,tmps[k.toNat]?=some v∧aA ρ μ a v
 c2:∀(k:Key) a,(∀j,g.D j=true→jx ops j≠some k.toNat)→g.a0 k=some a→∃v,tmps[k.toNat]?=some v∧aA ρ μ a v
 pd:∀i,hasB g.L i=true→g.D i=false→q9 orc ops pl bf H g ak wP i
 pe:∀x∈ak,hasB g.L x.1=true∧(g.D x.1=true→G x.2.1=some x.2.2)∧(g.D x.1=false→μ x.2.1=none∧G x.2.1=none)∧ae x.2.1 H=none∧x.2.1.toNat<nx.toNat
 nk:(ak.map (·.2.1.toNat)).Nodup
 ni:(ak.map (·.1)).Nodup
end
section
variable{P:Program}{ρ:Nat→Int}{orc:dP}{nt:Nat}{ops:Array Oper}{pl:List aq}{bf:List Nat}{w0:W0}{w:World}{μ:Mu}{G:Key→Option ab}{H:T ab}{nx:Key}{g:Gh}{wP:Nat→Prop}{ak:List (Nat×Key×ab)}{tm:T AV}{rest:List Nat}{fr:Frame}{cs:List Frame}{K:List Item}
theorem N5(hM:aL P ρ w0 μ G nx.toNat w){x:Operand}{px:PX}{a:AV}{jb:T AV}(hp:pX P nt x=some px)(ha:px.at jb=some a)
  (ht:∀t k,x=.tmp t→k.toNat=t→ae k jb=some a→∃v,fr.tmps[t]?=some v∧aA ρ μ a v):aA ρ μ a (fr.eval x):=by
 cases x with
 |tmp t=>
  simp only[pX]at hp;split at hp
  ·rename_i k hk;cases hp;obtain⟨v,hv,hr⟩:=ht t k rfl (kK hk).1 ha;have:fr.eval (.tmp t)=v:=by simp[Frame.eval,Array.getD_eq_getD_getElem?,hv]
   rw[this];exact hr
  ·cases hp
 |const v=>
  simp only[pX]at hp;split at hp
  ·rename_i b hb;cases hp;simp only[PX.at,bB]at ha;subst ha;exact eD _ _ _ hb
  ·cases hp
 |global gl=>
  simp only[pX]at hp;split at hp
  ·rename_i k hk;cases hp;simp only[PX.at,bB]at ha;subst ha;obtain⟨e,bF⟩:=kK hk;obtain⟨ext,he⟩:=hM.GH k (by omega);exact .ptr _ _ _ _ he (by simp[e])
  ·cases hp
 |func f=>simp only[pX,bB]at hp;subst hp;simp only[PX.at,bB]at ha;subst ha;exact .fn _ _ _ _ _ .nil .nil
theorem yV(hM:aL P ρ w0 μ G nx.toNat w){o:Oper}{jb:T AV}(ht:∀(k:Key) a,k.toNat∈iq ops o→ae k jb=some a→∃v,fr.tmps[k.toNat]?=some v∧aA ρ μ a v) :
  qn P ρ μ nt o.op.operands.toList jb fr.eval:=by
 intro x hx px a hp ha;refine N5 hM hp ha fun t k hxt hkt hg=>?_;subst hxt;rw[←hkt];refine ht k a ?_ hg;unfold iq;rw[List.mem_append,List.mem_filterMap];exact .inl ⟨_,hx,by rw[hkt]⟩
theorem uR{o:Oper}{gd:Option (Key×Bool)}(hg:EF nt ops o.guard=some gd){jb:T AV}{tmps:Array Value}(ht:∀(k:Key) a,k.toNat∈iq ops o→ae k jb=some a→∃v,tmps[k.toNat]?=some v∧aA ρ μ a v)
  {b:Bool} (hw:bJ gd jb=some b):Region.wanted o (yielded ops tmps)=b:=by
 cases Ig:o.guard with
 |none=>rw[Ig]at hg;simp only[EF,bB]at hg;subst hg;simp only[bJ,bB]at hw;simp[Region.wanted,Ig,hw]
 |some p=>
  obtain⟨j,want⟩:=p;rw[Ig]at hg;simp only[EF]at hg;split at hg
  ·rename_i oj PH;split at hg
   ·rename_i d hd;split at hg
    ·rename_i k hk;cases hg;obtain⟨e,_⟩:=kK hk;have jM:k.toNat∈iq ops o:=by unfold iq;rw[List.mem_append,Ig,e];right;simp[PH,hd]
     simp only[bJ]at hw;split at hw
     ·rename_i b' eA;cases hw;obtain⟨v,hv,hr⟩:=ht k _ jM eA;cases hr;rw[e]at hv;simp only[Region.wanted,Ig,yielded,PH,Option.bind_some,hd,hv];cases b'<;>cases want<;>rfl
     ·rename_i eA;cases hw;obtain⟨v,hv,hr⟩:=ht k _ jM eA;cases hr with|tuple _ vs hvs=>
      rw[e]at hv;simp only[Region.wanted,Ig,yielded,PH,Option.bind_some,hd,hv];cases want<;>rfl
     ·cases hw
    ·cases hg
   ·cases hg
  ·cases hg
end
section
variable{P:Program}{ρ:Nat→Int}{orc:dP}{nt:Nat}{ops:Array Oper}{pl:List aq}{bf:List Nat}{w0:W0}{w:World}{μ μ':Mu}{G G':Key→Option ab}{H:T ab}{nx:Key}{g:Gh}{wP:Nat→Prop}{ak:List (Nat×Key×ab)}{tm:T AV}{tmps:Array Value}{rest:List Nat}{fr:Frame}{cs:List Frame}{K:List Item}{i:Nat}
theorem dS.ready(S:dS P ρ orc nt ops pl bf μ G H nx g wP ak tm tmps (i ::rest)) :
  i<ops.size∧g.D i=false∧(∀j,j<ops.size→hasB (dF bf i) j=true→g.D j=true):=by
 obtain⟨h1,h2,h3,_⟩:=S.ord;exact⟨h1,h2,fun j hj hb=>S.EA.closed S.cl i ops[i] (by simp[h1]) (fun e he nI=>h3 _ (by simp[h1]) e he nI) j hj hb⟩
theorem CN{j t:Nat}(h:jx ops j=some t):j<ops.size:=by
 obtain⟨o,ho,_⟩:=LP h;rcases zE j ops.size with h'|h'
 ·exact h'
 ·rw[Jn h']at ho;cases ho
theorem dS.BV(S:dS P ρ orc nt ops pl bf μ G H nx g wP ak tm tmps (i ::rest)){jb:T AV}(ht:Kk ops bf g i jb){o:Oper}(ho:ops[i]?=some o) :
  ∀(k:Key) a,k.toNat∈iq ops o→ae k jb=some a→∃v,tmps[k.toNat]?=some v∧aA ρ μ a v:=by
 intro k a hk hg;obtain⟨h1,h2,h3⟩:=S.ready;rcases ht o ho k a hk hg with⟨j,hj,hb,hv⟩|⟨qq,ha⟩
 ·exact S.c1 k j a (h3 j (CN hj) hb) hj hv
 ·refine S.c2 k a (fun j hD hj=>?_) ha;have hb:=qq j hj;obtain⟨oj,PH,_⟩:=LP hj;have:=S.EA.closed S.cl j oj PH (fun e he nI=>S.cl j oj hD PH e he nI) i h1 hb;rw[h2]at this;cases this
def zA(d:Option Nat)(v:Value)(tmps:Array Value):Array Value:=match d with
 |some d=>tmps.setIfInBounds d v
 |none=>tmps
theorem bI{o:Oper}(ht:fr.todo=.inRegion ops (i ::rest) ::K)(ho:ops[i]?=some o)(v:Value) :
  fr.finish v={fr with tmps:=zA o.dst v fr.tmps,todo:=.inRegion ops rest ::K}:=by
 simp only[Frame.finish,ht,ho,Option.bind_some,zA];cases o.dst<;>rfl
theorem yw{o:Oper}{op:Aw}(hp:eZ P nt o=some op)(hd:cW o.op=true):Bn op=true:=by
 obtain⟨dst,qz,ty,pos,after,guard⟩:=o;cases qz<;>first|(cases hd;done)|skip
 rename_i c;simp only[eZ]at hp;split at hp
 ·split at hp
  ·cases hp;rfl
  ·cases hp
 ·cases hp
theorem HJ{po:aq}(h:pl[i]?=some po):mJ pl i=(bif Bn po.op then 2 else bif Ek po.op then 1 else 0):=by simp[mJ,h]
theorem Nr{tmps:Array Value}{d:Option Nat}{v:Value}(t:Nat)(h:∀x,d=some x→x<tmps.size) :
  (zA d v tmps)[t]?=if d=some t then some v else tmps[t]?:=by
 cases d with
 |none=>simp[zA]
 |some x=>
  have:=h x rfl;simp only[zA];by_cases e:x=t
  ·subst e;simp[this]
  ·rw[if_neg (by simpa using e),Px e]
theorem dS.done(S:dS P ρ orc nt ops pl bf μ G H nx g wP ak tm tmps (i ::rest))(hm:μ.le μ'){o:Oper}(ho:ops[i]?=some o){a:AV}{v:Value}(hL:hasB g.L i=true)(Fx:g.val i=some a)(hv:aA ρ μ' a v)
  (Ly:∀x∈ak,(x.1=i→G' x.2.1=some x.2.2)∧(x.1≠i→μ' x.2.1=μ x.2.1∧G' x.2.1=G x.2.1)) :
  dS P ρ orc nt ops pl bf μ' G' H nx {g with D:=fun j=>g.D j||j==i} wP ak tm (zA o.dst v tmps) rest:=by
 obtain⟨hi,Tv,hbf⟩:=S.ready;obtain⟨o',po,JF,Ie,nH⟩:=S.EA.at hi;rw[ho]at JF;cases JF;obtain⟨qF,Ig,vV⟩:=fb Ie;have ZP:∀x,o.dst=some x→x<tmps.size:=by
  intro x hx;rcases vV with⟨h,_⟩|⟨k,h,_,bF⟩
  ·rw[h]at hx;cases hx
  ·rw[h]at hx;cases hx;exact GD bF S.sz
 have Fy:jx ops i=o.dst:=by simp[jx,ho]
 have lD:=fun t=>Nr (v:=v) t ZP;have Ro:(zA o.dst v tmps).size=tmps.size:=by cases o.dst<;>simp[zA]
 have Kl:∀j,((g.D j||j==i)=true)↔(g.D j=true∨j=i):=by intro j;simp
 refine⟨S.EA,S.ord.2.2.2,?_,?_,S.AT,S.QY,S.a1,S.a2,by rw[Ro];exact S.sz,?_,?_,?_,?_,S.nk,S.ni⟩
 ·intro j oj hj PH e he hb;rcases (Kl j).1 hj with h|h
  ·exact(Kl _).2 (.inl (S.cl j oj h PH e he hb))
  ·subst h;exact(Kl _).2 (.inl (S.ord.2.2.1 oj PH e he hb))
 ·intro j hj;rcases (Kl j).1 hj with h|h
  ·exact S.sub j h
  ·subst h;exact hL
 ·intro k j b hj OL Tw;rw[lD];rcases (Kl j).1 hj with h|h
  ·by_cases e:o.dst=some k.toNat
   ·have:i=j:=S.EA.Eo (Fy.trans e) OL;subst this;rw[Tv]at h;cases h
   ·rw[if_neg e];obtain⟨u,hu,hr⟩:=S.c1 k j b h OL Tw;exact⟨u,hu,hr.mono hm⟩
  ·subst h;rw[Fy]at OL;rw[if_pos OL];have Tw:g.val j=some b:=Tw;rw[Fx]at Tw;cases Tw;exact⟨v,rfl,hv⟩
 ·intro k b Dn ha;rw[lD];have Ui:o.dst≠some k.toNat:=by intro e;exact Dn i ((Kl i).2 (.inr rfl)) (Fy.trans e)
  rw[if_neg Ui];obtain⟨u,hu,hr⟩:=S.c2 k b (fun j hj=>Dn j ((Kl j).2 (.inl hj))) ha;exact⟨u,hu,hr.mono hm⟩
 ·intro j hj PI;have PI:(g.D j||j==i)=false:=PI;rw[Bool.or_eq_false_iff]at PI;cases S.pd j hj PI.1 with
  |skip po jb h1 h2 h3 h4 h5=>exact .skip po jb h1 h2 h3 h4 h5
  |light po jb v h1 h2 h3 hk h4 h5 h6=>exact .light po jb v h1 h2 h3 hk h4 h5 h6
  |alloc po jb f B k h1 h2 h3 hk h4 h5 h6=>exact .alloc po jb f B k h1 h2 h3 hk h4 h5 h6
 ·intro x hx;obtain⟨p1,p2,p3,p4,p5⟩:=S.pe x hx;obtain⟨q1,q2⟩:=Ly x hx;refine⟨p1,fun h=>?_,fun h=>?_,p4,p5⟩
  ·by_cases e:x.1=i
   ·exact q1 e
   ·rw[(q2 e).2];exact p2 (((Kl _).1 h).resolve_right e)
  ·have h:(g.D x.1||x.1==i)=false:=h;rw[Bool.or_eq_false_iff]at h;have e:x.1≠i:=by simpa using h.2
   rw[(q2 e).1,(q2 e).2];exact p3 h.1
theorem IN(hM:aL P ρ w0 μ G nx.toNat w)(hH:HSub H G)(ho:cD ρ orc)(S:dS P ρ orc nt ops pl bf μ G H nx g wP ak tm fr.tmps (i ::rest))(hL:hasB g.L i=true)(hu:¬wP i)
  (hm:fr.mode=.run) (ht:fr.todo=.inRegion ops (i ::rest) ::K) :
  ∃cy w' μ' G',step P (lone fr cs w)=.next (lone {fr with tmps:=cy,todo:=.inRegion ops rest ::K} cs w')∧μ.le μ'∧aL P ρ w0 μ' G' nx.toNat w'∧HSub H G'∧
   dS P ρ orc nt ops pl bf μ' G' H nx {g with D:=fun j=>g.D j||j==i} wP ak tm cy rest∧(∀b,(∀x∈ak,x.2.1≠b)→μ' b=μ b∧G' b=G b):=by
 obtain⟨hi,Tv,hbf⟩:=S.ready;obtain⟨o,po,qF,Ie,nH⟩:=S.EA.at hi;obtain⟨hp,Ig,vV⟩:=fb Ie;cases S.pd i hL Tv with
 |skip Gq jb h1 h2 h3 h4 h5=>rw[nH]at h1;cases h1;have hs:=S.BV h2 qF;have hw:=uR Ig hs h3;have z8:=Be (P:=P) (cs:=cs) (w:=w) hm ht qF hw;rw[bI ht qF]at z8;refine⟨_,w,μ,G,z8,μ.le_refl,hM,hH,?_,fun b _=>⟨rfl,rfl⟩⟩;refine S.done μ.le_refl qF hL h4 (v:=undef) (.tuple _ _ .nil) ?_;intro x hx;exact⟨fun e=>absurd e (h5 x hx),fun _=>⟨rfl,rfl⟩⟩
 |light Gq jb v h1 h2 h3 hk h4 h5 h6=>
  rw[nH]at h1;cases h1;have hs:=S.BV h2 qF;have hw:=uR Ig hs h3;obtain⟨V,Gz,hV⟩:=h4 hu;have hVG:HSub V G:=by
   intro b B hb;rcases hV b B hb with h|⟨j,h1,h2⟩
   ·exact hH b B h
   ·obtain⟨p1,p2,_⟩:=S.pe _ h1;exact p2 (hbf j (S.AT j p1) h2)
  obtain⟨u,cR,hr⟩:=Dp hM hVG ho hp (yV hM hs) Gz;have Da:cW o.op=false:=by
   cases hd:cW o.op with
   |false=>rfl
   |true=>rw[HJ nH,yw hp hd]at hk;cases hk
  have z8:=EK (P:=P) (cs:=cs) hm ht qF hw (.inr Da) cR;rw[bI ht qF]at z8;refine⟨_,w,μ,G,z8,μ.le_refl,hM,hH,?_,fun b _=>⟨rfl,rfl⟩⟩;refine S.done μ.le_refl qF hL h5 hr ?_;intro x hx;exact⟨fun e=>absurd e (h6 x hx),fun _=>⟨rfl,rfl⟩⟩
 |alloc Gq jb f B k h1 h2 h3 hk h4 h5 h6=>
  rw[nH]at h1;cases h1;have hs:=S.BV h2 qF;have hw:=uR Ig hs h3;obtain⟨_,_,p3,p4,p5⟩:=S.pe _ h6;obtain⟨hmk,hgk⟩:=p3 Tv;obtain⟨u,w',l,cR,hle,hM',hr⟩:=Dq hM hp (yV hM hs) h4 hmk (nx':=nx.toNat) (cI _) p5;have Da:cW o.op=false:=by
   cases hd:cW o.op with
   |false=>rfl
   |true=>rw[HJ nH,yw hp hd]at hk;cases hk
  have z8:=EK (P:=P) (cs:=cs) hm ht qF hw (.inr Da) cR;rw[bI ht qF]at z8;refine⟨_,w',_,_,z8,hle,hM',?_,?_,?_⟩
  ·intro b B' hb;have:b≠k:=by intro e;subst e;rw[p4]at hb;cases hb
   rw[bz _ _ this];exact hH b B' hb
  ·refine S.done hle qF hL h5 hr ?_;intro x hx;constructor
   ·intro e;have:x=(i,k,B):=by
     have Ui:=S.ni;have:=List.pairwise_iff_getElem.1 Ui;obtain⟨p,CO,Rp⟩:=List.getElem_of_mem hx;obtain⟨q,hq,Xf⟩:=List.getElem_of_mem h6;rcases Nat.lt_trichotomy p q with Rq|Rq|Rq
     ·have:=this p q (by simpa using CO) (by simpa using hq) Rq;simp[Rp,Xf,e]at this
     ·subst Rq;rw[←Rp,←Xf]
     ·have:=this q p (by simpa using hq) (by simpa using CO) Rq;simp[Rp,Xf,e]at this
    subst this;exact dW _ _ _
   ·intro e;have cL:x.2.1≠k:=by
     intro vO;have hnk:=S.nk;have:=List.pairwise_iff_getElem.1 hnk;obtain⟨p,CO,Rp⟩:=List.getElem_of_mem hx;obtain⟨q,hq,Xf⟩:=List.getElem_of_mem h6;rcases Nat.lt_trichotomy p q with Rq|Rq|Rq
     ·have:=this p q (by simpa using CO) (by simpa using hq) Rq;simp[Rp,Xf,vO]at this
     ·subst Rq;rw[Rp]at Xf;subst Xf;exact e rfl
     ·have:=this q p (by simpa using hq) (by simpa using CO) Rq;simp[Rp,Xf,vO]at this
    exact⟨bz _ _ cL,bz _ _ cL⟩
  ·intro b hb;have:b≠k:=fun e=>hb _ h6 e.symm;exact⟨bz _ _ this,bz _ _ this⟩
end
theorem B5(orc:dP)(op:Aw)(tm:T AV)(H H':T ab)(h:Ch op=false):lightOp orc op tm H=lightOp orc op tm H':=by cases op<;>first|(cases h;done)|rfl
section
variable{P:Program}{ρ:Nat→Int}{orc:dP}{nt:Nat}{ops:Array Oper}{pl:List aq}{bf:List Nat}{w0:W0}{w:World}{μ μ':Mu}{G G':Key→Option ab}{H H':T ab}{nx nx':Key}{g:Gh}{wP aeo:Nat→Prop}{ak pend':List (Nat×Key×ab)}{tm:T AV}{tmps:Array Value}{rest:List Nat}{fr:Frame}{cs:List Frame}{K:List Item}{i:Nat}
theorem dS.SX(S:dS P ρ orc nt ops pl bf μ G H nx g wP ak tm tmps rest)(hi:i<ops.size)(hL:hasB g.L i=false)(hb:∀j,j<ops.size→hasB (dF bf i) j=true→hasB g.L j=true):Kk ops bf g i tm:=by
 intro o ho k a hk ha;by_cases h:∃j,hasB g.L j=true∧jx ops j=some k.toNat
 ·obtain⟨j,hj,hd⟩:=h;left;refine⟨j,hd,?_,by rw[←S.a1 k j hj hd];exact ha⟩;have cL:i≠j:=by intro e;subst e;rw[hL]at hj;cases hj
  rcases ((S.EA.slot ho hd).2 cL).2 hk with h|h
  ·exact h
  ·have:=S.QY j hj i hi h;rw[hL]at this;cases this
 ·right;have h:∀j,hasB g.L j=true→jx ops j≠some k.toNat:=fun j hj hd=>h ⟨j,hj,hd⟩;refine⟨fun j hd=>?_,by rw[←S.a2 k h];exact ha⟩;by_cases cL:i=j
  ·subst cL;exact absurd hk ((S.EA.slot ho hd).1 rfl)
  ·rcases ((S.EA.slot ho hd).2 cL).2 hk with eA|eA
   ·exact absurd hd (h j (hb j (CN hd) eA))
   ·exact eA
def si(f:Nat→Option AV)(i:Nat)(x:Option AV):Nat→Option AV:=fun j=>if j=i then x else f j
theorem K8{x:Option AV}{L':Nat}{D':Nat→Bool}{p:Nat}{k:Key}{a:AV}(hp:hasB (dF bf p) i=false)(h:Jf ops bf g p k a):Jf ops bf {L:=L',D:=D',a0:=g.a0,val:=si g.val i x} p k a:=by
 rcases h with⟨j,h1,h2,h3⟩|⟨h1,h2⟩
 ·left;refine⟨j,h1,h2,?_⟩;have:j≠i:=by intro e;subst e;rw[hp]at h2;cases h2
  simpa[si,this]using h3
 ·exact .inr ⟨h1,h2⟩
theorem r7{x:Option AV}{L':Nat}{D':Nat→Bool}{p:Nat}{jb:T AV}(hp:hasB (dF bf p) i=false)(h:Kk ops bf g p jb):Kk ops bf {L:=L',D:=D',a0:=g.a0,val:=si g.val i x} p jb:=
 fun o ho k a hk hg=>K8 hp (h o ho k a hk hg)
theorem q9.zm{x:Option AV}{L':Nat}{D':Nat→Bool}{p:Nat}(hp:hasB (dF bf p) i=false)(cL:p≠i)(FV:∀y∈ak,y∈pend')(Jg:∀y∈pend',y∈ak∨y.1=i)(h:q9 orc ops pl bf H g ak wP p) :
  q9 orc ops pl bf H {L:=L',D:=D',a0:=g.a0,val:=si g.val i x} pend' wP p:=by
 have hv:∀v,g.val p=some v→si g.val i x p=some v:=by intro v hv;simpa[si,cL]using hv
 have hq:(∀y∈ak,y.1≠p)→∀y∈pend',y.1≠p:=by
  intro hh y hy;rcases Jg y hy with h|h
  ·exact hh y h
  ·rw[h];exact fun e=>cL e.symm
 cases h with
 |skip po jb h1 h2 h3 h4 h5=>exact .skip po jb h1 (r7 hp h2) h3 (hv _ h4) (hq h5)
 |light po jb v h1 h2 h3 hk h4 h5 h6=>
  refine .light po jb v h1 (r7 hp h2) h3 hk (fun hu=>?_) (hv _ h5) (hq h6);obtain⟨V,a1,a2⟩:=h4 hu;refine⟨V,a1,fun b B hb=>?_⟩;rcases a2 b B hb with h|⟨j,h,h'⟩
  ·exact .inl h
  ·exact .inr ⟨j,FV _ h,h'⟩
 |alloc po jb f B k h1 h2 h3 hk h4 h5 h6=>exact .alloc po jb f B k h1 (r7 hp h2) h3 hk h4 (hv _ h5) (FV _ h6)
noncomputable def aV(d:Option Key)(v:AV)(tm:T AV):T AV:=match d with
 |none=>tm
 |some k=>ar k (some v) tm
theorem cj{R:Type}(d:Option Key)(v:AV)(tm:T AV)(c:T AV→R):qK d (some v) tm c=c (aV d v tm):=by
 cases d with
 |none=>rfl
 |some k=>simp only[qK,aV,sTCe]
theorem dS.add(S:dS P ρ orc nt ops pl bf μ G H nx g wP ak tm tmps rest){po:aq}(nH:pl[i]?=some po)(hL:hasB g.L i=false)(hb:∀j,j<ops.size→hasB (dF bf i) j=true→hasB g.L j=true)
  {v:AV} (FV:∀y∈ak,y∈pend') (Jg:∀y∈pend',y∈ak∨y.1=i)
  (iR:q9 orc ops pl bf H {L:=Bq g.L i,D:=g.D,a0:=g.a0,val:=si g.val i (some v)} pend' wP i)
  (Ly:∀y∈pend',y∉ak→μ y.2.1=none∧G y.2.1=none∧ae y.2.1 H=none∧y.2.1.toNat<nx'.toNat) (hn:nx.toNat≤nx'.toNat)
  (hnk:(pend'.map (·.2.1.toNat)).Nodup) (Ui:(pend'.map (·.1)).Nodup) :
  dS P ρ orc nt ops pl bf μ G H nx' {L:=Bq g.L i,D:=g.D,a0:=g.a0,val:=si g.val i (some v)} wP pend' (aV po.dst v tm) tmps rest:=by
 have hi:=S.EA.P1 nH;obtain⟨o,Gq,ho,Ie,uJ⟩:=S.EA.at hi;rw[nH]at uJ;cases uJ;obtain⟨qF,Ig,vV⟩:=fb Ie;have Fy:jx ops i=o.dst:=by simp[jx,ho]
 have Tv:g.D i=false:=by
  cases h:g.D i with
  |false=>rfl
  |true=>have:=S.sub i h;rw[hL]at this;cases this
 have CZ:∀j,hasB (Bq g.L i) j=true↔(hasB g.L j=true∨j=i):=by intro j;rw[BB,Bool.or_eq_true,decide_eq_true_eq];exact⟨fun h=>h.imp id Eq.symm,fun h=>h.imp id Eq.symm⟩
 have Tq:∀p,hasB g.L p=true→hasB (dF bf p) i=false:=by
  intro p hp;cases h:hasB (dF bf p) i with
  |false=>rfl
  |true=>have:=S.QY p hp i hi h;rw[hL]at this;cases this
 refine⟨S.EA,S.ord,S.cl,?_,?_,?_,?_,?_,S.sz,?_,S.c2,?_,?_,hnk,Ui⟩
 ·intro j hj;exact(CZ j).2 (.inl (S.sub j hj))
 ·intro j hj;rcases (CZ j).1 hj with h|h
  ·exact S.AT j h
  ·subst h;exact hi
 ·intro j hj q hq Pz;rcases (CZ j).1 hj with h|h
  ·exact(CZ q).2 (.inl (S.QY j h q hq Pz))
  ·subst h;exact(CZ q).2 (.inl (hb q hq Pz))
 ·intro k j hj hd;rcases vV with⟨e1,e2⟩|⟨kd,e1,e2,_⟩
  ·rcases (CZ j).1 hj with h|h
   ·have cL:j≠i:=by intro e;subst e;rw[hL]at h;cases h
    rw[e2];simp only[aV,si,cL,if_false];exact S.a1 k j h hd
   ·subst h;rw[Fy,e1]at hd;cases hd
  ·rw[e2];simp only[aV];rcases (CZ j).1 hj with h|h
   ·have cL:j≠i:=by intro e;subst e;rw[hL]at h;cases h
    have hk:k≠kd:=by intro e;subst e;exact cL (S.EA.Eo hd (Fy.trans e1))
    rw[bQ _ _ _ _ hk];simp only[si,cL,if_false];exact S.a1 k j h hd
   ·subst h;rw[Fy,e1]at hd;have hk:k=kd:=Key.toNat_inj (by simpa using hd.symm);subst hk;rw[gTSm];simp[si]
 ·intro k Dn;rcases vV with⟨e1,e2⟩|⟨kd,e1,e2,_⟩
  ·rw[e2];exact S.a2 k fun j hj=>Dn j ((CZ j).2 (.inl hj))
  ·rw[e2];simp only[aV];have hk:k≠kd:=by intro e;subst e;exact Dn i ((CZ i).2 (.inr rfl)) (Fy.trans e1)
   rw[bQ _ _ _ _ hk];exact S.a2 k fun j hj=>Dn j ((CZ j).2 (.inl hj))
 ·intro k j a hj hd hv;have cL:j≠i:=by intro e;subst e;rw[Tv]at hj;cases hj
  exact S.c1 k j a hj hd (by simpa[si,cL]using hv)
 ·intro j hj PI;rcases (CZ j).1 hj with h|h
  ·have cL:j≠i:=by intro e;subst e;rw[hL]at h;cases h
   exact(S.pd j h PI).zm (Tq j h) cL FV Jg
  ·subst h;exact iR
 ·intro y hy;by_cases qs:y∈ak
  ·obtain⟨p1,p2,p3,p4,p5⟩:=S.pe y qs;exact⟨(CZ _).2 (.inl p1),p2,p3,p4,GD p5 hn⟩
  ·obtain⟨q1,q2,q3,q4⟩:=Ly y hy qs;have e:=(Jg y hy).resolve_left qs;refine⟨(CZ _).2 (.inr e),fun h=>?_,fun _=>⟨q1,q2⟩,q3,q4⟩;rw[e]at h;have h:g.D i=true:=h;rw[Tv]at h;cases h
theorem dS.tY(S:dS P ρ orc nt ops pl bf μ G H nx g (fun i=>dQ pl i=true) ak tm tmps rest)(hm:μ.le μ')(hn:nx.toNat≤nx'.toNat)
  (hk:∀x∈ak,μ' x.2.1=μ x.2.1∧G' x.2.1=G x.2.1∧ae x.2.1 H'=none):dS P ρ orc nt ops pl bf μ' G' H' nx' g (fun i=>dQ pl i=true) ak tm tmps rest:=by
 refine⟨S.EA,S.ord,S.cl,S.sub,S.AT,S.QY,S.a1,S.a2,S.sz,?_,?_,?_,?_,S.nk,S.ni⟩
 ·intro k j a h1 h2 h3;obtain⟨v,hv,hr⟩:=S.c1 k j a h1 h2 h3;exact⟨v,hv,hr.mono hm⟩
 ·intro k a h1 h2;obtain⟨v,hv,hr⟩:=S.c2 k a h1 h2;exact⟨v,hv,hr.mono hm⟩
 ·intro i hi hD;cases S.pd i hi hD with
  |skip po jb h1 h2 h3 h4 h5=>exact .skip po jb h1 h2 h3 h4 h5
  |light po jb v h1 h2 h3 vY h4 h5 h6=>
   refine .light po jb v h1 h2 h3 vY (fun hu=>?_) h5 h6;obtain⟨V,a1,_⟩:=h4 hu;refine⟨H',?_,VC.refl _ _ _ _⟩;rw[←a1];apply B5;have:dQ pl i=Ch po.op:=by simp[dQ,h1]
   rw[this]at hu;simpa using hu
  |alloc po jb f B k h1 h2 h3 vY h4 h5 h6=>exact .alloc po jb f B k h1 h2 h3 vY h4 h5 h6
 ·intro x hx;obtain⟨p1,p2,p3,p4,p5⟩:=S.pe x hx;obtain⟨q1,q2,q3⟩:=hk x hx;refine⟨p1,fun h=>by rw[q2];exact p2 h,fun h=>by rw[q1,q2];exact p3 h,q3,GD p5 hn⟩
end
section
variable{P:Program}{ρ:Nat→Int}{orc:dP}{nt:Nat}{ops:Array Oper}{pl:List aq}{bf:List Nat}{w0:W0}{w:World}{μ μ':Mu}{G G':Key→Option ab}{H H':T ab}{nx nx':Key}{g:Gh}{wP aeo:Nat→Prop}{ak pend':List (Nat×Key×ab)}{tm:T AV}{tmps:Array Value}{rest:List Nat}{fr:Frame}{cs:List Frame}{K:List Item}{i:Nat}
def aaG(P:Program)(ρ:Nat→Int)(orc:dP)(nt:Nat)(ops:Array Oper)(pl:List aq)(bf:List Nat)(w0:W0)(H:T ab)(nx:Key)(g:Gh)(ak:List (Nat×Key×ab))(tm:T AV)(K:List Item)
  (fr:Frame) (cs:List Frame) (w:World) (μ:Mu) (G:Key→Option ab) (L9:List Nat→Prop):Prop:=
 ∃cy w' μ' G' D' g9,Steps P (lone fr cs w) (lone {fr with tmps:=cy,todo:=.inRegion ops g9 ::K} cs w')∧μ.le μ'∧aL P ρ w0 μ' G' nx.toNat w'∧HSub H G'∧
  dS P ρ orc nt ops pl bf μ' G' H nx {g with D:=D'} (fun _=>False) ak tm cy g9∧(∀b,(∀x∈ak,x.2.1≠b)→μ' b=μ b∧G' b=G b)∧L9 g9
theorem Td(L9:List Nat→Prop)(ho:cD ρ orc)
  (hgo:∀(D:Nat→Bool) (rest:List Nat),(∀i,D i=true→hasB g.L i=true)→Ee ops D rest→L9 rest∨∃q r,rest=q ::r∧((∀j,j<ops.size→hasB (dF bf q) j=true→D j=true)→hasB g.L q=true)) :
  ∀(rest:List Nat) (D:Nat→Bool) (fr:Frame) (w:World) (μ:Mu) (G:Key→Option ab),aL P ρ w0 μ G nx.toNat w→HSub H G→dS P ρ orc nt ops pl bf μ G H nx {g with D:=D} (fun _=>False) ak tm fr.tmps rest→
   fr.mode=.run→fr.todo=.inRegion ops rest ::K→aaG P ρ orc nt ops pl bf w0 H nx g ak tm K fr cs w μ G L9:=by
 intro rest
 induction rest with
 |nil=>
  intro D fr w μ G hM hH S hm ht;rcases hgo D [] S.sub S.ord with h|⟨q,r,h,_⟩
  ·refine⟨fr.tmps,w,μ,G,D,[],?_,μ.le_refl,hM,hH,S,fun _ _=>⟨rfl,rfl⟩,h⟩;rw[←ht];exact Steps.refl _ _
  ·cases h
 |cons q r ih=>
  intro D fr w μ G hM hH S hm ht;rcases hgo D (q ::r) S.sub S.ord with h|⟨q',r',h,hq⟩
  ·refine⟨fr.tmps,w,μ,G,D,q ::r,?_,μ.le_refl,hM,hH,S,fun _ _=>⟨rfl,rfl⟩,h⟩;rw[←ht];exact Steps.refl _ _
  ·cases h;have hL:=hq S.ready.2.2;obtain⟨cy,w',μ',G',h1,h2,h3,h4,h5,h6⟩:=IN (cs:=cs) hM hH ho S hL (fun h=>h) hm ht;obtain⟨tmps2,w2,μ2,G2,D2,rest2,k1,k2,k3,k4,k5,k6,k7⟩:=ih _ {fr with tmps:=cy,todo:=.inRegion ops r ::K} w' μ' G' h3 h4 h5 hm rfl;exact⟨tmps2,w2,μ2,G2,D2,rest2,.head h1 k1,Mu.le_trans h2 k2,k3,k4,k5,fun b hb=>⟨(k6 b hb).1.trans (h6 b hb).1,(k6 b hb).2.trans (h6 b hb).2⟩,k7⟩
theorem Jh(hM:aL P ρ w0 μ G nx.toNat w)(hH:HSub H G)(ho:cD ρ orc)(S:dS P ρ orc nt ops pl bf μ G H nx g (fun _=>False) ak tm fr.tmps rest){h:Nat}(bF:h<ops.size)(hh:hasB g.L h=false)
  (S7:∀j,j<ops.size→hasB g.L j=true∨j=h∨∃q,q<ops.size∧hasB (dF bf j) q=true∧hasB g.L q=false) (hm:fr.mode=.run) (ht:fr.todo=.inRegion ops rest ::K) :
  aaG P ρ orc nt ops pl bf w0 H nx g ak tm K fr cs w μ G (fun r=>∃r',r=h ::r'):=by
 refine Td _ ho ?_ rest g.D fr w μ G hM hH S hm ht;intro D rest aaH VK;cases rest with
 |nil=>have:=aaH h (VK h bF);rw[hh]at this;cases this
 |cons q r=>
  by_cases e:q=h
  ·subst e;exact .inl ⟨r,rfl⟩
  ·refine .inr ⟨q,r,rfl,fun hb=>?_⟩;rcases S7 q VK.1 with h1|h1|⟨p,hp,hpb,hpL⟩
   ·exact h1
   ·exact absurd h1 e
   ·have:=aaH p (hb p hp hpb);rw[hpL]at this;cases this
theorem MM(hM:aL P ρ w0 μ G nx.toNat w)(hH:HSub H G)(ho:cD ρ orc)(S:dS P ρ orc nt ops pl bf μ G H nx g (fun _=>False) ak tm fr.tmps rest)
  (qq:∀j,j<ops.size→hasB g.L j=true) (hm:fr.mode=.run) (ht:fr.todo=.inRegion ops rest ::K) :
  aaG P ρ orc nt ops pl bf w0 H nx g ak tm K fr cs w μ G (fun r=>r=[]):=by
 refine Td _ ho ?_ rest g.D fr w μ G hM hH S hm ht;intro D rest aaH VK;cases rest with
 |nil=>exact .inl rfl
 |cons q r=>exact .inr ⟨q,r,rfl,fun _=>qq q VK.1⟩
theorem yR{fQ:List (Nat×List Nat)}:∀{os:List (Nat×aq)},recheck orc fQ ak tm H os=true→∀i po,(i,po)∈os→
  ∃d,po.dst=some d∧((bJ po.guard tm=some false∧ae d tm=some (.tuple []))∨(bJ po.guard tm=some true∧∃v,ae d tm=some v∧lightOp orc po.op tm (qL (xm i fQ) ak H)=some v))
 | [],_,_,_,h=>by simp at h
 |(q,o) ::os,hr,i,po,hm=>by
  simp only[recheck]at hr;split at hr
  ·rename_i hw;split at hr
   ·cases hr
   ·rename_i d hd;split at hr
    ·rename_i hg;rcases zk.1 hm with h|h
     ·cases h;exact⟨d,hd,.inl ⟨hw,hg⟩⟩
     ·exact yR hr i po h
    ·cases hr
  ·rename_i hw;split at hr
   ·cases hr
   ·rename_i d hd;split at hr
    ·rename_i v u hg hl;cases hb:AV.beq v u with
     |false=>rw[hb]at hr;cases hr
     |true=>
      rw[hb]at hr;simp only[cond_true]at hr;have:=AV.eq_of_beq v u hb;subst this;rcases zk.1 hm with h|h
      ·cases h;exact⟨d,hd,.inr ⟨hw,v,hg,hl⟩⟩
      ·exact yR hr i po h
    ·cases hr
  ·cases hr
theorem Ll{i:Nat}{o:Oper}(h:xI ops bf i=true)(ho:ops[i]?=some o){j t:Nat}(hj:jx ops j=some t)(ht:t∈iq ops o):hasB (dF bf i) j=true:=by
 unfold xI at h;rw[ho]at h;simp only[Gj]at h;have h:=h j (by simpa using CN hj);rw[hj]at h;have hc:(iq ops o).contains t=true:=by simpa using ht
 simp only[hc,Bool.not_true,Bool.false_or]at h;exact h
theorem dS.HC(S:dS P ρ orc nt ops pl bf μ G H nx g wP ak tm tmps rest){os:List (Nat×aq)}{fQ:List (Nat×List Nat)}(Lh:tT bf fQ=true)(hr:recheck orc fQ ak tm H os=true)
  (LH:∀i po,(i,po)∈os→pl[i]?=some po∧xI ops bf i=true∧mJ pl i=0) (Az:∀i,hasB g.L i=true→g.D i=false→wP i→∃po,(i,po)∈os) :
  dS P ρ orc nt ops pl bf μ G H nx g (fun _=>False) ak tm tmps rest:=by
 refine⟨S.EA,S.ord,S.cl,S.sub,S.AT,S.QY,S.a1,S.a2,S.sz,S.c1,S.c2,?_,S.pe,S.nk,S.ni⟩;intro i hi hD;by_cases hu:wP i
 ·obtain⟨po,hm⟩:=Az i hi hD hu;obtain⟨nH,Bi,hk⟩:=LH i po hm;obtain⟨d,hd,aeC⟩:=yR hr i po hm;have aj3:=S.AT i hi;obtain⟨o,Gq,ho,Ie,uJ⟩:=S.EA.at aj3;rw[nH]at uJ;cases uJ;obtain⟨_,_,vV⟩:=fb Ie;have hdd:jx ops i=some d.toNat:=by
   rcases vV with⟨_,e2⟩|⟨k,e1,e2,_⟩
   ·rw[e2]at hd;cases hd
   ·rw[e2]at hd;cases hd;simp[jx,ho,e1]
  have Fx:=S.a1 d i hi hdd;have XG:Kk ops bf g i tm:=by
   intro o' JF k a hks hg;rw[ho]at JF;cases JF;by_cases hex:∃j,jx ops j=some k.toNat
   ·obtain⟨j,hj⟩:=hex;have hb:=Ll Bi ho hj hks;exact .inl ⟨j,hj,hb,by rw[←S.a1 k j (S.QY i hi j (CN hj) hb) hj];exact hg⟩
   ·have Dn:∀j,jx ops j≠some k.toNat:=fun j hj=>hex ⟨j,hj⟩;exact .inr ⟨fun j hj=>absurd hj (Dn j),by rw[←S.a2 k fun j _=>Dn j];exact hg⟩
  have FV:∀x∈ak,x.1≠i:=by
   cases S.pd i hi hD with
   |skip po jb h1 h2 h3 h4 h5=>exact h5
   |light po jb v h1 h2 h3 vY h4 h5 h6=>exact h6
   |alloc po jb f B k h1 h2 h3 vY h4 h5 h6=>rw[hk]at vY;cases vY
  rcases aeC with⟨hw,hg⟩|⟨hw,v,hg,hl⟩
  ·exact .skip po tm nH XG hw (by rw[←Fx];exact hg) FV
  ·exact .light po tm v nH XG hw hk (fun _=>⟨_,hl,VC.view Lh _ _ _⟩) (by rw[←Fx];exact hg) FV
 ·cases S.pd i hi hD with
  |skip po jb h1 h2 h3 h4 h5=>exact .skip po jb h1 h2 h3 h4 h5
  |light po jb v h1 h2 h3 vY h4 h5 h6=>exact .light po jb v h1 h2 h3 vY (fun _=>h4 hu) h5 h6
  |alloc po jb f B k h1 h2 h3 vY h4 h5 h6=>exact .alloc po jb f B k h1 h2 h3 vY h4 h5 h6
end
inductive Ed(P:Program)(μ:Mu)(nt:Nat):cv→Item→Prop
 |code (pc:av) (c:Code) (h:eu P nt c=some pc):Ed P μ nt (.code pc) (.code c)
 |inBlock (id:Nat):Ed P μ nt (.inBlock id) (.inBlock id)
 |inLoop (pc:av) (c:Code) (h:eu P nt c=some pc):Ed P μ nt (.inLoop pc) (.inLoop c)
 |ops (l:List aq) (ops:Array Oper) (rest:List Nat) (h:jw P nt ops rest=some l):Ed P μ nt (.ops l) (.inRegion ops rest)
 |inRF (k:Key) (l:Loc) (r:Nat) (h:μ k=some l) (hr:r=l.c):Ed P μ nt (.inRF k) (.inRangeFunc r)
 |endRF (k:Key) (l:Loc) (r:Nat) (h:μ k=some l) (hr:r=l.c):Ed P μ nt (.endRF k) (.endRangeFunc r)
 |beginRound:Ed P μ nt .beginRound .beginRound
 |scope (c:Code):Ed P μ nt (.code .skip) (.inScope c)
inductive jj(P:Program)(μ:Mu)(nt:Nat):List cv→List Item→Prop
 |nil:jj P μ nt [] []
 |cons (a:cv) (x:Item) (l:List cv) (k:List Item) (h:Ed P μ nt a x) (h':jj P μ nt l k):jj P μ nt (a ::l) (x ::k)
theorem Ed.mono{P:Program}{μ μ':Mu}(hm:μ.le μ'){nt:Nat}{a:cv}{x:Item}(h:Ed P μ nt a x):Ed P μ' nt a x:=by
 cases h with
 |code pc c h=>exact .code pc c h
 |inBlock id=>exact .inBlock id
 |inLoop pc c h=>exact .inLoop pc c h
 |ops l ops rest h=>exact .ops l ops rest h
 |inRF k l r h hr=>exact .inRF k l r (hm.l _ _ h) hr
 |endRF k l r h hr=>exact .endRF k l r (hm.l _ _ h) hr
 |beginRound=>exact .beginRound
 |scope c=>exact .scope c
theorem jj.mono{P:Program}{μ μ':Mu}(hm:μ.le μ'){nt:Nat}{a:List cv}{x:List Item}(h:jj P μ nt a x):jj P μ' nt a x:=by
 induction h with
 |nil=>exact .nil
 |cons a x l k h h' ih=>exact .cons _ _ _ _ (h.mono hm) ih
def Vx(ρ:Nat→Int)(μ:Mu):LM→Deferred→Prop
 |.fn f args,d=>∃ws,d.target=.fn (.func f) ws∧ao ρ μ args (d.args++ws).toList
 |.coll b,d=>∃l,μ b=some l∧d=⟨.collected l.c,#[]⟩
def Fl(ρ:Nat→Int)(μ:Mu):List LM→List Deferred→Prop
 | [],[]=>True
 |a ::l,d ::ds=>Vx ρ μ a d∧Fl ρ μ l ds
 |_,_=>False
theorem Vx.mono{ρ:Nat→Int}{μ μ':Mu}(hm:μ.le μ'){a:LM}{d:Deferred}(h:Vx ρ μ a d):Vx ρ μ' a d:=by
 cases a with
 |fn f args=>obtain⟨ws,h1,h2⟩:=h;exact⟨ws,h1,h2.mono hm⟩
 |coll b=>obtain⟨l,h1,h2⟩:=h;exact⟨l,hm.l _ _ h1,h2⟩
theorem Fl.mono{ρ:Nat→Int}{μ μ':Mu}(hm:μ.le μ'):∀{a:List LM} {d:List Deferred},Fl ρ μ a d→Fl ρ μ' a d
 | [],[],_=>trivial
 |_ ::_,_ ::_,h=>⟨h.1.mono hm,Fl.mono hm h.2⟩
 | [],_ ::_,h=>h.elim
 |_ ::_,[],h=>h.elim
def aeg(μ:Mu):Option Key→Option Nat→Prop
 |none,none=>True
 |some k,some r=>∃l,μ k=some l∧r=l.c
 |_,_=>False
structure tX(P:Program)(ρ:Nat→Int)(μ:Mu)(nt:Nat)(af:jL)(fr:Frame):Prop where
 fn:fr.fn=af.fn
 Lq:PS P af.fn nt af.res
 dfs:Fl ρ μ af.dfs fr.defers
 kind:fr.kind=if af.xP then .deferred else .normal
 pz:aeg μ af.pz fr.roundOf
 rd:af.pz≠none→af.xP=false
theorem tX.mono{P:Program}{ρ:Nat→Int}{μ μ':Mu}(hm:μ.le μ'){nt:Nat}{af:jL}{fr:Frame}(h:tX P ρ μ nt af fr):tX P ρ μ' nt af fr:=by
 refine⟨h.fn,h.Lq,h.dfs.mono hm,h.kind,?_,h.rd⟩;have:=h.pz;cases h1:af.pz<;>cases h2:fr.roundOf<;>rw[h1,h2]at this
 ·trivial
 ·exact this.elim
 ·exact this.elim
 ·obtain⟨l,e1,e2⟩:=this;exact⟨l,hm.l _ _ e1,e2⟩
def Ck(ops:Array Oper)(fD:List Key):Prop:=∀j t,jx ops j=some t→∃k∈fD,k.toNat=t
inductive Jz(P:Program)(ρ:Nat→Int)(orc:dP)(μ:Mu)(G:Key→Option ab)(H:T ab)(nx:Key)(nt:Nat):List cv→T AV→List Item→Array Value→Prop
 |plain (k:List cv) (K:List Item) (tm:T AV) (tmps:Array Value) (h:jj P μ nt k K) (ht:gG ρ μ nt tm tmps):Jz P ρ orc μ G H nx nt k tm K tmps
 |ready (ops:Array Oper) (pl:List aq) (bf:List Nat) (g:Gh) (pA:List Oa) (items:List aT) (fD:SD) (ak:List (Nat×Key×ab)) (k:List cv) (K:List Item) (tm:T AV) (tmps:Array Value) (rest:List Nat)
   (hf:pA.mapM (xK pl)=some items) (hc:tn ops pl bf g.L pA=true) (hd:Ck ops fD.ds∧tT bf fD.fQ=true) (h:jj P μ nt k K) (S:dS P ρ orc nt ops pl bf μ G H nx g (fun _=>False) ak tm tmps rest) :
   Jz P ρ orc μ G H nx nt (.staged items fD ak ::k) tm (.inRegion ops rest ::K) tmps
 |back (ops:Array Oper) (pl:List aq) (bf:List Nat) (g:Gh) (os:List (Nat×aq)) (pA:List Oa) (items:List aT) (fD:SD) (ak:List (Nat×Key×ab)) (k:List cv) (K:List Item) (tm:T AV) (tmps:Array Value) (rest:List Nat)
   (hf:pA.mapM (xK pl)=some items) (hc:tn ops pl bf g.L pA=true) (hd:Ck ops fD.ds∧tT bf fD.fQ=true) (h:jj P μ nt k K)
   (LH:∀i po,(i,po)∈os→pl[i]?=some po∧xI ops bf i=true∧mJ pl i=0) (Az:∀i,hasB g.L i=true→g.D i=false→dQ pl i=true→∃po,(i,po)∈os)
   (S:dS P ρ orc nt ops pl bf μ G H nx g (fun i=>dQ pl i=true) ak tm tmps rest) :
   Jz P ρ orc μ G H nx nt (.staged (.R os ::items) fD ak ::k) tm (.inRegion ops rest ::K) tmps
inductive By(P:Program)(ρ:Nat→Int)(orc:dP)(μ:Mu)(G:Key→Option ab)(H:T ab)(nx:Key)(nt:Nat):List cv→T AV→List Item→Array Value→Prop
 |ops (o:aq) (l:List aq) (ops:Array Oper) (i:Nat) (rest:List Nat) (k:List cv) (K:List Item) (tm:T AV) (tmps:Array Value) (hp:jw P nt ops (i ::rest)=some (o ::l)) (h:jj P μ nt k K) (ht:gG ρ μ nt tm tmps) :
   By P ρ orc μ G H nx nt (.ops (o ::l) ::k) tm (.inRegion ops (i ::rest) ::K) tmps
 |staged (ops:Array Oper) (pl:List aq) (bf:List Nat) (g:Gh) (i:Nat) (po:aq) (ad:List Nat) (os:List (Nat×aq)) (pA:List Oa) (items:List aT) (fD:SD) (ak:List (Nat×Key×ab)) (k:List cv) (K:List Item) (tm:T AV) (tmps:Array Value) (rest:List Nat)
   (nH:pl[i]?=some po) (hf:pA.mapM (xK pl)=some items) (hc:tn ops pl bf (Bq g.L i) pA=true) (hL:hasB g.L i=false) (Hg:∀j,j<ops.size→hasB (dF bf i) j=true→hasB g.L j=true) (hd:Ck ops fD.ds∧tT bf fD.fQ=true) (h:jj P μ nt k K)
   (LH:∀i po,(i,po)∈os→pl[i]?=some po∧xI ops bf i=true∧mJ pl i=0) (Az:∀j,hasB g.L j=true→dQ pl j=true→hasB (dF bf i) j=true∨∃po,(j,po)∈os)
   (S:dS P ρ orc nt ops pl bf μ G H nx g (fun i=>dQ pl i=true) ak tm tmps (i ::rest)) :
   By P ρ orc μ G H nx nt (.staged (.H i po ad ::.R os ::items) fD ak ::k) tm (.inRegion ops (i ::rest) ::K) tmps
 |rf (key:Key) (l:Loc) (k:List cv) (K:List Item) (tm:T AV) (tmps:Array Value) (hk:μ key=some l) (h:jj P μ nt k K) (ht:gG ρ μ nt tm tmps):By P ρ orc μ G H nx nt (.inRF key ::k) tm (.inRangeFunc l.c ::K) tmps
inductive LI(P:Program)(ρ:Nat→Int)(orc:dP)(μ:Mu)(G:Key→Option ab)(H:T ab)(nx:Key)(af:jL)(fr:Frame):Prop
 |run (nt:Nat) (hb:tX P ρ μ nt af fr) (h1:af.mode=.run) (h2:fr.mode=.run) (h:Jz P ρ orc μ G H nx nt af.todo af.tm fr.todo fr.tmps):LI P ρ orc μ G H nx af fr
 |ret (nt:Nat) (hb:tX P ρ μ nt af fr) (h1:af.mode=.ret) (h2:fr.mode=.returning) (h3:af.todo=[]∨∃k,af.todo=.code .ret ::k) (h:gG ρ μ nt af.tm fr.tmps):LI P ρ orc μ G H nx af fr
 |pan (nt:Nat) (hb:tX P ρ μ nt af fr) (v:AV) (u:Value) (r:Bool) (h1:af.mode=.pan v r) (h2:fr.mode=.panicking [{v:=u,recovered:=r}]) (hv:aA ρ μ v u) (h3:af.todo=[]) (h:gG ρ μ nt af.tm fr.tmps):LI P ρ orc μ G H nx af fr
inductive Pv(P:Program)(ρ:Nat→Int)(orc:dP)(μ:Mu)(G:Key→Option ab)(H:T ab)(nx:Key)(af:jL)(fr:Frame):Prop
 |wait (nt:Nat) (hb:tX P ρ μ nt af fr) (h1:af.mode=.run) (h2:fr.mode=.run) (h:By P ρ orc μ G H nx nt af.todo af.tm fr.todo fr.tmps):Pv P ρ orc μ G H nx af fr
 |unw (h:LI P ρ orc μ G H nx af fr) (hm:af.mode≠.run):Pv P ρ orc μ G H nx af fr
def bW(P:Program)(ρ:Nat→Int)(orc:dP)(μ:Mu)(G:Key→Option ab)(H:T ab)(nx:Key):List jL→List Frame→Prop
 | [],[]=>True
 |a ::l,f ::fs=>Pv P ρ orc μ G H nx a f∧bW P ρ orc μ G H nx l fs
 |_,_=>False
def pk(af:jL):List Nat:=match af.todo with
 |.staged _ _ p ::_=>p.map (·.2.1.toNat)
 |_=>[]
def aU:List jL→List Nat
 | []=>[]
 |a ::l=>pk a++aU l
structure xk(P:Program)(ρ:Nat→Int)(orc:dP)(w0:W0)(μ0:Mu)(am:AM)(fr:Frame)(cs:List Frame)(w:World):Prop where
 ex:∃μ G,μ0.le μ∧aL P ρ w0 μ G am.nx.toNat w∧HSub am.h G∧LI P ρ orc μ G am.h am.nx am.fr fr∧bW P ρ orc μ G am.h am.nx am.cs cs∧(aU (am.fr ::am.cs)).Nodup
section
variable{P:Program}{ρ:Nat→Int}{orc:dP}{μ μ':Mu}{G G':Key→Option ab}{H H':T ab}{nx nx':Key}
theorem By.tY(hm:μ.le μ')(hn:nx.toNat≤nx'.toNat){nt:Nat}{k:List cv}{tm:T AV}{K:List Item}{tmps:Array Value}(h:By P ρ orc μ G H nx nt k tm K tmps)
  (hk:∀b:Key,(∀i d p k',k=.staged i d p ::k'→b.toNat∈p.map (·.2.1.toNat))→(∃i d p k',k=.staged i d p ::k')→ae b H=none→b.toNat<nx.toNat→μ' b=μ b∧G' b=G b∧ae b H'=none):By P ρ orc μ' G' H' nx' nt k tm K tmps:=by
 cases h with
 |ops o l ops i rest k K tm tmps hp h ht=>exact .ops o l ops i rest k K tm tmps hp (h.mono hm) (ht.mono hm)
 |rf key l k K tm tmps aar h ht=>exact .rf key l k K tm tmps (hm.l _ _ aar) (h.mono hm) (ht.mono hm)
 |staged ops pl bf g i po ad os pA items fD ak k K tm tmps rest nH hf hc hL Hg hd h LH Az S=>refine .staged ops pl bf g i po ad os pA items fD ak k K tm tmps rest nH hf hc hL Hg hd (h.mono hm) LH Az (S.tY hm hn fun x hx=>?_);obtain⟨_,_,_,p4,p5⟩:=S.pe x hx;refine hk x.2.1 ?_ ⟨_,_,_,_,rfl⟩ p4 p5;intro i d p k' e;cases e;exact Pu.2 ⟨x,hx,rfl⟩
theorem Pv.tY(hm:μ.le μ')(hn:nx.toNat≤nx'.toNat){af:jL}{fr:Frame}(h:Pv P ρ orc μ G H nx af fr)
  (hk:∀b:Key,b.toNat∈pk af→ae b H=none→b.toNat<nx.toNat→μ' b=μ b∧G' b=G b∧ae b H'=none):Pv P ρ orc μ' G' H' nx' af fr:=by
 cases h with
 |wait nt hb h1 h2 h=>refine .wait nt (hb.mono hm) h1 h2 (h.tY hm hn fun b h3 ⟨i,d,p,k',e⟩ h4 h5=>hk b ?_ h4 h5);unfold pk;rw[e];exact h3 i d p k' e
 |unw h uN=>
  refine .unw ?_ uN;cases h with
  |run nt hb h1=>exact absurd h1 uN
  |ret nt hb h1 h2 h3 h=>exact .ret nt (hb.mono hm) h1 h2 h3 (h.mono hm)
  |pan nt hb v u r h1 h2 hv h3 h=>exact .pan nt (hb.mono hm) v u r h1 h2 (hv.mono hm) h3 (h.mono hm)
theorem bW.tY(hm:μ.le μ')(hn:nx.toNat≤nx'.toNat):∀{l:List jL} {fs:List Frame},bW P ρ orc μ G H nx l fs→
  (∀b:Key,b.toNat∈aU l→ae b H=none→b.toNat<nx.toNat→μ' b=μ b∧G' b=G b∧ae b H'=none)→bW P ρ orc μ' G' H' nx' l fs
 | [],[],_,_=>trivial
 |_ ::_,_ ::_,h,hk=>⟨h.1.tY hm hn fun b hb=>hk b (by simp[aU,hb]),bW.tY hm hn h.2 fun b hb=>hk b (by simp[aU,hb])⟩
 | [],_ ::_,h,_=>h.elim
 |_ ::_,[],h,_=>h.elim
end
section
variable{P:Program}{ρ:Nat→Int}{orc:dP}{nt:Nat}{w0:W0}{cs:List Frame}{K:List Item}{ops:Array Oper}
theorem gG.put{μ:Mu}{tm:T AV}{tmps:Array Value}(h:gG ρ μ nt tm tmps){o:Oper}{po:aq}(hd:(o.dst=none∧po.dst=none)∨∃k,o.dst=some k.toNat∧po.dst=some k∧k.toNat<nt){a:AV}{v:Value}(hv:aA ρ μ a v) :
  gG ρ μ nt (aV po.dst a tm) (zA o.dst v tmps):=by
 rcases hd with⟨e1,e2⟩|⟨k,e1,e2,bF⟩
 ·rw[e1,e2];exact h
 ·rw[e1,e2];refine⟨by simp[zA];exact h.1,fun q b hb=>?_⟩;simp only[aV]at hb;simp only[zA];by_cases hq:q=k
  ·subst hq;rw[gTSm]at hb;cases hb;have:q.toNat<tmps.size:=GD bF h.1;exact⟨v,by simp[this],hv⟩
  ·rw[bQ _ _ _ _ hq]at hb;obtain⟨u,hu,hr⟩:=h.2 q b hb;refine⟨u,?_,hr⟩;rw[Px]
   ·exact hu
   ·intro e;exact hq (Key.toNat_inj e.symm)
theorem O6{o:Oper}{op:Aw}(hp:eZ P nt o=some op)(hd:cW o.op=true):∃v l,op=.dfr v l:=by
 obtain⟨dst,qz,ty,pos,after,guard⟩:=o;cases qz<;>first|(cases hd;done)|skip
 rename_i c;simp only[eZ]at hp;split at hp
 ·split at hp
  ·simp only[bB]at hp;exact⟨_,_,hp.symm⟩
  ·cases hp
 ·cases hp
theorem qy{o:Oper}{op:Aw}(hp:eZ P nt o=some op){tm:T AV}{H:T ab}{nx:Key}(h1:∀f l,aOp orc op tm H nx≠.dfr f l)(h2:∀n,aOp orc op tm H nx≠.bad n):cW o.op=false:=by
 cases hd:cW o.op with
 |false=>rfl
 |true=>
  obtain⟨v,l,rfl⟩:=O6 hp hd;exfalso;have key:(∃f l',aOp orc (.dfr v l) tm H nx=.dfr f l')∨∃n,aOp orc (.dfr v l) tm H nx=.bad n:=by
   simp only[aOp];split
   ·exact .inl ⟨_,_,rfl⟩
   ·exact .inr ⟨_,rfl⟩
  rcases key with⟨f,l',e⟩|⟨n,e⟩
  ·exact h1 _ _ e
  ·exact h2 _ e
def Sg(P:Program)(ρ:Nat→Int)(orc:dP)(nt:Nat)(w0:W0)(cs:List Frame)(K:List Item)(ops:Array Oper)(fr:Frame)(w:World)(μ:Mu)(G:Key→Option ab)(H:T ab)(nx:Key):RR→Prop
 |.fin aD h' nx'=>∃cy w' μ' G',Steps P (lone fr cs w) (lone {fr with tmps:=cy,todo:=K} cs w')∧μ.le μ'∧aL P ρ w0 μ' G' nx'.toNat w'∧HSub h' G'∧gG ρ μ' nt aD cy∧Kept H h' nx nx' μ μ' G G'
 |.ev r l' aD h' nx'=>(∃n,r=.bad n)∨∃cy w' μ' G' i g9 po ll o,Steps P (lone fr cs w) (lone {fr with tmps:=cy,todo:=.inRegion ops (i ::g9) ::K} cs w')∧μ.le μ'∧aL P ρ w0 μ' G' nx'.toNat w'∧HSub h' G'∧
   gG ρ μ' nt aD cy∧Kept H h' nx nx' μ μ' G G'∧l'=po ::ll∧jw P nt ops (i ::g9)=some l'∧ops[i]?=some o∧C8 P nt ops o=some po∧Region.wanted o (yielded ops cy)=true∧aOp orc po.op aD h' nx'=r∧¬vU r
theorem iL(orc:dP)(o:aq)(rest:List aq)(tm:T AV)(h:T ab)(nx:Key):fX orc (o ::rest) tm h nx=(match bJ o.guard tm with
   |none=>.ev (.bad 30) (o ::rest) tm h nx
   |some false=>qK o.dst (some (.tuple [])) tm fun tm=>fX orc rest tm h nx
   |some true=>match aOp orc o.op tm h nx with
    |.val v h nx=>qK o.dst (some v) tm fun tm=>fX orc rest tm h nx
    |r=>.ev r (o ::rest) tm h nx):=rfl
theorem Bz(ho:cD ρ orc):∀(l:List aq) (rest:List Nat) (fr:Frame) (w:World) (μ:Mu) (G:Key→Option ab) (H:T ab) (nx:Key) (tm:T AV),jw P nt ops rest=some l→aL P ρ w0 μ G nx.toNat w→HSub H G→gG ρ μ nt tm fr.tmps→
  fr.mode=.run→fr.todo=.inRegion ops rest ::K→Sg P ρ orc nt w0 cs K ops fr w μ G H nx (fX orc l tm H nx)
 | [],rest,fr,w,μ,G,H,nx,tm,hp,hM,hH,hT,hm,ht=>by
  cases rest with
  |cons i r=>simp only[jw]at hp;split at hp;cases hp;split at hp<;>cases hp
  |nil=>exact⟨fr.tmps,w,μ,G,.one (z9 hm ht),μ.le_refl,hM,hH,hT,Kept.refl _ _ _ _⟩
 |po ::l,rest,fr,w,μ,G,H,nx,tm,hp,hM,hH,hT,hm,ht=>by
  cases rest with
  |nil=>simp only[jw,bB]at hp;cases hp
  |cons i r=>
  have Qs:=hp;simp only[jw]at hp;split at hp
  ·cases hp
  ·rename_i o CW;split at hp
   ·rename_i Gq l' h1 h2;simp only[bB,List.cons.injEq]at hp;obtain⟨rfl,rfl⟩:=hp;obtain⟨qF,Ig,vV⟩:=fb h1;have hs:∀(k:Key) a,k.toNat∈iq ops o→ae k tm=some a→∃v,fr.tmps[k.toNat]?=some v∧aA ρ μ a v:=fun k a _ hg=>hT.2 k a hg;have hE:=yV (P:=P) (nt:=nt) (o:=o) hM hs;rw[iL];have go:∀(dR:T AV) (tmps2:Array Value) (w2:World) (μ2:Mu) (G2:Key→Option ab) (H2:T ab) (aP:Key),step P (lone fr cs w)=.next (lone {fr with tmps:=tmps2,todo:=.inRegion ops r ::K} cs w2)→μ.le μ2→aL P ρ w0 μ2 G2 aP.toNat w2→HSub H2 G2→gG ρ μ2 nt dR tmps2→Kept H H2 nx aP μ μ2 G G2→
      Sg P ρ orc nt w0 cs K ops fr w μ G H nx (fX orc l' dR H2 aP):=by
     intro dR tmps2 w2 μ2 G2 H2 aP dH hle Xi hH2 hT2 hK2;have ih:=Bz ho l' r {fr with tmps:=tmps2,todo:=.inRegion ops r ::K} w2 μ2 G2 H2 aP dR h2 Xi hH2 hT2 hm rfl;cases Gw:fX orc l' dR H2 aP with
     |fin aD h' nx'=>rw[Gw]at ih;obtain⟨cy,w',μ',G',s1,s2,s3,s4,s5,s6⟩:=ih;exact⟨cy,w',μ',G',.head dH s1,Mu.le_trans hle s2,s3,s4,s5,hK2.trans s6⟩
     |ev rr ll aD h' nx'=>
      rw[Gw]at ih;rcases ih with hb|⟨cy,w',μ',G',i',g9,Gq,ll',o',s1,s2,s3,s4,s5,s6,s7,s8,s9,VS,XR,XS,s13⟩
      ·exact .inl hb
      ·exact .inr ⟨cy,w',μ',G',i',g9,Gq,ll',o',.head dH s1,Mu.le_trans hle s2,s3,s4,s5,hK2.trans s6,s7,s8,s9,VS,XR,XS,s13⟩
    cases hw:bJ Gq.guard tm with
    |none=>exact .inl ⟨_,rfl⟩
    |some b=>
     have jY:=uR Ig hs hw;cases b with
     |false=>simp only[cj];have dH:=Be (P:=P) (cs:=cs) (w:=w) hm ht CW jY;rw[bI ht CW]at dH;exact go _ _ w μ G H nx dH μ.le_refl hM hH (hT.put vV (.tuple _ _ .nil)) (Kept.refl _ _ _ _)
     |true=>
      cases ha:aOp orc Gq.op tm H nx with
      |val a H2 aP=>
       simp only[cj];obtain⟨n,w2,μ2,G2,r1,r2,r3,r4,r5,r6⟩:=HP hM hH ho qF hE ha;have Da:fr.roundOf=none∨cW o.op=false:=.inr (qy qF (by rw[ha];intro f l e;cases e) (by rw[ha];intro n e;cases e));cases n with
       |value v=>have dH:=EK (P:=P) (cs:=cs) hm ht CW jY Da r1;rw[bI ht CW]at dH;exact go _ _ w2 μ2 G2 H2 aP dH r3 r4 r5 ((hT.mono r3).put vV r2) r6
       |skip=>have r2:a=.tuple []:=r2;subst r2;have dH:=ND (P:=P) (cs:=cs) hm ht CW jY Da r1;rw[bI ht CW]at dH;exact go _ _ w2 μ2 G2 H2 aP dH r3 r4 r5 ((hT.mono r3).put vV (.tuple _ _ .nil)) r6
       |_=>exact r2.elim
      |bad n=>exact .inl ⟨_,rfl⟩
      |call f args=>exact .inr ⟨fr.tmps,w,μ,G,i,r,Gq,l',o,by rw[←ht];exact Steps.refl _ _,μ.le_refl,hM,hH,hT,Kept.refl _ _ _ _,rfl,Qs,CW,h1,jY,ha,by rintro(⟨_,_,_,e⟩|⟨_,e⟩)<;>cases e⟩
      |yld k args=>exact .inr ⟨fr.tmps,w,μ,G,i,r,Gq,l',o,by rw[←ht];exact Steps.refl _ _,μ.le_refl,hM,hH,hT,Kept.refl _ _ _ _,rfl,Qs,CW,h1,jY,ha,by rintro(⟨_,_,_,e⟩|⟨_,e⟩)<;>cases e⟩
      |pan v=>exact .inr ⟨fr.tmps,w,μ,G,i,r,Gq,l',o,by rw[←ht];exact Steps.refl _ _,μ.le_refl,hM,hH,hT,Kept.refl _ _ _ _,rfl,Qs,CW,h1,jY,ha,by rintro(⟨_,_,_,e⟩|⟨_,e⟩)<;>cases e⟩
      |dfr f args=>exact .inr ⟨fr.tmps,w,μ,G,i,r,Gq,l',o,by rw[←ht];exact Steps.refl _ _,μ.le_refl,hM,hH,hT,Kept.refl _ _ _ _,rfl,Qs,CW,h1,jY,ha,by rintro(⟨_,_,_,e⟩|⟨_,e⟩)<;>cases e⟩
      |recover=>exact .inr ⟨fr.tmps,w,μ,G,i,r,Gq,l',o,by rw[←ht];exact Steps.refl _ _,μ.le_refl,hM,hH,hT,Kept.refl _ _ _ _,rfl,Qs,CW,h1,jY,ha,by rintro(⟨_,_,_,e⟩|⟨_,e⟩)<;>cases e⟩
      |alt la=>exact .inr ⟨fr.tmps,w,μ,G,i,r,Gq,l',o,by rw[←ht];exact Steps.refl _ _,μ.le_refl,hM,hH,hT,Kept.refl _ _ _ _,rfl,Qs,CW,h1,jY,ha,by rintro(⟨_,_,_,e⟩|⟨_,e⟩)<;>cases e⟩
   ·cases hp
end
structure wx(E:List Nat)(H H':T ab)(nx nx':Key)(μ μ':Mu)(G G':Key→Option ab):Prop where
 k:∀b:Key,b.toNat∉E→ae b H=none→b.toNat<nx.toNat→μ' b=μ b∧G' b=G b∧ae b H'=none
 n:nx.toNat≤nx'.toNat
theorem wx.refl(E:List Nat)(H:T ab)(nx:Key)(μ:Mu)(G:Key→Option ab):wx E H H nx nx μ μ G G:=⟨fun _ _ h _=>⟨rfl,rfl,h⟩,cI _⟩
theorem wx.trans{E E2:List Nat}{H1 H2 H3:T ab}{n1 n2 n3:Key}{m1 m2 m3:Mu}{G1 G2 G3:Key→Option ab}(a:wx E H1 H2 n1 n2 m1 m2 G1 G2)(b:wx E2 H2 H3 n2 n3 m2 m3 G2 G3)(hE:∀x∈E2,x∈E∨n1.toNat≤x):wx E H1 H3 n1 n3 m1 m3 G1 G3:=by
 refine⟨fun k hk hg hl=>?_,Nat.le_trans a.n b.n⟩;obtain⟨a1,a2,a3⟩:=a.k k hk hg hl;have Tf:k.toNat∉E2:=by
  intro h;rcases hE _ h with h|h
  ·exact hk h
  ·omega
 obtain⟨b1,b2,b3⟩:=b.k k Tf a3 (GD hl a.n);exact⟨b1.trans a1,b2.trans a2,b3⟩
theorem Kept.toE{H H':T ab}{nx nx':Key}{μ μ':Mu}{G G':Key→Option ab}(h:Kept H H' nx nx' μ μ' G G')(E:List Nat):wx E H H' nx nx' μ μ' G G':=
 ⟨fun b _ hg hl=>⟨h.m b hl,h.g b hg hl,h.h b hg hl⟩,h.n⟩
section
variable{P:Program}{ρ:Nat→Int}{orc:dP}{nt:Nat}{ops:Array Oper}{pl:List aq}{bf:List Nat}{w0:W0}{w:World}{μ μ':Mu}{G G':Key→Option ab}{H H':T ab}{nx nx':Key}{g:Gh}{wP aeo:Nat→Prop}{ak pend':List (Nat×Key×ab)}{tm:T AV}{tmps:Array Value}{rest:List Nat}{fr:Frame}{cs:List Frame}{K:List Item}{i:Nat}
theorem dS.Xy(S:dS P ρ orc nt ops pl bf μ G H nx g wP ak tm tmps (i ::rest)){po:aq}(nH:pl[i]?=some po)(hL:hasB g.L i=false)(hb:∀j,j<ops.size→hasB (dF bf i) j=true→hasB g.L j=true)
  {o:Oper} (ho:ops[i]?=some o) {a:AV} {v:Value} (hv:aA ρ μ a v) :
  dS P ρ orc nt ops pl bf μ G H nx {L:=Bq g.L i,D:=fun j=>g.D j||j==i,a0:=g.a0,val:=si g.val i (some a)} wP ak (aV po.dst a tm) (zA o.dst v tmps) rest:=by
 obtain⟨hi,Tv,hbf⟩:=S.ready;obtain⟨o',Gq,JF,Ie,uJ⟩:=S.EA.at hi;rw[nH]at uJ;cases uJ;rw[ho]at JF;cases JF;obtain⟨qF,Ig,vV⟩:=fb Ie;have Fy:jx ops i=o.dst:=by simp[jx,ho]
 have ZP:∀x,o.dst=some x→x<tmps.size:=by
  intro x hx;rcases vV with⟨h,_⟩|⟨k,h,_,bF⟩
  ·rw[h]at hx;cases hx
  ·rw[h]at hx;cases hx;exact GD bF S.sz
 have lD:=fun t=>Nr (v:=v) t ZP;have Ro:(zA o.dst v tmps).size=tmps.size:=by cases o.dst<;>simp[zA]
 have Kl:∀j,((g.D j||j==i)=true)↔(g.D j=true∨j=i):=by intro j;simp
 have CZ:∀j,hasB (Bq g.L i) j=true↔(hasB g.L j=true∨j=i):=by intro j;rw[BB,Bool.or_eq_true,decide_eq_true_eq];exact⟨fun h=>h.imp id Eq.symm,fun h=>h.imp id Eq.symm⟩
 have Tq:∀p,hasB g.L p=true→hasB (dF bf p) i=false:=by
  intro p hp;cases h:hasB (dF bf p) i with
  |false=>rfl
  |true=>have:=S.QY p hp i hi h;rw[hL]at this;cases this
 refine⟨S.EA,S.ord.2.2.2,?_,?_,?_,?_,?_,?_,by rw[Ro];exact S.sz,?_,?_,?_,?_,S.nk,S.ni⟩
 ·intro j oj hj PH e he nI;rcases (Kl j).1 hj with h|h
  ·exact(Kl _).2 (.inl (S.cl j oj h PH e he nI))
  ·subst h;exact(Kl _).2 (.inl (S.ord.2.2.1 oj PH e he nI))
 ·intro j hj;rcases (Kl j).1 hj with h|h
  ·exact(CZ j).2 (.inl (S.sub j h))
  ·exact(CZ j).2 (.inr h)
 ·intro j hj;rcases (CZ j).1 hj with h|h
  ·exact S.AT j h
  ·subst h;exact hi
 ·intro j hj q hq Pz;rcases (CZ j).1 hj with h|h
  ·exact(CZ q).2 (.inl (S.QY j h q hq Pz))
  ·subst h;exact(CZ q).2 (.inl (hb q hq Pz))
 ·intro k j hj hd;rcases vV with⟨e1,e2⟩|⟨kd,e1,e2,_⟩
  ·rcases (CZ j).1 hj with h|h
   ·have cL:j≠i:=by intro e;subst e;rw[hL]at h;cases h
    rw[e2];simp only[aV,si,cL,if_false];exact S.a1 k j h hd
   ·subst h;rw[Fy,e1]at hd;cases hd
  ·rw[e2];simp only[aV];rcases (CZ j).1 hj with h|h
   ·have cL:j≠i:=by intro e;subst e;rw[hL]at h;cases h
    have hk:k≠kd:=by intro e;subst e;exact cL (S.EA.Eo hd (Fy.trans e1))
    rw[bQ _ _ _ _ hk];simp only[si,cL,if_false];exact S.a1 k j h hd
   ·subst h;rw[Fy,e1]at hd;have hk:k=kd:=Key.toNat_inj (by simpa using hd.symm);subst hk;rw[gTSm];simp[si]
 ·intro k Dn;rcases vV with⟨e1,e2⟩|⟨kd,e1,e2,_⟩
  ·rw[e2];exact S.a2 k fun j hj=>Dn j ((CZ j).2 (.inl hj))
  ·rw[e2];simp only[aV];have hk:k≠kd:=by intro e;subst e;exact Dn i ((CZ i).2 (.inr rfl)) (Fy.trans e1)
   rw[bQ _ _ _ _ hk];exact S.a2 k fun j hj=>Dn j ((CZ j).2 (.inl hj))
 ·intro k j b hj OL Tw;rw[lD];rcases (Kl j).1 hj with h|h
  ·have cL:j≠i:=by intro e;subst e;rw[Tv]at h;cases h
   by_cases e:o.dst=some k.toNat
   ·exact absurd (S.EA.Eo (Fy.trans e) OL).symm cL
   ·rw[if_neg e];exact S.c1 k j b h OL (by simpa[si,cL]using Tw)
  ·subst h;rw[Fy]at OL;rw[if_pos OL];have Tw:b=a:=by simpa[si]using Tw.symm
   subst Tw;exact⟨v,rfl,hv⟩
 ·intro k b Dn ha;rw[lD];have Ui:o.dst≠some k.toNat:=by intro e;exact Dn i ((Kl i).2 (.inr rfl)) (Fy.trans e)
  rw[if_neg Ui];exact S.c2 k b (fun j hj=>Dn j ((Kl j).2 (.inl hj))) ha
 ·intro j hj PI;have PI:(g.D j||j==i)=false:=PI;rw[Bool.or_eq_false_iff]at PI;have cL:j≠i:=by simpa using PI.2
  have Xz:=((CZ j).1 hj).resolve_right cL;exact(S.pd j Xz PI.1).zm (Tq j Xz) cL (fun _ h=>h) (fun _ h=>.inl h)
 ·intro x hx;obtain⟨p1,p2,p3,p4,p5⟩:=S.pe x hx;have cL:x.1≠i:=by intro e;rw[e,hL]at p1;cases p1
  refine⟨(CZ _).2 (.inl p1),fun h=>p2 (((Kl _).1 h).resolve_right cL),fun h=>p3 ?_,p4,p5⟩;have h:(g.D x.1||x.1==i)=false:=h;rw[Bool.or_eq_false_iff]at h;exact h.1
theorem dS.EL(S:dS P ρ orc nt ops pl bf μ G H nx g wP ak tm tmps (i ::rest))(hL:hasB g.L i=false)(hb:∀j,j<ops.size→hasB (dF bf i) j=true→hasB g.L j=true){o:Oper}(ho:ops[i]?=some o) :
  ∀(k:Key) a,k.toNat∈iq ops o→ae k tm=some a→∃v,tmps[k.toNat]?=some v∧aA ρ μ a v:=
 S.BV (S.SX S.ready.1 hL hb) ho
theorem Bf:∀{p:List (Nat×Key×ab)} {h:T ab},HSub h G→(∀x∈p,G x.2.1=some x.2.2)→HSub (bP p h) G
 | [],h,hs,_=>hs
 |x ::p,h,hs,hp=>by
  refine Bf (p:=p) ?_ (fun y hy=>hp y (by simp[hy]));intro b B hb;by_cases e:b=x.2.1
  ·subst e;rw[gTSm]at hb;cases hb;exact hp x (by simp)
  ·rw[bQ _ _ _ _ e]at hb;exact hs b B hb
theorem tg:∀{p:List (Nat×Key×ab)} {h:T ab} {b:Key},ae b h=none→(∀x∈p,x.2.1.toNat≠b.toNat)→ae b (bP p h)=none
 | [],h,b,hb,_=>hb
 |x ::p,h,b,hb,hp=>by refine tg (p:=p) ?_ (fun y hy=>hp y (by simp[hy]));rw[bQ _ _ _ _ (fun e=>hp x (by simp) (by rw[e]))];exact hb
end
def lC(p:List (Nat×Key×ab)):List Nat:=p.map (·.2.1.toNat)
def Ao(P:Program)(ρ:Nat→Int)(orc:dP)(nt:Nat)(w0:W0)(cs:List Frame)(K:List Item)(ops:Array Oper)(pl:List aq)(bf:List Nat)(fr:Frame)(w:World)(μ:Mu)(G:Key→Option ab)(H:T ab)(nx:Key)(ak:List (Nat×Key×ab)):RS→Prop
 |.fin aD h' nx'=>∃cy w' μ' G',Steps P (lone fr cs w) (lone {fr with tmps:=cy,todo:=K} cs w')∧μ.le μ'∧aL P ρ w0 μ' G' nx'.toNat w'∧HSub h' G'∧gG ρ μ' nt aD cy∧wx (lC ak) H h' nx nx' μ μ' G G'
 |.ev r AE pend' aD h' nx'=>(∃n,r=.bad n)∨∃cy w' μ' G' g' i po o ad os Gx iu g9,
   Steps P (lone fr cs w) (lone {fr with tmps:=cy,todo:=.inRegion ops (i ::g9) ::K} cs w')∧μ.le μ'∧aL P ρ w0 μ' G' nx'.toNat w'∧HSub h' G'∧
   AE=.H i po ad ::.R os ::iu∧pl[i]?=some po∧Gx.mapM (xK pl)=some iu∧tn ops pl bf (Bq (Gh.L g') i) Gx=true∧hasB g'.L i=false∧(∀j,j<ops.size→hasB (dF bf i) j=true→hasB g'.L j=true)∧
   (∀i po,(i,po)∈os→pl[i]?=some po∧xI ops bf i=true∧mJ pl i=0)∧(∀j,hasB g'.L j=true→dQ pl j=true→hasB (dF bf i) j=true∨∃po,(j,po)∈os)∧
   dS P ρ orc nt ops pl bf μ' G' h' nx' g' (fun i=>dQ pl i=true) pend' aD cy (i ::g9)∧ops[i]?=some o∧C8 P nt ops o=some po∧Region.wanted o (yielded ops cy)=true∧
   aOp orc po.op aD h' nx'=r∧¬vU r∧wx (lC ak) H h' nx nx' μ μ' G G'∧(∀x∈lC pend',x∈lC ak∨nx.toNat≤x)
section
variable{P:Program}{ρ:Nat→Int}{orc:dP}{nt:Nat}{ops:Array Oper}{pl:List aq}{bf:List Nat}{w0:W0}{cs:List Frame}{K:List Item}
theorem Ao.step{fr:Frame}{w:World}{μ:Mu}{G:Key→Option ab}{H:T ab}{nx:Key}{ak:List (Nat×Key×ab)}{tmps2:Array Value}{rest2:List Nat}{w2:World}{μ2:Mu}{G2:Key→Option ab}{H2:T ab}{aP:Key}{pend2:List (Nat×Key×ab)}{r:RS}
  (dH:Steps P (lone fr cs w) (lone {fr with tmps:=tmps2,todo:=.inRegion ops rest2 ::K} cs w2)) (hle:μ.le μ2) (hk:wx (lC ak) H H2 nx aP μ μ2 G G2) (hE:∀x∈lC pend2,x∈lC ak∨nx.toNat≤x)
  (h:Ao P ρ orc nt w0 cs K ops pl bf {fr with tmps:=tmps2,todo:=.inRegion ops rest2 ::K} w2 μ2 G2 H2 aP pend2 r):Ao P ρ orc nt w0 cs K ops pl bf fr w μ G H nx ak r:=by
 cases r with
 |fin aD h' nx'=>obtain⟨cy,w',μ',G',s1,s2,s3,s4,s5,s6⟩:=h;exact⟨cy,w',μ',G',dH.trans s1,Mu.le_trans hle s2,s3,s4,s5,hk.trans s6 hE⟩
 |ev rr it pd aD h' nx'=>
  rcases h with hb|⟨cy,w',μ',G',g',i,po,o,ad,os,Gx,iu,g9,s1,s2,s3,s4,s5,s6,s7,s8,s9,VS,XR,XS,s13,s14,s15,s16,s17,s18,s19,s20⟩
  ·exact .inl hb
  ·refine .inr ⟨cy,w',μ',G',g',i,po,o,ad,os,Gx,iu,g9,dH.trans s1,Mu.le_trans hle s2,s3,s4,s5,s6,s7,s8,s9,VS,XR,XS,s13,s14,s15,s16,s17,s18,hk.trans s19 hE,fun x hx=>?_⟩;rcases s20 x hx with h|h
   ·exact hE x h
   ·exact .inr (Nat.le_trans hk.n h)
theorem fM{α β:Type}{f:α→Option β}{a:α}{l:List α}{r:List β}(h:(a ::l).mapM f=some r):∃b r',f a=some b∧l.mapM f=some r'∧r=b ::r':=by
 rw[List.mapM_cons]at h;cases hf:f a with
 |none=>rw[hf]at h;cases h
 |some b=>
  cases hl:l.mapM f with
  |none=>rw[hf]at h;simp[hl]at h
  |some r'=>rw[hf]at h;simp[hl]at h;exact⟨b,r',rfl,rfl,h.symm⟩
theorem I9(orc:dP)(fQ:List (Nat×List Nat))(i:Nat)(o:aq)(rest:List aT)(ak:List (Nat×Key×ab))(tm:T AV)(h:T ab)(nx:Key):eJ orc fQ (.L i o ::rest) ak tm h nx=(match bJ o.guard tm with
   |none=>.ev (.bad 31) (.L i o ::rest) ak tm h nx
   |some false=>qK o.dst (some (.tuple [])) tm fun tm=>eJ orc fQ rest ak tm h nx
   |some true=>match lightOp orc o.op tm (qL (xm i fQ) ak h)with
    |some v=>qK o.dst (some v) tm fun tm=>eJ orc fQ rest ak tm h nx
    |none=>.ev (.bad 32) (.L i o ::rest) ak tm h nx):=rfl
theorem Ja(orc:dP)(fQ:List (Nat×List Nat))(i:Nat)(o:aq)(rest:List aT)(ak:List (Nat×Key×ab))(tm:T AV)(h:T ab)(nx:Key):eJ orc fQ (.A i o ::rest) ak tm h nx=(match bJ o.guard tm with
   |none=>.ev (.bad 33) (.A i o ::rest) ak tm h nx
   |some false=>qK o.dst (some (.tuple [])) tm fun tm=>eJ orc fQ rest ak tm h nx
   |some true=>match allocOp o.op tm with
    |some (v,b)=>qK o.dst (some (v nx)) tm fun tm=>eJ orc fQ rest ((i,nx,b) ::ak) tm h nx.succ
    |none=>.ev (.bad 34) (.A i o ::rest) ak tm h nx):=rfl
theorem Jb(orc:dP)(fQ:List (Nat×List Nat))(i:Nat)(o:aq)(l:List Nat)(rest:List aT)(ak:List (Nat×Key×ab))(tm:T AV)(h:T ab)(nx:Key):eJ orc fQ (.H i o l ::rest) ak tm h nx=(xJ l ak h fun ak h=>match bJ o.guard tm with
   |none=>.ev (.bad 35) (.H i o l ::rest) ak tm h nx
   |some false=>qK o.dst (some (.tuple [])) tm fun tm=>eJ orc fQ rest ak tm h nx
   |some true=>match aOp orc o.op tm h nx with
    |.val v h nx=>qK o.dst (some v) tm fun tm=>eJ orc fQ rest ak tm h nx
    |r=>.ev r (.H i o l ::rest) ak tm h nx):=rfl
theorem IC(orc:dP)(fQ:List (Nat×List Nat))(os:List (Nat×aq))(rest:List aT)(ak:List (Nat×Key×ab))(tm:T AV)(h:T ab)(nx:Key):eJ orc fQ (.R os ::rest) ak tm h nx =
  (bif recheck orc fQ ak tm h os then eJ orc fQ rest ak tm h nx else .ev (.bad 36) (.R os ::rest) ak tm h nx):=rfl
theorem S6{os:List Nat}{l:List (Nat×aq)}(h:(os.mapM fun i=>(pl[i]?).map fun o=>(i,o))=some l):(∀i po,(i,po)∈l→i∈os∧pl[i]?=some po)∧(∀i∈os,∃po,(i,po)∈l):=by
 induction os generalizing l with
 |nil=>simp at h;subst h;simp
 |cons a os ih=>
  obtain⟨b,r,h1,h2,rfl⟩:=fM h;obtain⟨po,Ie,rfl⟩:=map_some h1;obtain⟨e1,e2⟩:=ih h2;refine⟨fun i Gq hm=>?_,fun i hi=>?_⟩
  ·rcases zk.1 hm with h|h
   ·cases h;exact⟨by simp,Ie⟩
   ·exact⟨List.mem_cons_of_mem _ (e1 i Gq h).1,(e1 i Gq h).2⟩
  ·rcases zk.1 hi with h|h
   ·subst h;exact⟨po,by simp⟩
   ·obtain⟨q,hq⟩:=e2 i h;exact⟨q,List.mem_cons_of_mem _ hq⟩
theorem aaz{μ:Mu}{G:Key→Option ab}{nx:Key}{w:World}(hM:aL P ρ w0 μ G nx.toNat w):G nx=none:=by
 cases h:G nx with
 |none=>rfl
 |some B=>obtain⟨l,o,h1,_⟩:=hM.DI nx B h;exact absurd (hM.new nx l h1) (Nat.lt_irrefl _)
theorem HW{α:Type}{f:α→Nat}:∀{l:List α},(l.map f).Nodup→∀x∈l,∀y∈l,f x=f y→x=y
 | [],_,x,hx,_,_,_=>by cases hx
 |a ::l,h,x,hx,y,hy,e=>by
  simp only[Qi,List.nodup_cons]at h;rcases zk.1 hx with Cf|Cf<;>rcases zk.1 hy with IF|IF
  ·rw[Cf,IF]
  ·exact(h.1 (Pu.2 ⟨y,IF,by rw[←e,Cf]⟩)).elim
  ·exact(h.1 (Pu.2 ⟨x,Cf,by rw[e,IF]⟩)).elim
  ·exact HW h.2 x Cf y IF e
theorem vB{α:Type}{f:α→Nat}(p:α→Bool){l:List α}(h:(l.map f).Nodup):((l.filter p).map f).Nodup:=
 List.Nodup.sublist (List.Sublist.map f List.filter_sublist) h
theorem dS.xJ{μ:Mu}{G:Key→Option ab}{H:T ab}{nx:Key}{g:Gh}{ak:List (Nat×Key×ab)}{tm:T AV}{tmps:Array Value}{rest:List Nat}(S:dS P ρ orc nt ops pl bf μ G H nx g (fun _=>False) ak tm tmps rest){l:List Nat}(hl:∀j∈l,j<ops.size→g.D j=true) :
  dS P ρ orc nt ops pl bf μ G (bP (ak.filter fun x=>memN x.1 l) H) nx g (fun i=>dQ pl i=true) (ak.filter fun x=>!(memN x.1 l)) tm tmps rest:=by
 refine⟨S.EA,S.ord,S.cl,S.sub,S.AT,S.QY,S.a1,S.a2,S.sz,S.c1,S.c2,?_,?_,vB _ S.nk,vB _ S.ni⟩
 ·intro i hi hD;cases S.pd i hi hD with
  |skip po jb h1 h2 h3 h4 h5=>exact .skip po jb h1 h2 h3 h4 fun x hx=>h5 x ((List.mem_filter.1 hx).1)
  |light po jb v h1 h2 h3 vY h4 h5 h6=>
   refine .light po jb v h1 h2 h3 vY (fun hu=>?_) h5 fun x hx=>h6 x ((List.mem_filter.1 hx).1);obtain⟨V,a1,_⟩:=h4 (fun h=>h);refine⟨_,?_,VC.refl _ _ _ _⟩;rw[←a1];apply B5;have:dQ pl i=Ch po.op:=by simp[dQ,h1]
   rw[this]at hu;simpa using hu
  |alloc po jb f B k h1 h2 h3 vY h4 h5 h6=>
   refine .alloc po jb f B k h1 h2 h3 vY h4 h5 (List.mem_filter.2 ⟨h6,?_⟩);show(!(memN i l))=true;cases hm:memN i l with
   |false=>rfl
   |true=>rw[hl i (B8 hm) (S.AT i hi)]at hD;cases hD
 ·intro x hx;obtain⟨Cf,hx2⟩:=List.mem_filter.1 hx;obtain⟨p1,p2,p3,p4,p5⟩:=S.pe x Cf;refine⟨p1,p2,p3,tg p4 fun y hy e=>?_,p5⟩;obtain⟨IF,hy2⟩:=List.mem_filter.1 hy;have:=HW S.nk y IF x Cf e;subst this;rw[hy2]at hx2;cases hx2
theorem HX{fQ:List (Nat×List Nat)}(Oi:cD ρ orc){rest:List Nat}{g:Gh}{fr:Frame}{w:World}{μ:Mu}{G:Key→Option ab}{H:T ab}{nx:Key}{tm:T AV}{ak:List (Nat×Key×ab)}(hc:tn ops pl bf g.L []=true)(hM:aL P ρ w0 μ G nx.toNat w)(hH:HSub H G)
  (S:dS P ρ orc nt ops pl bf μ G H nx g (fun _=>False) ak tm fr.tmps rest) (hm:fr.mode=.run) (ht:fr.todo=.inRegion ops rest ::K):Ao P ρ orc nt w0 cs K ops pl bf fr w μ G H nx ak (eJ orc fQ [] ak tm H nx):=by
 have qq:∀j,j<ops.size→hasB g.L j=true:=by intro j hj;simp only[tn,Gj]at hc;exact hc j (by simpa using hj)
 have cR:eJ orc fQ [] ak tm H nx=.fin tm (bP ak H) nx:=by show yc ak H (fun h=>RS.fin tm h nx)=_;rw[yO]
 rw[cR];obtain⟨cy,w',μ',G',D',g9,s1,s2,s3,s4,s5,s6,rfl⟩:=MM (cs:=cs) hM hH Oi S qq hm ht;have hD:∀j,j<ops.size→D' j=true:=s5.ord;refine⟨cy,w',μ',G',s1.trans (.one (z9 hm rfl)),s2,s3,Bf s4 (fun x hx=>(s5.pe x hx).2.1 (hD _ (s5.AT _ (s5.pe x hx).1))),?_,?_⟩
 ·refine⟨s5.sz,fun k a ha=>?_⟩;by_cases h:∃j,jx ops j=some k.toNat
  ·obtain⟨j,hj⟩:=h;have eo:=CN hj;exact s5.c1 k j a (hD j eo) hj (by rw[←s5.a1 k j (qq j eo) hj];exact ha)
  ·have Dn:∀j,jx ops j≠some k.toNat:=fun j hj=>h ⟨j,hj⟩;exact s5.c2 k a (fun j _=>Dn j) (by rw[←s5.a2 k (fun j _=>Dn j)];exact ha)
 ·refine⟨fun b hb hg hl=>?_,cI _⟩;have cL:∀x∈ak,x.2.1.toNat≠b.toNat:=fun x hx e=>hb (Pu.2 ⟨x,hx,e⟩);obtain⟨k1,k2⟩:=s6 b (fun x hx e=>cL x hx (by rw[e]));exact⟨k1,k2,tg hg cL⟩
theorem JA{fQ:List (Nat×List Nat)}(Lh:tT bf fQ=true)(Oi:cD ρ orc):∀(n:Nat) (pA:List Oa) (items:List aT) (rest:List Nat) (g:Gh) (fr:Frame) (w:World) (μ:Mu) (G:Key→Option ab) (H:T ab) (nx:Key) (tm:T AV) (ak:List (Nat×Key×ab)),pA.length≤n→
  pA.mapM (xK pl)=some items→tn ops pl bf g.L pA=true→aL P ρ w0 μ G nx.toNat w→HSub H G→dS P ρ orc nt ops pl bf μ G H nx g (fun _=>False) ak tm fr.tmps rest→fr.mode=.run→fr.todo=.inRegion ops rest ::K→
  Ao P ρ orc nt w0 cs K ops pl bf fr w μ G H nx ak (eJ orc fQ items ak tm H nx):=by
 intro n
 induction n with
 |zero=>intro pA items rest g fr w μ G H nx tm ak hn hf hc hM hH S hm ht;have:pA=[]:=H8 (by omega);subst this;simp at hf;subst hf;exact HX Oi hc hM hH S hm ht
 |succ n ih=>
  intro pA items rest g fr w μ G H nx tm ak hn hf hc hM hH S hm ht;cases pA with
  |nil=>simp at hf;subst hf;exact HX Oi hc hM hH S hm ht
  |cons x pA=>
   obtain⟨y,AE,hy,hf',rfl⟩:=fM hf;have VM:pA.length≤n:=by simpa using hn
   have hrefl:Steps P (lone fr cs w) (lone {fr with tmps:=fr.tmps,todo:=.inRegion ops rest ::K} cs w):=by rw[←ht];exact Steps.refl _ _
   cases x with
   |L i=>
    obtain⟨po,nH,rfl⟩:=map_some hy;simp only[tn,fa,bltN_eq,decide_eq_true_eq,Bool.not_eq_true',yY]at hc;obtain⟨⟨⟨⟨hi,hk⟩,hL⟩,hb⟩,hc⟩:=hc;have hk:=mo hk;have QX:hasB (dF bf i) i=false:=by
     cases h:hasB (dF bf i) i with
     |false=>rfl
     |true=>have:=hb i hi h;rw[hL]at this;cases this
    have XG:=S.SX hi hL hb;have LJ:∀x∈ak,x.1≠i:=by intro x hx e;have:=(S.pe x hx).1;rw[e,hL]at this;cases this
    rw[I9];cases hw:bJ po.guard tm with
    |none=>exact Or.inl ⟨_,rfl⟩
    |some b=>
     cases b with
     |false=>simp only[cj];have S':=S.add (nx':=nx) (pend':=ak) (v:=.tuple []) nH hL hb (fun _ h=>h) (fun _ h=>.inl h) (.skip po tm nH (r7 QX XG) hw (by simp[si]) LJ) (fun y hy hny=>absurd hy hny) (cI _) S.nk S.ni;exact ih pA AE rest _ fr w μ G H nx _ ak VM hf' hc hM hH S' hm ht
     |true=>
      cases hl:lightOp orc po.op tm (qL (xm i fQ) ak H)with
      |none=>exact Or.inl ⟨_,rfl⟩
      |some v=>simp only[cj];have S':=S.add (nx':=nx) (pend':=ak) (v:=v) nH hL hb (fun _ h=>h) (fun _ h=>.inl h) (.light po tm v nH (r7 QX XG) hw hk (fun _=>⟨_,hl,VC.view Lh _ _ _⟩) (by simp[si]) LJ) (fun y hy hny=>absurd hy hny) (cI _) S.nk S.ni;exact ih pA AE rest _ fr w μ G H nx _ ak VM hf' hc hM hH S' hm ht
   |A i=>
    obtain⟨po,nH,rfl⟩:=map_some hy;simp only[tn,fa,bltN_eq,decide_eq_true_eq,Bool.not_eq_true',yY]at hc;obtain⟨⟨⟨⟨hi,hk⟩,hL⟩,hb⟩,hc⟩:=hc;have hk:=mo hk;have QX:hasB (dF bf i) i=false:=by
     cases h:hasB (dF bf i) i with
     |false=>rfl
     |true=>have:=hb i hi h;rw[hL]at this;cases this
    have XG:=S.SX hi hL hb;have LJ:∀x∈ak,x.1≠i:=by intro x hx e;have:=(S.pe x hx).1;rw[e,hL]at this;cases this
    have hss:=kTSu nx;rw[Ja];cases hw:bJ po.guard tm with
    |none=>exact Or.inl ⟨_,rfl⟩
    |some b=>
     cases b with
     |false=>simp only[cj];have S':=S.add (nx':=nx) (pend':=ak) (v:=.tuple []) nH hL hb (fun _ h=>h) (fun _ h=>.inl h) (.skip po tm nH (r7 QX XG) hw (by simp[si]) LJ) (fun y hy hny=>absurd hy hny) (cI _) S.nk S.ni;exact ih pA AE rest _ fr w μ G H nx _ ak VM hf' hc hM hH S' hm ht
     |true=>
      cases hl:allocOp po.op tm with
      |none=>exact Or.inl ⟨_,rfl⟩
      |some fB=>
       obtain⟨f,B⟩:=fB;simp only[cj];have hgn:=aaz hM;have hHn:ae nx H=none:=by
        cases h:ae nx H with
        |none=>rfl
        |some B=>rw[hH nx B h]at hgn;cases hgn
       have S':=S.add (nx':=nx.succ) (pend':=(i,nx,B) ::ak) (v:=f nx) nH hL hb (fun _ h=>List.mem_cons_of_mem _ h) (fun y h=>by rcases zk.1 h with h|h;exact .inr (by rw[h]);exact .inl h)
        (.alloc po tm f B nx nH (r7 QX XG) hw hk hl (by simp[si]) (by simp))
        (fun y hy hny=>by have:y=(i,nx,B):=(zk.1 hy).resolve_right hny;subst this;exact⟨hM.lQ,hgn,hHn,by show nx.toNat<nx.succ.toNat;omega⟩) (by omega)
        (by simp only[Qi,List.nodup_cons];refine⟨fun h=>?_,S.nk⟩;obtain⟨x,hx,e⟩:=Pu.1 h;have:=(S.pe x hx).2.2.2.2;omega)
        (by simp only[Qi,List.nodup_cons];refine⟨fun h=>?_,S.ni⟩;obtain⟨x,hx,e⟩:=Pu.1 h;exact LJ x hx e)
       have:=ih pA AE rest _ fr w μ G H nx.succ _ ((i,nx,B) ::ak) VM hf' hc (hM.acx (by omega)) hH S' hm ht;refine Ao.step (tmps2:=fr.tmps) (rest2:=rest) (w2:=w) (pend2:=(i,nx,B) ::ak) hrefl μ.le_refl ⟨fun b _ hg hl=>⟨rfl,rfl,hg⟩,Nat.le_of_lt (show nx.toNat<nx.succ.toNat by omega)⟩ ?_ (by rw[←ht];exact this);intro x hx;simp only[lC,Qi,zk]at hx;rcases hx with h|h
       ·exact .inr (Nat.le_of_eq h.symm)
       ·exact .inl h
   |H i ad=>
    obtain⟨po,nH,rfl⟩:=map_some hy;cases pA with
    |nil=>simp[tn]at hc
    |cons x2 Gx=>
    cases x2 with
    |L _=>simp[tn]at hc
    |A _=>simp[tn]at hc
    |H _ _=>simp[tn]at hc
    |R osn=>
    obtain⟨y2,iu,hy2,Jl,rfl⟩:=fM hf';obtain⟨os,LH,rfl⟩:=map_some hy2;obtain⟨ajP,ajQ⟩:=S6 LH;have Gl:Gx.length≤n:=by simp at hn;omega
    simp only[tn,fa,bltN_eq,decide_eq_true_eq,Bool.not_eq_true',yY]at hc;obtain⟨⟨⟨⟨⟨⟨⟨⟨hi,hk⟩,hL⟩,hb⟩,S7⟩,ja⟩,Az⟩,ajR⟩,hc⟩:=hc;have hk:=mo hk;have aer:∀j q,(j,q)∈os→pl[j]?=some q∧xI ops bf j=true∧mJ pl j=0:=by intro j q hj;obtain⟨e1,e2⟩:=ajP j q hj;have:=Gj.1 ajR j e1;simp only[fa]at this;exact⟨e2,this.2,mo this.1.2⟩
    have XH:∀j,hasB g.L j=true→dQ pl j=true→hasB (dF bf i) j=true∨∃q,(j,q)∈os:=by
     intro j hj hr;have:=Gj.1 Az j (by simpa using S.AT j hj);simp only[hj,hr,Bool.not_true,Bool.false_or,Bool.or_eq_true]at this;rcases this with h|h
     ·exact .inl h
     ·exact .inr (ajQ j (by simpa using h))
    have aaB:∀j,j<ops.size→hasB g.L j=true∨j=i∨∃q,q<ops.size∧hasB (dF bf j) q=true∧hasB g.L q=false:=by
     intro j hj;have:=Gj.1 S7 j (by simpa using hj);simp only[Bool.or_eq_true,Bool.not_eq_true']at this;rcases this with(h|h)|h
     ·exact .inl h
     ·exact .inr (.inl (mo h))
     ·refine .inr (.inr (Classical.byContradiction fun Dn=>?_));have:LC ops.size (dF bf j) g.L=true:=yY.2 fun q hq Pz=>by
       cases hLq:hasB g.L q with
       |true=>rfl
       |false=>exact absurd ⟨q,hq,Pz,hLq⟩ Dn
      rw[this]at h;cases h
    obtain⟨B9,w1,μ1,G1,D1,amo,s1,s2,s3,s4,S1,s6,r1,rfl⟩:=Jh (cs:=cs) hM hH Oi S hi hL aaB hm ht;have aes:∀j∈ad,j<ops.size→D1 j=true:=by intro j hj eo;exact S1.ready.2.2 j eo (Gj.1 ja j hj)
    have S2:=S1.xJ (l:=ad) aes;rw[Jb,ra];generalize hpf:(ak.filter fun x=>!(memN x.1 ad))=pend2 at S2;generalize hHf:bP (ak.filter fun x=>memN x.1 ad) H=H2 at S2;have hH2:HSub H2 G1:=by rw[←hHf];refine Bf s4 fun x hx=>?_;obtain⟨Cf,hx2⟩:=List.mem_filter.1 hx;exact(S1.pe x Cf).2.1 (aes _ (B8 hx2) (S1.AT _ (S1.pe x Cf).1))
    have aet:∀x∈pend2,x∈ak:=by intro x hx;rw[←hpf]at hx;exact(List.mem_filter.1 hx).1
    have S8:∀x∈lC pend2,x∈lC ak∨nx.toNat≤x:=by intro x hx;obtain⟨y,hy,e⟩:=Pu.1 hx;exact .inl (Pu.2 ⟨y,aet y hy,e⟩)
    have hK2:wx (lC ak) H H2 nx nx μ μ1 G G1:=by refine⟨fun b eA hg bF=>?_,cI _⟩;have cL:∀x∈ak,x.2.1.toNat≠b.toNat:=fun x hx e=>eA (Pu.2 ⟨x,hx,e⟩);obtain⟨k1,k2⟩:=s6 b (fun x hx e=>cL x hx (by rw[e]));rw[←hHf];exact⟨k1,k2,tg hg fun x hx=>cL x ((List.mem_filter.1 hx).1)⟩
    obtain⟨o,Gq,CW,Ie,uJ⟩:=S.EA.at hi;rw[nH]at uJ;cases uJ;obtain⟨qF,Ig,vV⟩:=fb Ie;have Te:=S2.EL hL hb CW;have hE:=yV (P:=P) (nt:=nt) (o:=o) (fr:={fr with tmps:=B9,todo:=.inRegion ops (i ::r1) ::K}) s3 Te;have go:∀(a:AV) (v:Value) (w3:World) (μ3:Mu) (G3:Key→Option ab) (H3:T ab) (bu:Key),step P (lone {fr with tmps:=B9,todo:=.inRegion ops (i ::r1) ::K} cs w1)=.next (lone {fr with tmps:=zA o.dst v B9,todo:=.inRegion ops r1 ::K} cs w3)→
      aA ρ μ3 a v→μ1.le μ3→aL P ρ w0 μ3 G3 bu.toNat w3→HSub H3 G3→Kept H2 H3 nx bu μ1 μ3 G1 G3→Ao P ρ orc nt w0 cs K ops pl bf fr w μ G H nx ak (eJ orc fQ (.R os ::iu) pend2 (aV po.dst a tm) H3 bu):=by
     intro a v w3 μ3 G3 H3 bu dH hv hle hM3 hH3 hK3;have S3:=S2.tY hle hK3.n (G':=G3) (H':=H3) (fun x hx=>by obtain⟨p1,p2,p3,p4,p5⟩:=S2.pe x hx;exact⟨hK3.m _ p5,hK3.g _ p4 p5,hK3.h _ p4 p5⟩)
     have S4:=S3.Xy nH hL hb CW hv;rw[IC];cases Y9:recheck orc fQ pend2 (aV po.dst a tm) H3 os with
     |false=>exact Or.inl ⟨_,rfl⟩
     |true=>
      simp only[cond_true];have S5:=S4.HC Lh Y9 aer (by
       intro j hj Sz hrj;have Sz:(D1 j||j==i)=false:=Sz;rw[Bool.or_eq_false_iff]at Sz;have cL:j≠i:=by simpa using Sz.2
       have hj:hasB (Bq g.L i) j=true:=hj;rw[BB,Bool.or_eq_true,decide_eq_true_eq]at hj;have Xz:=hj.resolve_right (fun e=>cL e.symm);rcases XH j Xz hrj with h|h
       ·have:=S1.ready.2.2 j (S.AT j Xz) h;have:D1 j=true:=this;rw[Sz.1]at this;cases this
       ·exact h)
      have hE3:=ih Gx iu r1 _ {fr with tmps:=zA o.dst v B9,todo:=.inRegion ops r1 ::K} w3 μ3 G3 H3 bu _ pend2 Gl Jl hc hM3 hH3 S5 hm rfl;exact Ao.step (s1.trans (.one dH)) (Mu.le_trans s2 hle) (hK2.trans (hK3.toE (lC pend2)) S8) (fun x hx=>(S8 x hx)) hE3
    have evt:∀r:OR,Region.wanted o (yielded ops B9)=true→aOp orc po.op tm H2 nx=r→¬vU r→Ao P ρ orc nt w0 cs K ops pl bf fr w μ G H nx ak (.ev r (.H i po ad ::.R os ::iu) pend2 tm H2 nx):=by intro r jY ha hr;exact Or.inr ⟨B9,w1,μ1,G1,{g with D:=D1},i,po,o,ad,os,Gx,iu,r1,s1,s2,s3,hH2,rfl,nH,Jl,hc,hL,hb,aer,XH,S2,CW,Ie,jY,ha,hr,hK2,S8⟩
    show Ao P ρ orc nt w0 cs K ops pl bf fr w μ G H nx ak (match bJ po.guard tm with
     |none=>.ev (.bad 35) (.H i po ad ::.R os ::iu) pend2 tm H2 nx
     |some false=>qK po.dst (some (.tuple [])) tm fun tm=>eJ orc fQ (.R os ::iu) pend2 tm H2 nx
     |some true=>match aOp orc po.op tm H2 nx with
      |.val v h nx=>qK po.dst (some v) tm fun tm=>eJ orc fQ (.R os ::iu) pend2 tm h nx
      |r=>.ev r (.H i po ad ::.R os ::iu) pend2 tm H2 nx)
    cases hw:bJ po.guard tm with
    |none=>exact Or.inl ⟨_,rfl⟩
    |some b=>
     have jY:=uR Ig Te hw;cases b with
     |false=>simp only[cj];have dH:=Be (P:=P) (cs:=cs) (w:=w1) (fr:={fr with tmps:=B9,todo:=.inRegion ops (i ::r1) ::K}) hm rfl CW jY;rw[bI rfl CW]at dH;exact go _ _ w1 μ1 G1 H2 nx dH (.tuple _ _ .nil) μ1.le_refl s3 hH2 (Kept.refl _ _ _ _)
     |true=>
      cases ha:aOp orc po.op tm H2 nx with
      |val a H3 bu=>
       simp only[cj];obtain⟨n,w3,μ3,G3,q1,q2,q3,q4,q5,q6⟩:=HP s3 hH2 Oi qF hE ha;have Da:fr.roundOf=none∨cW o.op=false:=.inr (qy qF (by rw[ha];intro f l e;cases e) (by rw[ha];intro n e;cases e));cases n with
       |value v=>have dH:=EK (P:=P) (cs:=cs) (fr:={fr with tmps:=B9,todo:=.inRegion ops (i ::r1) ::K}) hm rfl CW jY Da q1;rw[bI rfl CW]at dH;exact go _ _ w3 μ3 G3 H3 bu dH q2 q3 q4 q5 q6
       |skip=>have q2:a=.tuple []:=q2;subst q2;have dH:=ND (P:=P) (cs:=cs) (fr:={fr with tmps:=B9,todo:=.inRegion ops (i ::r1) ::K}) hm rfl CW jY Da q1;rw[bI rfl CW]at dH;exact go _ _ w3 μ3 G3 H3 bu dH (.tuple _ _ .nil) q3 q4 q5 q6
       |_=>exact q2.elim
      |bad n=>exact Or.inl ⟨_,rfl⟩
      |call f args=>exact evt _ jY ha (by rintro(⟨_,_,_,e⟩|⟨_,e⟩)<;>cases e)
      |yld k args=>exact evt _ jY ha (by rintro(⟨_,_,_,e⟩|⟨_,e⟩)<;>cases e)
      |pan v=>exact evt _ jY ha (by rintro(⟨_,_,_,e⟩|⟨_,e⟩)<;>cases e)
      |dfr f args=>exact evt _ jY ha (by rintro(⟨_,_,_,e⟩|⟨_,e⟩)<;>cases e)
      |recover=>exact evt _ jY ha (by rintro(⟨_,_,_,e⟩|⟨_,e⟩)<;>cases e)
      |alt la=>exact evt _ jY ha (by rintro(⟨_,_,_,e⟩|⟨_,e⟩)<;>cases e)
   |R os=>simp[tn]at hc
end
end Go.Sx
