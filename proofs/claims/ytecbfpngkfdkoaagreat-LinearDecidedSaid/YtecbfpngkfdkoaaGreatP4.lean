/- A part of the proof. No condition. -/
import Derived.Test.YtecbfpngkfdkoaaGreatP3
import Derived.Orders
import Derived.Recover
set_option linter.unusedSimpArgs false
set_option linter.unusedVariables false
set_option linter.unusedSectionVars false
namespace Go.Sx
open Go.RowKit
section
variable{P:Program}{ρ:Nat→Int}{w0:W0}{w:World}{μ:Mu}{G:Key→Option ag}{nx:Key}{orc:jZ}{nt:Nat}{tm:T AV}{H:T ag}{ev:Operand→Value}
theorem Vk{op:K3}{r:OR}(h:aOp orc op tm H nx=r)(hl:aOp orc op tm H nx=okV H nx (lightOp orc op tm H)):(∃a H' nx',r=.val a H' nx')∨∃n,r=.bad n:=by
 rw[hl]at h;subst h;cases lightOp orc op tm H with
 |none=>exact .inr ⟨_,rfl⟩
 |some v=>exact .inl ⟨_,_,_,rfl⟩
def Cj(r:OR):Prop:=(∃a H' nx',r=.val a H' nx')∨∃n,r=.bad n
def avu:K3→Bool
 |.callF _ _|.callV _ _|.dfr _ _|.panic _|.recover=>true
 |_=>false
theorem Yf{α:Type}{vs:List α}{off:Nat}{l:List α}{bad:OR}{c:List α→OR}(hb:Cj bad)(hc:∀l,Cj (c l)):Cj (Xz vs off l bad c):=by
 rw[putC_eq];split
 ·exact hc _
 ·exact hb
theorem S8{α:Type}{n:Nat}{l:List α}{bad:OR}{c:List α→OR}(hb:Cj bad)(hc:∀l,Cj (c l)):Cj (CY n l bad c):=by
 rw[takeC_eq];split
 ·exact hc _
 ·exact hb
theorem dy(n:Nat):Cj (.bad n):=.inr ⟨n,rfl⟩
theorem qd(a:AV)(H:T ag)(nx:Key):Cj (.val a H nx):=.inl ⟨_,_,_,rfl⟩
theorem S9(f:Key→AV)(B:ag):Cj (newB f B H nx):=by simp only[newB,sTCe];exact qd _ _ _
theorem jJ{b:Bool}{x y:OR}(hx:Cj x)(hy:Cj y):Cj (bif b then x else y):=by cases b<;>assumption
theorem Mc(sz:Nat)(s:AV)(new:List AV)(m:Nat):Cj (appendTo sz s new m H nx):=by
 unfold appendTo;split
 ·refine jJ (qd _ _ _) (jJ ?_ (dy _));rw[sTCe];exact qd _ _ _
 ·refine jJ (qd _ _ _) (jJ ?_ (dy _));split
  ·exact dy _
  ·split
   ·rw[appC_eq,sTCe,sTCe];exact qd _ _ _
   ·exact dy _
 ·refine jJ ?_ (dy _);split
  ·refine jJ (Yf (dy _) fun _=>by rw[sTCe];exact qd _ _ _) (S8 (dy _) fun _=>?_);rw[yT (GD 9999),appC_eq,sTCe];exact qd _ _ _
  ·refine jJ (dy _) (S8 (dy _) fun _=>?_);rw[yT (GD 9999),appC_eq,sTCe];exact qd _ _ _
  ·refine jJ (qd _ _ _) (jJ (jJ ?_ ?_) (dy _))<;>(rw[appC_eq,sTCe,sTCe];exact qd _ _ _)
  ·exact dy _
 ·exact dy _
theorem aaw(sz:Nat)(s:AV)(new:List AV)(m:Nat):Cj (tc sz s new m H nx):=by
 unfold tc;split
 ·refine jJ ?_ (dy _);split
  ·refine jJ (Yf (dy _) fun _=>by rw[sTCe];exact qd _ _ _) (jJ ?_ (dy _));rw[appC_eq,sTCe,sTCe];exact qd _ _ _
  ·exact dy _
 ·exact Mc _ _ _ _
theorem BK(kp:Bool)(sz:Nat)(s:AV)(new:List AV)(m:Nat):Cj (wE kp sz s new m H nx):=by
 cases kp with
 |true=>exact aaw _ _ _ _
 |false=>exact Mc _ _ _ _
theorem avv{op:K3}(he:avu op=false):Cj (aOp orc op tm H nx):=by
 cases op with
 |callF f' ps=>cases he
 |callV pv ps=>cases he
 |dfr v l=>cases he
 |panic x=>cases he
 |recover=>cases he
 |strb x=>
  simp only[aOp];split
  ·exact qd _ _ _
  ·exact dy _
 |store n pa pv=>
  simp only[aOp];split
  ·refine jJ ?_ (dy _);split
   ·exact dy _
   ·exact Yf (dy _) fun _=>by rw[sTCe];exact qd _ _ _
   ·exact dy _
  ·exact dy _
 |mapupd sk pm pk pv=>
  simp only[aOp];split
  ·split
   ·split
    ·rw[sTCe];exact qd _ _ _
    ·exact dy _
   ·exact dy _
  ·exact dy _
 |append sz ps px=>
  simp only[aOp];split
  ·exact BK _ _ _ _ _
  ·refine jJ ?_ (dy _);split
   ·exact S8 (dy _) fun _=>by rw[yT (GD 9999)];exact BK _ _ _ _ _
   ·exact dy _
  ·exact jJ (BK _ _ _ _ _) (dy _)
  ·exact jJ (BK _ _ _ _ _) (dy _)
  ·exact dy _
 |new zs=>simp only[aOp];split;exact S9 _ _;exact dy _
 |box x=>simp only[aOp];split;exact S9 _ _;exact dy _
 |bslice sz len zs ps=>simp only[aOp];split;exact S9 _ _;exact dy _
 |mkmap=>simp only[aOp];split;exact S9 _ _;exact dy _
 |mkslice sz zs l c=>simp only[aOp];split;exact S9 _ _;exact dy _
 |_=>exact Vk rfl rfl
theorem Md{op:K3}{r:OR}(h:aOp orc op tm H nx=r)(hr:¬Cj r):avu op=true:=by
 cases he:avu op with
 |true=>rfl
 |false=>exact absurd (h ▸ avv (orc:=orc) (tm:=tm) (H:=H) (nx:=nx) he) hr
theorem ahd{f:Nat}{first cap:List AV}{v:Value}(h:aY ρ μ (.fn f first cap) v):∃vs ws,v=.func (.func f) vs ws∧aA ρ μ first vs.toList∧aA ρ μ cap ws.toList:=by cases h with|fn _ _ _ vs ws h h'=>exact⟨vs,ws,rfl,h,h'⟩
theorem tD {f : Nat} {fn : Func} (hf : P.funcs[f]? = some fn) (hb : fn.body.isSome = true) (hn : fn.name ≠ "runtime.NumGoroutine") (args : Array Value) : (callFunc f args).run P w = .ok (.enter f args) w := by
 have h1:fn.body.isNone=false:=by cases h:fn.body<;>simp_all
 have h2 : (fn.name == "runtime.NumGoroutine") = false := by simpa using hn
 simp only[callFunc,uD,run_program,qF,hf,h2,h1,UT,if_false,x4]
theorem adl{o:Oper}{op:K3}(hp:lB P nt o=some op)(hE:CO P ρ μ nt o.op.operands.toList tm ev){f:Nat}{l:List AV}(h:aOp orc op tm H nx=.call f l)
  {fn : Func} (hf : P.funcs[f]? = some fn) (hb : fn.body.isSome = true) (hn : fn.name ≠ "runtime.NumGoroutine") :
  ∃args,(Go.execOp ev o).run P w=.ok (.enter f args) w∧aA ρ μ l args.toList:=by
 have he:=Md h (by rintro(⟨_,_,_,e⟩|⟨_,e⟩)<;>cases e);obtain⟨dst,IE,ty,pos,after,guard⟩:=o;cases op<;>first|(cases he;done)|skip
 ·rename_i f' ps;obtain⟨c,fn',e0,hc,fu,_⟩:=mA hp;obtain⟨callee,args,argTypes⟩:=c;simp only at e0 hc fu;subst e0 hc;simp only[aOp]at h;split at h
  ·rename_i l' Ta;simp only[OR.call.injEq]at h;obtain⟨rfl,rfl⟩:=h;have hv:aY ρ μ (.fn f' [] []) (ev (.func f')):=hE (.func f') (by simp[Op.operands,Call.operands]) _ _ rfl rfl;obtain⟨vs,ws,e1,h1,h2⟩:=ahd hv;have hvs:vs=#[]:=by apply Array.ext';generalize vs.toList=x at h1;cases h1;rfl
   have hws:ws=#[]:=by apply Array.ext';generalize ws.toList=x at h2;cases h2;rfl
   subst hvs hws;refine⟨args.map ev,?_,?_⟩
   ·simp[Go.execOp,resolve,e1,Deferred.ofValue,invoke,tD hf hb hn]
   ·have:=nM (ev:=ev) fu Ta (hE.sub fun y hy=>by simp[Op.operands,Call.operands]at hy ⊢;exact .inr hy);simpa using this
  ·cases h
 ·rename_i pv ps;obtain⟨c,x,e0,hc,hx,fu⟩:=mA hp;obtain⟨callee,args,argTypes⟩:=c;simp only at e0 hc fu;subst e0 hc;simp only[aOp]at h;split at h
  ·rename_i f' first cap l' Xk Ta
   simp only[OR.call.injEq]at h;obtain⟨rfl,rfl⟩:=h;have hv:=hE x (by simp[Op.operands,Call.operands]) pv _ hx Xk;obtain⟨vs,ws,e1,h1,h2⟩:=ahd hv;refine⟨vs++args.map ev++ws,?_,?_⟩
   ·simp[Go.execOp,resolve,e1,Deferred.ofValue,invoke,tD hf hb hn]
   ·have:=nM (ev:=ev) fu Ta (hE.sub fun y hy=>by simp[Op.operands,Call.operands]at hy ⊢;exact .inr hy);have h3:aA ρ μ l' (args.map ev).toList:=by simpa using this
    simpa using(h1.append h3).append h2
  ·cases h
  ·cases h
 ·rename_i v l';simp only[aOp]at h;split at h<;>cases h
 ·rename_i x;simp only[aOp]at h;split at h<;>cases h
 ·cases h
theorem aij{o:Oper}{op:K3}(hp:lB P nt o=some op)(hE:CO P ρ μ nt o.op.operands.toList tm ev){k:Key}{l:List AV}(h:aOp orc op tm H nx=.yld k l) :
  ∃args lc,μ k=some lc∧(Go.execOp ev o).run P w=(Instr.yield lc.c args).run P w∧aA ρ μ l args.toList:=by
 have he:=Md h (by rintro(⟨_,_,_,e⟩|⟨_,e⟩)<;>cases e);obtain⟨dst,IE,ty,pos,after,guard⟩:=o;cases op<;>first|(cases he;done)|skip
 ·simp only[aOp]at h;split at h<;>cases h
 ·rename_i pv ps;obtain⟨c,x,e0,hc,hx,fu⟩:=mA hp;obtain⟨callee,args,argTypes⟩:=c;simp only at e0 hc fu;subst e0 hc;simp only[aOp]at h;split at h
  ·cases h
  ·rename_i k' l' Xk Ta;simp only[OR.yld.injEq]at h;obtain⟨rfl,rfl⟩:=h;have hv:=hE x (by simp[Op.operands,Call.operands]) pv _ hx Xk;generalize ra:ev x=xx at hv;cases hv with|yld _ lc r hm hr=>
   subst hr;refine⟨args.map ev,lc,hm,?_,?_⟩
   ·simp[Go.execOp,resolve,ra,Deferred.ofValue,invoke]
   ·have:=nM (ev:=ev) fu Ta (hE.sub fun y hy=>by simp[Op.operands,Call.operands]at hy ⊢;exact .inr hy);simpa using this
  ·cases h
 ·simp only[aOp]at h;split at h<;>cases h
 ·simp only[aOp]at h;split at h<;>cases h
 ·cases h
theorem aik{o:Oper}{op:K3}(hp:lB P nt o=some op)(hE:CO P ρ μ nt o.op.operands.toList tm ev){a:AV}(h:aOp orc op tm H nx=.pan a) :
  ∃v,(Go.execOp ev o).run P w=.halt (.panic v) w∧aY ρ μ a v:=by
 have he:=Md h (by rintro(⟨_,_,_,e⟩|⟨_,e⟩)<;>cases e);obtain⟨dst,IE,ty,pos,after,guard⟩:=o;cases op<;>first|(cases he;done)|skip
 ·simp only[aOp]at h;split at h<;>cases h
 ·simp only[aOp]at h;split at h<;>cases h
 ·simp only[aOp]at h;split at h<;>cases h
 ·rename_i px;obtain⟨x,e0,hx⟩:=mA hp;simp only at e0;subst e0;simp only[aOp]at h;split at h
  ·rename_i t u hu;simp only[OR.pan.injEq]at h;subst h;have hv:=hE x (by simp[Op.operands]) px _ hx hu;refine⟨ev x,?_,hv⟩;generalize ra:ev x=xx at hv;cases hv;simp[Go.execOp,ra,Instr.panic]
  ·cases h
 ·cases h
theorem ail{o:Oper}{op:K3}(hp:lB P nt o=some op)(hE:CO P ρ μ nt o.op.operands.toList tm ev){f:Nat}{l:List AV}(h:aOp orc op tm H nx=.dfr f l) :
  ∃c ws vs,o.op=.defer c∧(resolve ev c o.type).run P w=.ok ⟨.fn (.func f) ws,vs⟩ w∧(Go.execOp ev o).run P w=.ok (.defer ⟨.fn (.func f) ws,vs⟩) w∧aA ρ μ l (vs++ws).toList:=by
 have he:=Md h (by rintro(⟨_,_,_,e⟩|⟨_,e⟩)<;>cases e);obtain⟨dst,IE,ty,pos,after,guard⟩:=o;cases op<;>first|(cases he;done)|skip
 ·simp only[aOp]at h;split at h<;>cases h
 ·simp only[aOp]at h;split at h<;>cases h
 ·rename_i pv ps;obtain⟨c,x,e0,hc,hx,fu⟩:=mA hp;obtain⟨callee,args,argTypes⟩:=c;simp only at e0 hc fu;subst e0 hc;simp only[aOp]at h;split at h
  ·rename_i f' first cap l' Xk Ta
   simp only[OR.dfr.injEq]at h;obtain⟨rfl,rfl⟩:=h;have hv:=hE x (by simp[Op.operands,Call.operands]) pv _ hx Xk;obtain⟨vs,ws,e1,h1,h2⟩:=ahd hv;refine⟨_,ws,vs++args.map ev,rfl,?_,?_,?_⟩
   ·simp[resolve,e1,Deferred.ofValue]
   ·simp[Go.execOp,resolve,e1,Deferred.ofValue]
   ·have:=nM (ev:=ev) fu Ta (hE.sub fun y hy=>by simp[Op.operands,Call.operands]at hy ⊢;exact .inr hy);have h3:aA ρ μ l' (args.map ev).toList:=by simpa using this
    simpa using(h1.append h3).append h2
  ·cases h
 ·simp only[aOp]at h;split at h<;>cases h
 ·cases h
theorem UP{o:Oper}{op:K3}(hp:lB P nt o=some op)(h:aOp orc op tm H nx=.recover):(Go.execOp ev o).run P w=.ok .recover w:=by
 have he:=Md h (by rintro(⟨_,_,_,e⟩|⟨_,e⟩)<;>cases e);obtain⟨dst,IE,ty,pos,after,guard⟩:=o;cases op<;>first|(cases he;done)|skip
 ·simp only[aOp]at h;split at h<;>cases h
 ·simp only[aOp]at h;split at h<;>cases h
 ·simp only[aOp]at h;split at h<;>cases h
 ·simp only[aOp]at h;split at h<;>cases h
 ·obtain⟨c,e0,hc,fu⟩:=mA hp;obtain⟨callee,args,argTypes⟩:=c;simp only at e0 hc fu;subst e0 hc fu;simp[Go.execOp,resolve,invoke,Go.builtin]
end
def Qt(ops:Array Oper):(Nat→Bool)→List Nat→Prop
 |D,[]=>∀i,i<ops.size→D i=true
 |D,i ::r=>i<ops.size∧D i=false∧(∀o,ops[i]?=some o→∀e∈o.after.toList,Region.binds .any e=true→D e.on=true)∧Qt ops (fun j=>D j||j==i) r
theorem Qt.congr{ops:Array Oper}:∀{l:List Nat} {D D':Nat→Bool},(∀i,i<ops.size→D i=D' i)→(∀(i:Nat) (o:Oper),ops[i]?=some o→∀e∈o.after.toList,Region.binds .any e=true→e.on<ops.size)→Qt ops D l→Qt ops D' l
 | [],D,D',h,_,hv=>fun i hi=>by rw[←h i hi];exact hv i hi
 |i ::r,D,D',h,he,hv=>by obtain⟨h1,h2,h3,h4⟩:=hv;refine⟨h1,by rw[←h i h1];exact h2,fun o ho e hm hb=>?_,Qt.congr (fun j hj=>by rw[h j hj]) he h4⟩;rw[←h e.on (he i o ho e hm hb)];exact h3 o ho e hm hb
def Ng(ops:Array Oper):Prop:=∀(i:Nat) (o:Oper),ops[i]?=some o→∀e∈o.after.toList,Region.binds .any e=true→e.on<i
def unl(n:Nat)(listed:Array Bool):Nat:=(List.range n).countP fun i=>!listed.getD i true
theorem aid{n:Nat}{listed:Array Bool}(hs:listed.size=n){i:Nat}(hi:i<n)(hf:listed.getD i true=false):unl n listed=unl n (listed.setIfInBounds i true)+1:=by
 unfold unl;have key:∀(l:List Nat),l.Nodup→(∀j∈l,j<n)→l.countP (fun j=>!listed.getD j true)=l.countP (fun j=>!(listed.setIfInBounds i true).getD j true)+(if i∈l then 1 else 0):=by
  intro l
  induction l with
  |nil=>intro _ _;simp
  |cons x l ih=>
   intro Gg cH;have aCq:=List.nodup_cons.1 Gg;rw[List.countP_cons,List.countP_cons,ih aCq.2 (fun j hj=>cH j (by simp[hj]))];by_cases hx:x=i
   ·subst hx;have h1:(listed.setIfInBounds x true).getD x true=true:=by simp[Array.getD,hs,hi]
    simp only[hf,h1,aCq.1,if_false,M4,true_or,if_true];simp
   ·have h1:(listed.setIfInBounds i true).getD x true=listed.getD x true:=by simp only[Array.getD_eq_getD_getElem?];rw[zqn (fun e=>hx e.symm)]
    have h2:(i∈x ::l)↔i∈l:=by simp[Ne.symm hx]
    simp only[h1,h2];omega
 rw[key _ List.nodup_range (fun j hj=>by simpa using hj),if_pos (by simpa using hi)]
theorem asB{n:Nat}{listed:Array Bool}(h:0<unl n listed):∃i,i<n∧listed.getD i true=false∧∀j,j<i→listed.getD j true=true:=by
 unfold unl at h;rw[List.countP_pos_iff]at h;obtain⟨a,ha,hb⟩:=h;have ha:a<n:=by simpa using ha
 have hb:listed.getD a true=false:=by simpa using hb
 induction a using Nat.strongRecOn with
 |_ a ih=>
  by_cases Cq:∀j,j<a→listed.getD j true=true
  ·exact⟨a,ha,hb,Cq⟩
  ·simp only[Classical.not_forall]at Cq;obtain⟨j,hj,hjf⟩:=Cq;exact ih j hj (by simpa using Nat.lt_trans hj ha) (by simpa using hjf) (Nat.lt_trans hj ha) (by simpa using hjf)
theorem MX{ops:Array Oper}(hd:Ng ops):∀(fuel t:Nat) (listed:Array Bool) (acc:List Nat),listed.size=ops.size→unl ops.size listed=fuel→
  ∃r,Region.linearise.go .any ops fuel t listed acc=acc.reverse++r∧Qt ops (fun i=>listed.getD i true) r
 |0,t,listed,acc,hs,hu=>by
  refine⟨[],by simp[Region.linearise.go],fun i hi=>?_⟩;show listed.getD i true=true;cases h:listed.getD i true with
  |true=>rfl
  |false=>have:=aid hs hi h;omega
 |fuel+1,t,listed,acc,hs,hu=>by
  obtain⟨i0,hi0,hf0,aJV⟩:=asB (n:=ops.size) (listed:=listed) (by omega);simp only[Region.linearise.go];generalize hrs:(List.range ops.size).filter (fun i=>!listed.getD i true&&((ops[i]?).map (·.after.all fun e=>!Region.binds .any e||listed.getD e.on false)).getD false)=rs;have uB:∀i,i∈rs↔i<ops.size∧listed.getD i true=false∧∀o,ops[i]?=some o→∀e∈o.after.toList,Region.binds .any e=true→listed.getD e.on false=true:=by
   intro i;rw[←hrs,List.mem_filter];constructor
   ·rintro⟨h1,h2⟩;have hi:i<ops.size:=by simpa using h1
    simp only[nn,Bool.not_eq_true']at h2;refine⟨hi,h2.1,fun o ho e he hb=>?_⟩;have h3:=h2.2;rw[ho]at h3;simp only[Option.map_some,Option.getD_some,Array.all_eq_true_iff_forall_mem]at h3;have:=h3 e (by simpa using he);simpa[hb]using this
   ·rintro⟨hi,h1,h2⟩;refine⟨by simpa using hi,?_⟩;simp only[nn,Bool.not_eq_true'];refine⟨h1,?_⟩;have ho:ops[i]?=some ops[i]:=by simp[hi]
    rw[ho];simp only[Option.map_some,Option.getD_some,Array.all_eq_true_iff_forall_mem];intro e he;cases hb:Region.binds .any e with
    |false=>rfl
    |true=>simpa using h2 _ ho e (by simpa using he) hb
  have bT:i0∈rs:=by
   rw[uB];refine⟨hi0,hf0,fun o ho e he hb=>?_⟩;have cH:=hd i0 o ho e he hb;have h1:=aJV e.on cH;have:e.on<listed.size:=by omega
   simp only[Array.getD_eq_getD_getElem?,this,getElem?_pos,Option.getD_some]at h1 ⊢;exact h1
  have hlen:0<rs.length:=List.length_pos_of_mem bT;have cH:t%rs.length<rs.length:=Nat.mod_lt _ hlen;have Gb:rs[t%rs.length]?=some rs[t%rs.length]:=by simp[cH]
  rw[Gb];have Ae:rs[t%rs.length]∈rs:=DX cH;generalize rs[t%rs.length]=i at Ae;obtain⟨hi,hf,aJW⟩:=(uB i).1 Ae;have hun:=aid hs hi hf;obtain⟨r,hr,hv⟩:=MX hd fuel (t / rs.length) (listed.setIfInBounds i true) (i ::acc) (by simp[hs]) (by omega);refine⟨i ::r,?_,hi,hf,fun o ho e he hb=>?_,?_⟩
  ·show Region.linearise.go _ _ _ _ _ _=_;rw[hr];simp
  ·have h1:=aJW o ho e he hb;have cH:=hd i o ho e he hb;have:e.on<listed.size:=by omega
   simp only[Array.getD_eq_getD_getElem?,this,getElem?_pos,Option.getD_some]at h1 ⊢;exact h1
  ·refine Qt.congr ?_ (fun j o ho e he hb=>?_) hv
   ·intro j hj;by_cases Bh:j=i
    ·subst Bh;have:j<listed.size:=by omega
     simp[Array.getD,this]
    ·simp only[Array.getD_eq_getD_getElem?];rw[zqn (fun e=>Bh e.symm)];simp[Bh]
   ·have h1:=hd j o ho e he hb;have:j<ops.size:=by
     rcases Jh j ops.size with h'|h'
     ·exact h'
     ·rw[ZF h']at ho;cases ho
    omega
theorem Ux{ops:Array Oper}(hd:Ng ops)(t:Nat):Qt ops (fun _=>false) (Region.schedule true ops t):=by
 have hu:unl ops.size (Array.replicate ops.size false)=ops.size:=by
  unfold unl;rw[List.countP_eq_length.2 (fun a ha=>by
   have:a<ops.size:=by simpa using ha
   simp[Array.getD,this])]
  simp
 obtain⟨r,hr,hv⟩:=MX hd ops.size t (Array.replicate ops.size false) [] (by simp) hu;have:Region.schedule true ops t=r:=by simp[Region.schedule,Region.linearise,hr]
 rw[this];refine Qt.congr (fun i hi=>by simp[Array.getD,hi]) (fun j o ho e he hb=>?_) hv;have h1:=hd j o ho e he hb;have:j<ops.size:=by
  rcases Jh j ops.size with h'|h'
  ·exact h'
  ·rw[ZF h']at ho;cases ho
 omega
section
variable{P:Program}{fr:Frame}{cs:List Frame}{w w':World}{k:List Item}
def G1(fr:Frame)(cs:List Frame):Goroutine:={frame:=fr,callers:=cs,status:=.running,dying:=none}
theorem ajo(hm:fr.mode=.run):stepG P true (G1 fr cs) w=stepG.exec P true true fr cs none w:=by simp[stepG,G1,hm]
theorem Yw(hm:fr.mode≠.run):stepG P true (G1 fr cs) w=unwind P true fr cs none w:=by
 cases h:fr.mode with
 |run=>exact absurd h hm
 |returning=>simp[stepG,G1,h]
 |panicking c=>simp[stepG,G1,h]
theorem fe{jk:Frame}{Ik:List Frame}(hm:fr.mode=.run)(h:(stepG.exec P true true fr cs none w).bare=.go (G1 jk Ik) w'):step P (lone fr cs w)=.next (lone jk Ik w'):=
 step_lone_go (by have:=ajo (P:=P) (cs:=cs) (w:=w) hm;simp only[G1]at this h;rw[this];exact h)
theorem N4{jk:Frame}{Ik:List Frame}(hm:fr.mode≠.run)(h:(unwind P true fr cs none w).bare=.go (G1 jk Ik) w'):step P (lone fr cs w)=.next (lone jk Ik w'):=
 step_lone_go (by have:=Yw (P:=P) (cs:=cs) (w:=w) hm;simp only[G1]at this h;rw[this];exact h)
theorem arB(hm:fr.mode=.run)(ht:fr.todo=.code .skip ::k):step P (lone fr cs w)=.next (lone {fr with todo:=k} cs w):=
 fe hm (by simp[stepG.exec,ht,G1])
theorem awF{a b:Code}(hm:fr.mode=.run)(ht:fr.todo=.code (.seq a b) ::k):step P (lone fr cs w)=.next (lone {fr with todo:=.code a ::.code b ::k} cs w):=
 fe hm (by simp[stepG.exec,ht,G1])
theorem ahx{c:Operand}{a b:Code}{t:Bool}(hm:fr.mode=.run)(ht:fr.todo=.code (.cond c a b) ::k)(hc:fr.eval c=.bool t) :
  step P (lone fr cs w)=.next (lone {fr with todo:=.code (if t then a else b) ::k} cs w):=
 fe hm (by simp[stepG.exec,ht,G1,hc])
theorem ank{id:Nat}{c:Code}(hm:fr.mode=.run)(ht:fr.todo=.code (.block id c) ::k):step P (lone fr cs w)=.next (lone {fr with todo:=.code c ::.inBlock id ::k} cs w):=
 fe hm (by simp[stepG.exec,ht,G1])
theorem ad7{id:Nat}(hm:fr.mode=.run)(ht:fr.todo=.inBlock id ::k):step P (lone fr cs w)=.next (lone {fr with todo:=k} cs w):=
 fe hm (by simp[stepG.exec,ht,G1])
theorem anl{c:Code}(hm:fr.mode=.run)(ht:fr.todo=.code (.scope c) ::k):step P (lone fr cs w)=.next (lone {fr with todo:=.code c ::.inScope c ::k} cs w):=
 fe hm (by simp[stepG.exec,ht,G1])
theorem anm{i:Nat}(hm:fr.mode=.run)(ht:fr.todo=.code (.label i) ::k):step P (lone fr cs w)=.next (lone {fr with todo:=k} cs w):=
 fe hm (by simp[stepG.exec,ht,G1])
theorem ad8{c:Code}(hm:fr.mode=.run)(ht:fr.todo=.inScope c ::k):step P (lone fr cs w)=.next (lone {fr with todo:=k} cs w):=
 fe hm (by simp[stepG.exec,ht,G1])
theorem arC{c:Code}(hm:fr.mode=.run)(ht:fr.todo=.code (.loop c) ::k):step P (lone fr cs w)=.next (lone {fr with todo:=.code c ::.inLoop c ::k} cs w):=
 fe hm (by simp[stepG.exec,ht,G1])
theorem ai5{c:Code}(hm:fr.mode=.run)(ht:fr.todo=.inLoop c ::k):step P (lone fr cs w)=.next (lone {fr with todo:=.code c ::.inLoop c ::k} cs w):=
 fe hm (by simp[stepG.exec,ht,G1])
theorem arD{id:Nat}{k':List Item}(hm:fr.mode=.run)(ht:fr.todo=.code (.exit id) ::k)(he:exitTo id k=some k'):step P (lone fr cs w)=.next (lone {fr with todo:=k'} cs w):=
 fe hm (by simp[stepG.exec,ht,G1,he])
theorem ajp{id:Nat}{ops:Array Oper}(hm:fr.mode=.run)(ht:fr.todo=.code (.region id ops false) ::k) :
  step P (lone fr cs w)=.next (lone {fr with todo:=.inRegion ops (List.range ops.size) ::k} cs w):=
 fe hm (by simp[stepG.exec,ht,G1])
theorem arE{id:Nat}{ops:Array Oper}(hm:fr.mode=.run)(ht:fr.todo=.code (.region id ops true) ::k) :
  ∃t,step P (lone fr cs w)=.next (lone {fr with todo:=.inRegion ops (Region.schedule (P.follows .mixedOrders) ops t) ::k} cs {w with drawn:=w.drawn+1}):=
 ⟨w.tape w.drawn (.order fr.fn id),fe hm (by simp[stepG.exec,ht,G1,choose,Sem.run,Question.forced,Question.cut])⟩
theorem JO{ops:Array Oper}(hm:fr.mode=.run)(ht:fr.todo=.inRegion ops [] ::k):step P (lone fr cs w)=.next (lone {fr with todo:=k} cs w):=
 fe hm (by simp[stepG.exec,ht,G1])
theorem awG(hm:fr.mode=.run)(ht:fr.todo=[])(hr:fr.roundOf=none):step P (lone fr cs w)=.next (lone {fr with mode:=.returning} cs w):=
 fe hm (by simp[stepG.exec,ht,G1,hr])
theorem awH(hm:fr.mode=.run)(ht:fr.todo=.code .ret ::k)(hr:fr.roundOf=none):step P (lone fr cs w)=.next (lone {fr with mode:=.returning} cs w):=
 fe hm (by simp[stepG.exec,ht,G1,hr])
variable{ops:Array Oper}{i:Nat}{rest:List Nat}{o:Oper}
theorem KC(hm:fr.mode=.run)(ht:fr.todo=.inRegion ops (i ::rest) ::k)(ho:ops[i]?=some o)(hw:Region.wanted o (yielded ops fr.tmps)=false) :
  step P (lone fr cs w)=.next (lone (fr.finish undef) cs w):=
 fe hm (by simp[stepG.exec,ht,G1,ho,hw])
def gG:Op→Bool
 |.defer _=>true
 |_=>false
theorem BR(ht:fr.todo=.inRegion ops (i ::rest) ::k)(ho:ops[i]?=some o)(hw:Region.wanted o (yielded ops fr.tmps)=true)(hd:fr.roundOf=none∨gG o.op=false) :
  stepG.exec P true true fr cs none w=stepG.apply P true fr cs none (Go.execOp fr.eval o) w:=by
 simp only[stepG.exec,ht,ho,Option.map_some,Option.getD_some,hw,if_true,stepG.oper,Frame.oper?];cases hr:fr.roundOf with
 |none=>rfl
 |some l=>rw[hr]at hd;have hd:gG o.op=false:=hd.resolve_left (by simp);cases qE:o.op<;>first|rfl|(rw[qE]at hd;cases hd)
theorem Yr{v:Value}(hm:fr.mode=.run)(ht:fr.todo=.inRegion ops (i ::rest) ::k)(ho:ops[i]?=some o)(hw:Region.wanted o (yielded ops fr.tmps)=true)(hd:fr.roundOf=none∨gG o.op=false)
  (h:(Go.execOp fr.eval o).run P w=.ok (.value v) w'):step P (lone fr cs w)=.next (lone (fr.finish v) cs w'):=
 fe hm (by rw[BR ht ho hw hd];simp[stepG.apply,h,G1])
theorem ahy(hm:fr.mode=.run)(ht:fr.todo=.inRegion ops (i ::rest) ::k)(ho:ops[i]?=some o)(hw:Region.wanted o (yielded ops fr.tmps)=true)(hd:fr.roundOf=none∨gG o.op=false)
  (h:(Go.execOp fr.eval o).run P w=.ok .skip w'):step P (lone fr cs w)=.next (lone (fr.finish undef) cs w'):=
 fe hm (by rw[BR ht ho hw hd];simp[stepG.apply,h,G1])
theorem akC{f:FuncId}{args:Array Value}(hm:fr.mode=.run)(ht:fr.todo=.inRegion ops (i ::rest) ::k)(ho:ops[i]?=some o)(hw:Region.wanted o (yielded ops fr.tmps)=true)(hd:fr.roundOf=none∨gG o.op=false)
  (h:(Go.execOp fr.eval o).run P w=.ok (.enter f args) w'):step P (lone fr cs w)=.next (lone (Frame.enter P f args .normal) (fr ::cs) w'):=
 fe hm (by rw[BR ht ho hw hd];simp[stepG.apply,h,G1,ht])
theorem akD{l:Nat}{f:FuncId}{tmps:Array Value}{as bd:Code}(hm:fr.mode=.run)(ht:fr.todo=.inRegion ops (i ::rest) ::k)(ho:ops[i]?=some o)(hw:Region.wanted o (yielded ops fr.tmps)=true)(hd:fr.roundOf=none∨gG o.op=false)
  (h:(Go.execOp fr.eval o).run P w=.ok (.round l f tmps as bd) w'):step P (lone fr cs w)=.next (lone (Frame.round l f tmps as bd .normal) (fr ::cs) w'):=
 fe hm (by rw[BR ht ho hw hd];simp[stepG.apply,h,G1])
theorem akE{v:Value}(hm:fr.mode=.run)(ht:fr.todo=.inRegion ops (i ::rest) ::k)(ho:ops[i]?=some o)(hw:Region.wanted o (yielded ops fr.tmps)=true)(hd:fr.roundOf=none∨gG o.op=false)
  (h:(Go.execOp fr.eval o).run P w=.halt (.panic v) w'):step P (lone fr cs w)=.next (lone {fr with mode:=.panicking [{v,recovered:=false}]} cs w'):=
 fe hm (by rw[BR ht ho hw hd];simp[stepG.apply,h,G1,Frame.raise,hm])
theorem akF{d:Deferred}(hm:fr.mode=.run)(ht:fr.todo=.inRegion ops (i ::rest) ::k)(ho:ops[i]?=some o)(hw:Region.wanted o (yielded ops fr.tmps)=true)(hd:fr.roundOf=none∨gG o.op=false)
  (h:(Go.execOp fr.eval o).run P w=.ok (.defer d) w'):step P (lone fr cs w)=.next (lone ({fr with defers:=d ::fr.defers}.finish undef) cs w'):=
 fe hm (by rw[BR ht ho hw hd];simp[stepG.apply,h,G1])
theorem PQ{v:Value}{Ik:List Frame}(hm:fr.mode=.run)(ht:fr.todo=.inRegion ops (i ::rest) ::k)(ho:ops[i]?=some o)(hw:Region.wanted o (yielded ops fr.tmps)=true)(hr:fr.roundOf=none)
  (h:(Go.execOp fr.eval o).run P w=.ok .recover w') (adn:tryRecover fr cs=some (v,Ik)):step P (lone fr cs w)=.next (lone (fr.finish v) Ik w'):=
 fe hm (by rw[BR ht ho hw (.inl hr)];simp[stepG.apply,h,G1,hr,adn])
theorem PR(hm:fr.mode=.run)(ht:fr.todo=.inRegion ops (i ::rest) ::k)(ho:ops[i]?=some o)(hw:Region.wanted o (yielded ops fr.tmps)=true)(hr:fr.roundOf=none)
  (h:(Go.execOp fr.eval o).run P w=.ok .recover w') (adn:tryRecover fr cs=none):step P (lone fr cs w)=.next (lone (fr.finish .nilIface) cs w'):=
 fe hm (by rw[BR ht ho hw (.inl hr)];simp[stepG.apply,h,G1,hr,adn])
end
section
variable{P:Program}{fr c:Frame}{cs:List Frame}{w w':World}{k:List Item}{fn:Func}
theorem ai6{v:Value}(hm:fr.mode=.returning)(hd:fr.defers=[])(hk:fr.kind=.normal)(hf:P.funcs[fr.fn]?=some fn)(hr:(results fn fr.tmps).run P w=.ok v w) :
  step P (lone fr (c ::cs) w)=.next (lone (c.finish v) cs w):=
 N4 (by simp[hm]) (by simp[unwind,hd,hm,hf,hr,doReturn,hk,G1])
theorem Kx{v:Value}(hm:fr.mode=.returning)(hd:fr.defers=[])(hk:fr.kind=.deferred)(hf:P.funcs[fr.fn]?=some fn)(hr:(results fn fr.tmps).run P w=.ok v w) :
  step P (lone fr (c ::cs) w)=.next (lone {c with mode:=settle c.mode} cs w):=
 step_going_returned (fr:=fr) hk ⟨hm,hd,fn,hf,hr⟩
theorem aaK{chain:List PanicEntry}(hm:fr.mode=.panicking chain)(hd:fr.defers=[])(hf:P.funcs[fr.fn]?=some fn) :
  step P (lone fr (c ::cs) w)=.next (lone (c.raise chain) cs w):=
 N4 (by simp[hm]) (by simp[unwind,hd,hm,Frame.catches,hf,G1])
theorem aaJ{d:Deferred}{ds:List Deferred}{fv:Fn}{cap args:Array Value}{f:FuncId}(hm:fr.mode≠.run)(hd:fr.defers=d ::ds)(ht:d.target=.fn fv cap)
  (hi:(invoke d.target d.args).run P w=.ok (.enter f args) w):step P (lone fr cs w)=.next (lone (Frame.enter P f args .deferred) ({fr with defers:=ds} ::cs) w):=
 step_defer hm hd ht hi
theorem Yk{b:Nat}{ds BS:List Deferred}(hm:fr.mode≠.run)(hd:fr.defers=⟨.collected b,#[]⟩ ::ds)(h:(Instr.takeDeferred b).run P w=.ok BS w') :
  step P (lone fr cs w)=.next (lone {fr with defers:=BS++ds} cs w'):=
 N4 hm (by simp[unwind,hd,h,G1])
theorem TP{l:Nat}{v:Value}(hm:fr.mode=.run)(ht:fr.todo=[])(hr:fr.roundOf=some l)(hk:fr.kind=.normal)(h:(Instr.endRound l none).run P w=.ok v w') :
  step P (lone fr (c ::cs) w)=.next (lone (c.finish v) cs w'):=
 fe hm (by simp[stepG.exec,ht,hr,h,doReturn,hk,G1])
theorem YI{l:Nat}{v:Value}(hm:fr.mode=.run)(ht:fr.todo=.code .ret ::k)(hr:fr.roundOf=some l)(hk:fr.kind=.normal)(h:(Instr.endRound l (some .ret)).run P w=.ok v w') :
  step P (lone fr (c ::cs) w)=.next (lone (c.finish v) cs w'):=
 fe hm (by simp[stepG.exec,ht,hr,h,doReturn,hk,G1])
theorem VC{l id:Nat}{v:Value}(hm:fr.mode=.run)(ht:fr.todo=.code (.exit id) ::k)(he:exitTo id k=none)(hr:fr.roundOf=some l)(hk:fr.kind=.normal)(h:(Instr.endRound l (some (.exit id))).run P w=.ok v w') :
  step P (lone fr (c ::cs) w)=.next (lone (c.finish v) cs w'):=
 fe hm (by simp[stepG.exec,ht,he,hr,h,doReturn,hk,G1])
theorem Vm{l:Nat}(hm:fr.mode=.run)(ht:fr.todo=.beginRound ::k)(hr:fr.roundOf=some l)(h:(Instr.beginRound l).run P w=.ok () w') :
  step P (lone fr cs w)=.next (lone {fr with todo:=k} cs w'):=
 fe hm (by simp[stepG.exec,ht,hr,stepG.apply,h,G1,Frame.finish])
theorem amG{l:Nat}{j:Option Code}(hm:fr.mode=.run)(ht:fr.todo=.endRangeFunc l ::k)(h:(Instr.endLoop l).run P w=.ok j w') :
  step P (lone fr cs w)=.next (lone {fr with todo:=(j.map Item.code).toList++k} cs w'):=
 fe hm (by simp[stepG.exec,ht,h,G1])
theorem arZ (ev : Operand → Value) {f : Operand} {g : FuncId} {first cap : Array Value} (hev : ev f = .func (.func g) first cap) {y : Value} (hy : ev (.const y) = y) {fn' : Func} (hf : P.funcs[g]? = some fn') (hb : fn'.body.isSome = true) (hn : fn'.name ≠ "runtime.NumGoroutine") :
  (do let d ←resolve ev {callee:=.value f,args:=#[.const y],argTypes:=#[]} 0;invoke d.target d.args:Sem Next).run P w=.ok (.enter g (first ++ #[y]++cap)) w:=by
 simp[resolve,hev,Deferred.ofValue,invoke,hy,tD hf hb hn]
theorem YJ{f:Operand}{params:Array Tmp}{as bd:Code}{l:Nat}{mk:List Deferred}{w1:World}{g:FuncId}{first cap:Array Value}{fn':Func}(hm:fr.mode=.run)(ht:fr.todo=.code (.rangeFunc f params as bd) ::k)(hr:fr.roundOf=none)
  (h:(Instr.enterLoop fr.fn fr.tmps params as bd none).run P w=.ok (l,mk) w1) (hev:fr.eval f=.func (.func g) first cap)
  (hf : P.funcs[g]? = some fn') (hb : fn'.body.isSome = true) (hn : fn'.name ≠ "runtime.NumGoroutine") :
  step P (lone fr cs w)=.next (lone (Frame.enter P g (first ++ #[.func (.yield l) #[] #[]]++cap) .normal) ({fr with todo:=.inRangeFunc l ::k,defers:=mk++fr.defers} ::cs) w1):=by
 obtain⟨fn0,at9,aMT,ahT,aMU,aua,aIx⟩:=fr;simp only at hm ht hr h hev;subst hm ht hr;refine fe rfl ?_;have aIy:({fn:=fn0,tmps:=at9,todo:=Item.inRangeFunc l ::k,defers:=mk++ahT,mode:=.run,kind:=aua}:Frame).eval f=.func (.func g) first cap:=by rw[←hev];cases f<;>rfl
 have PN:=arZ (w:=w1) ({fn:=fn0,tmps:=at9,todo:=Item.inRangeFunc l ::k,defers:=mk++ahT,mode:=.run,kind:=aua}:Frame).eval aIy (y:=.func (.yield l) #[] #[]) rfl hf hb hn;simp only[stepG.exec,Sem.runT_eq,h,GStep.bare_after];simp only[stepG.apply,Sem.runT_eq,PN,GStep.bare_after];simp[G1]
end
structure Wd(P:Program)(nt:Nat)(ops:Array Oper)(pl:List aB)(bf:List Nat):Prop where
 yS:qa P nt ops (List.range ops.size)=some pl
 asS:QE ops bf=true
 azl:Xf ops bf=true
section
variable{P:Program}{ρ:Nat→Int}{nt:Nat}{ops:Array Oper}{pl:List aB}{bf:List Nat}
theorem Kb:∀{l:List Nat} {pl:List aB},qa P nt ops l=some pl→pl.length=l.length∧∀(q i:Nat),l[q]?=some i→∃o po,ops[i]?=some o∧Oq P nt ops o=some po∧pl[q]?=some po
 | [],pl,h=>by simp only[qa,fa]at h;subst h;exact⟨rfl,fun q i hq=>by simp at hq⟩
 |j ::l,pl,h=>by
  simp only[qa]at h;split at h
  ·cases h
  ·rename_i o ho;split at h
   ·rename_i a r h1 h2;cases h;obtain⟨e1,e2⟩:=Kb h2;refine⟨by simp[e1],fun q i hq=>?_⟩;cases q with
    |zero=>simp at hq;subst hq;exact⟨o,a,ho,h1,by simp⟩
    |succ q=>simpa using e2 q i (by simpa using hq)
   ·cases h
theorem Wd.at(R:Wd P nt ops pl bf){i:Nat}(hi:i<ops.size):∃o po,ops[i]?=some o∧Oq P nt ops o=some po∧pl[i]?=some po:=by obtain⟨_,h⟩:=Kb R.yS;exact h i i (by simp[hi])
theorem Wd.at'(R:Wd P nt ops pl bf){i:Nat}{po:aB}(h:pl[i]?=some po):i<ops.size:=by
 obtain⟨h1,_⟩:=Kb R.yS;rcases Jh i ops.size with h'|h'
 ·exact h'
 ·rw[zqo (by rw[h1];simpa using h')]at h;cases h
theorem Wd.azm(R:Wd P nt ops pl bf){i:Nat}{o:Oper}(ho:ops[i]?=some o){e:Edge}(he:e∈o.after.toList)(hb:Region.binds .any e=true):e.on<i∧hasB (im bf i) e.on=true:=by
 have hi:i<ops.size:=by
  rcases Jh i ops.size with h'|h'
  ·exact h'
  ·rw[ZF h']at ho;cases ho
 have h:=R.asS;unfold QE at h;rw[AQ]at h;have h:=h i (by simpa using hi);rw[ho]at h;simp only[nn,AQ]at h;have h:=h.1 e he;simp only[hb,Bool.not_true,Bool.false_or,nn,bltN_eq,decide_eq_true_eq]at h;exact h
theorem Wd.down(R:Wd P nt ops pl bf):Ng ops:=fun _ _ ho _ he hb=>(R.azm ho he hb).1
theorem Wd.pred(R:Wd P nt ops pl bf){i:Nat}{o:Oper}(ho:ops[i]?=some o){j:Nat}(hj:j<ops.size)(hb:hasB (im bf i) j=true) :
  ∃e∈o.after.toList,Region.binds .any e=true∧(e.on=j∨hasB (im bf e.on) j=true):=by
 have hi:i<ops.size:=by
  rcases Jh i ops.size with h'|h'
  ·exact h'
  ·rw[ZF h']at ho;cases ho
 have h:=R.asS;unfold QE at h;rw[AQ]at h;have h:=h i (by simpa using hi);rw[ho]at h;simp only[nn,AQ]at h;have h:=h.2 j (by simpa using hj);simp only[hb,Bool.not_true,Bool.false_or,List.any_eq_true,nn,Bool.or_eq_true,beqN_eq,decide_eq_true_eq]at h;exact h
def Nh(ops:Array Oper)(D:Nat→Bool):Prop:=∀(i:Nat) (o:Oper),D i=true→ops[i]?=some o→∀e∈o.after.toList,Region.binds .any e=true→D e.on=true
theorem Wd.closed(R:Wd P nt ops pl bf){D:Nat→Bool}(hD:Nh ops D):∀(i:Nat) (o:Oper),ops[i]?=some o→(∀e∈o.after.toList,Region.binds .any e=true→D e.on=true)→∀j,j<ops.size→hasB (im bf i) j=true→D j=true:=by
 intro i
 induction i using Nat.strongRecOn with
 |_ i ih=>
  intro o ho hp j hj hb;obtain⟨e,he,heb,hor⟩:=R.pred ho hj hb;have cH:=(R.azm ho he heb).1;have hi:i<ops.size:=by
   rcases Jh i ops.size with h'|h'
   ·exact h'
   ·rw[ZF h']at ho;cases ho
  rcases hor with h|h
  ·rw[←h];exact hp e he heb
  ·have EK:ops[e.on]?=some ops[e.on]:=by
    have:e.on<ops.size:=by omega
    simp[this]
   exact ih e.on cH _ EK (fun e' he' ir=>hD e.on _ (hp e he heb) EK e' he' ir) j hj h
theorem Wd.slot(R:Wd P nt ops pl bf){i j t:Nat}{o:Oper}(ho:ops[i]?=some o)(hj:qc ops j=some t) :
  (i=j→t∉nv ops o)∧(i≠j→o.dst≠some t∧(t∈nv ops o→hasB (im bf i) j=true∨hasB (im bf j) i=true)):=by
 have hi:i<ops.size:=by
  rcases Jh i ops.size with h'|h'
  ·exact h'
  ·rw[ZF h']at ho;cases ho
 have bY:j<ops.size:=by
  rcases Jh j ops.size with h'|h'
  ·exact h'
  ·simp[qc,ZF h']at hj
 have h:=R.azl;unfold Xf at h;rw[AQ]at h;have h:=h i (by simpa using hi);rw[ho]at h;simp only[AQ]at h;have h:=h j (by simpa using bY);rw[hj]at h;simp only[beqN_eq]at h;constructor
 ·rintro rfl;simpa using h
 ·intro bT;simp only[bT,decide_false,cond_false,nn,Bool.not_eq_true',Bool.or_eq_true]at h;refine⟨by simpa using h.1,fun hm=>?_⟩;have h2:=h.2;have hc:(nv ops o).contains t=true:=by simpa using hm
  rw[hc]at h2;simpa using h2
theorem adq{j t:Nat}(hj:qc ops j=some t):∃o,ops[j]?=some o∧o.dst=some t:=by
 unfold qc at hj;cases h:ops[j]? with
 |none=>rw[h]at hj;cases hj
 |some o=>rw[h]at hj;exact⟨o,rfl,by simpa using hj⟩
theorem Wd.QG(R:Wd P nt ops pl bf){i j t:Nat}(hi:qc ops i=some t)(hj:qc ops j=some t):i=j:=by
 rcases Nat.decEq i j with bT|h
 ·obtain⟨o,ho,hd⟩:=adq hi;exact absurd hd ((R.slot ho hj).2 bT).1
 ·exact h
end
theorem Lf(m i j:Nat):hasB (K7 m i) j=(hasB m j||decide (i=j)):=by unfold hasB K7;rw[Nat.testBit_or,Nat.testBit_two_pow]
theorem Im(j:Nat):hasB 0 j=false:=by simp[hasB]
theorem Io{n a b:Nat}:adj n a b=true↔∀j,j<n→hasB a j=true→hasB b j=true:=by
 unfold adj;rw[AQ];constructor
 ·intro h j hj ha;have:=h j (by simpa using hj);simpa[ha]using this
 ·intro h j hj;have hj:j<n:=by simpa using hj
  cases ha:hasB a j with
  |false=>rfl
  |true=>simpa using h j hj ha
theorem sj{nt i:Nat}{k:Key}(h:Je nt i=some k):k.toNat=i∧i<nt:=by unfold Je at h;replace h:=aX h;obtain⟨hc,h⟩:=h;simp only[fa]at h;subst h;simp only[nn,bltN_eq,decide_eq_true_eq]at hc;exact⟨qX hc.2,hc.1⟩
theorem j5{P:Program}{nt:Nat}{ops:Array Oper}{o:Oper}{po:aB}(h:Oq P nt ops o=some po) :
  lB P nt o=some po.op∧Q6 nt ops o.guard=some po.guard∧((o.dst=none∧po.dst=none)∨∃k,o.dst=some k.toNat∧po.dst=some k∧k.toNat<nt):=by
 unfold Oq at h;split at h
 ·rename_i op g h1 h2;split at h
  ·rename_i hd;cases h;exact⟨h1,h2,.inl ⟨hd,rfl⟩⟩
  ·rename_i d hd;split at h
   ·rename_i k hk;cases h;obtain⟨e,cH⟩:=sj hk;exact⟨h1,h2,.inr ⟨k,by rw[e];exact hd,rfl,by omega⟩⟩
   ·cases h
 ·cases h
noncomputable def dO(p:List (Nat×Key×ag))(h:T ag):T ag:=p.foldl (fun h x=>au x.2.1 (some x.2.2) h) h
theorem Ia{R:Type}:∀(p:List (Nat×Key×ag)) (h:T ag) (c:T ag→R),GP p h c=c (dO p h)
 | [],h,c=>rfl
 |x ::p,h,c=>by show xZ x.2.1 (some x.2.2) h (fun h=>GP p h c)=_;rw[sTCe,Ia p];rfl
theorem Ak{R:Type}(l:List Nat):∀(p:List (Nat×Key×ag)) (h:T ag) (c:List (Nat×Key×ag)→T ag→R),Gs l p h c=c (p.filter fun x=>!(memN x.1 l)) (dO (p.filter fun x=>memN x.1 l) h)
 | [],h,c=>rfl
 |x ::p,h,c=>by
  show(bif memN x.1 l then xZ x.2.1 (some x.2.2) h (fun h=>Gs l p h c)else Gs l p h fun p h=>c (x ::p) h)=_;cases hm:memN x.1 l with
  |true=>simp only[cond_true,sTCe,Ak l p,List.filter_cons,hm,Bool.not_true,UT,if_false,if_true];rfl
  |false=>simp only[cond_false,Ak l p,List.filter_cons,hm,Bool.not_false,UT,if_false,if_true]
theorem MO{i:Nat}:∀{l:List Nat},memN i l=true→i∈l
 | [],h=>by cases h
 |j ::l,h=>by
  simp only[memN]at h;cases hb:Nat.beq i j with
  |true=>have:=qX hb;simp[this]
  |false=>rw[hb]at h;exact List.mem_cons_of_mem _ (MO h)
theorem Ug:∀{p:List (Nat×Key×ag)} {h:T ag} {b:Key} {B:ag},ae b (dO p h)=some B→ae b h=some B∨∃x∈p,x.2.1=b∧x.2.2=B
 | [],_,_,_,e=>.inl e
 |x ::p,h,b,B,e=>by
  rcases Ug (p:=p) e with h1|⟨y,h1,h2⟩
  ·by_cases hb:b=x.2.1
   ·subst hb;rw[gTSm]at h1;cases h1;exact .inr ⟨x,by simp,rfl,rfl⟩
   ·rw[aG _ _ _ _ hb]at h1;exact .inl h1
  ·exact .inr ⟨y,List.mem_cons_of_mem _ h1,h2⟩
theorem aj3{l:List Nat}{aq:List (Nat×Key×ag)}{h:T ag}{b:Key}{B:ag}(e:ae b (zF l aq h)=some B):ae b h=some B∨∃j,(j,b,B)∈aq∧j∈l:=by
 unfold zF at e;split at e
 ·exact .inl e
 ·rw[Ak]at e;rcases Ug e with h1|⟨⟨j,k,B'⟩,h1,h2,h3⟩
  ·exact .inl h1
  ·obtain⟨h4,h5⟩:=List.mem_filter.1 h1;simp only at h2 h3;subst h2 h3;exact .inr ⟨j,h4,MO h5⟩
theorem acK{bf:List Nat}:∀{lD:List (Nat×List Nat)},CJ bf lD=true→∀i j,j∈F4 i lD→hasB (im bf i) j=true
 | [],_,i,j,h=>by cases h
 |(q,l) ::r,ha,i,j,h=>by
  simp only[CJ,nn,AQ]at ha;simp only[F4]at h;cases hb:Nat.beq i q with
  |true=>rw[hb]at h;have:=qX hb;subst this;exact ha.1 j h
  |false=>rw[hb]at h;exact acK ha.2 i j h
def VOk(bf:List Nat)(H:T ag)(aq:List (Nat×Key×ag))(i:Nat)(V:T ag):Prop:=∀b B,ae b V=some B→ae b H=some B∨∃j,(j,b,B)∈aq∧hasB (im bf i) j=true
theorem VOk.refl(bf:List Nat)(H:T ag)(aq:List (Nat×Key×ag))(i:Nat):VOk bf H aq i H:=fun _ _ h=>.inl h
theorem VOk.view{bf:List Nat}{lD:List (Nat×List Nat)}(ha:CJ bf lD=true)(H:T ag)(aq:List (Nat×Key×ag))(i:Nat):VOk bf H aq i (zF (F4 i lD) aq H):=by
 intro b B e;rcases aj3 e with h|⟨j,h1,h2⟩
 ·exact .inl h
 ·exact .inr ⟨j,h1,acK ha i j h2⟩
structure Gh where
 L:Nat
 D:Nat→Bool
 a0:Key→Option AV
 val:Nat→Option AV
section
variable(P:Program)(ρ:Nat→Int)(orc:jZ)(nt:Nat)(ops:Array Oper)(pl:List aB)(bf:List Nat)
def Y5(g:Gh)(i:Nat)(k:Key)(a:AV):Prop:=
 (∃j,qc ops j=some k.toNat∧hasB (im bf i) j=true∧g.val j=some a)∨((∀j,qc ops j=some k.toNat→hasB (im bf j) i=true)∧g.a0 k=some a)
def aa1(g:Gh)(i:Nat)(pt:T AV):Prop:=∀o,ops[i]?=some o→∀(k:Key) a,k.toNat∈nv ops o→ae k pt=some a→Y5 ops bf g i k a
inductive Ah(H:T ag)(g:Gh)(aq:List (Nat×Key×ag))(Fa:Nat→Prop)(i:Nat):Prop
 |skip (po:aB) (pt:T AV) (h1:pl[i]?=some po) (h2:aa1 ops bf g i pt) (h3:dp po.guard pt=some false) (h4:g.val i=some (.tuple [])) (h5:∀x∈aq,x.1≠i):Ah H g aq Fa i
 |light (po:aB) (pt:T AV) (v:AV) (h1:pl[i]?=some po) (h2:aa1 ops bf g i pt) (h3:dp po.guard pt=some true) (hk:uY pl i=0) (h4:¬Fa i→∃V,lightOp orc po.op pt V=some v∧VOk bf H aq i V) (h5:g.val i=some v)
   (h6:∀x∈aq,x.1≠i):Ah H g aq Fa i
 |alloc (po:aB) (pt:T AV) (f:Key→AV) (B:ag) (k:Key) (h1:pl[i]?=some po) (h2:aa1 ops bf g i pt) (h3:dp po.guard pt=some true) (hk:uY pl i=1) (h4:allocOp po.op pt=some (f,B))
   (h5:g.val i=some (f k)) (h6:(i,k,B)∈aq):Ah H g aq Fa i
structure iV(μ:Mu)(G:Key→Option ag)(H:T ag)(nx:Key)(g:Gh)(Fa:Nat→Prop)(aq:List (Nat×Key×ag))(tm:T AV)(tmps:Array Value)(rest:List Nat):Prop where
 QZ:Wd P nt ops pl bf
 ord:Qt ops g.D rest
 cl:Nh ops g.D
 sub:∀i,g.D i=true→hasB g.L i=true
 Kz:∀i,hasB g.L i=true→i<ops.size
 lcl:∀i,hasB g.L i=true→∀j,j<ops.size→hasB (im bf i) j=true→hasB g.L j=true
 a1:∀(k:Key) j,hasB g.L j=true→qc ops j=some k.toNat→ae k tm=g.val j
 a2:∀(k:Key),(∀j,hasB g.L j=true→qc ops j≠some k.toNat)→ae k tm=g.a0 k
 sz:nt≤tmps.size
 c1:∀(k:Key) j a,g.D j=true→qc ops j=some k.toNat→g.val j=some a→∃v,tmps[k.toNat]?=some v∧aY ρ μ a v
 c2:∀(k:Key) a,(∀j,g.D j=true→qc ops j≠some k.toNat)→g.a0 k=some a→∃v,tmps[k.toNat]?=some v∧aY ρ μ a v
 pd:∀i,hasB g.L i=true→g.D i=false→Ah orc ops pl bf H g aq Fa i
 pe:∀x∈aq,hasB g.L x.1=true∧(g.D x.1=true→G x.2.1=some x.2.2)∧(g.D x.1=false→μ x.2.1=none∧G x.2.1=none)∧ae x.2.1 H=none∧x.2.1.toNat<nx.toNat
 nk:(aq.map (·.2.1.toNat)).Nodup
 ni:(aq.map (·.1)).Nodup
end
section
variable{P:Program}{ρ:Nat→Int}{orc:jZ}{nt:Nat}{ops:Array Oper}{pl:List aB}{bf:List Nat}{w0:W0}{w:World}{μ:Mu}{G:Key→Option ag}{H:T ag}{nx:Key}{g:Gh}{Fa:Nat→Prop}{aq:List (Nat×Key×ag)}{tm:T AV}{rest:List Nat}{fr:Frame}{cs:List Frame}{K:List Item}
theorem ah9(hM:bC P ρ w0 μ G nx.toNat w){x:Operand}{px:PX}{a:AV}{pt:T AV}(hp:pX P nt x=some px)(ha:px.at pt=some a)
  (ht:∀t k,x=.tmp t→k.toNat=t→ae k pt=some a→∃v,fr.tmps[t]?=some v∧aY ρ μ a v):aY ρ μ a (fr.eval x):=by
 cases x with
 |tmp t=>
  simp only[pX]at hp;split at hp
  ·rename_i k hk;cases hp;obtain⟨v,hv,hr⟩:=ht t k rfl (sj hk).1 ha;have:fr.eval (.tmp t)=v:=by simp[Frame.eval,Array.getD_eq_getD_getElem?,hv]
   rw[this];exact hr
  ·cases hp
 |const v=>
  simp only[pX]at hp;split at hp
  ·rename_i b hb;cases hp;simp only[PX.at,fa]at ha;subst ha;exact jy _ _ _ hb
  ·cases hp
 |global gl=>
  simp only[pX]at hp;split at hp
  ·rename_i k hk;cases hp;simp only[PX.at,fa]at ha;subst ha;obtain⟨e,cH⟩:=sj hk;obtain⟨ext,he⟩:=hM.P4 k (by omega);exact .ptr _ _ _ _ he (by simp[e])
  ·cases hp
 |func f=>simp only[pX,fa]at hp;subst hp;simp only[PX.at,fa]at ha;subst ha;exact .fn _ _ _ _ _ .nil .nil
theorem Il(hM:bC P ρ w0 μ G nx.toNat w){o:Oper}{pt:T AV}(ht:∀(k:Key) a,k.toNat∈nv ops o→ae k pt=some a→∃v,fr.tmps[k.toNat]?=some v∧aY ρ μ a v) :
  CO P ρ μ nt o.op.operands.toList pt fr.eval:=by
 intro x hx px a hp ha;refine ah9 hM hp ha fun t k hxt hkt hg=>?_;subst hxt;rw[←hkt];refine ht k a ?_ hg;unfold nv;rw[List.mem_append,List.mem_filterMap];exact .inl ⟨_,hx,by rw[hkt]⟩
theorem Dm{o:Oper}{gd:Option (Key×Bool)}(hg:Q6 nt ops o.guard=some gd){pt:T AV}{tmps:Array Value}(ht:∀(k:Key) a,k.toNat∈nv ops o→ae k pt=some a→∃v,tmps[k.toNat]?=some v∧aY ρ μ a v)
  {b:Bool} (hw:dp gd pt=some b):Region.wanted o (yielded ops tmps)=b:=by
 cases Xi:o.guard with
 |none=>rw[Xi]at hg;simp only[Q6,fa]at hg;subst hg;simp only[dp,fa]at hw;simp[Region.wanted,Xi,hw]
 |some p=>
  obtain⟨j,want⟩:=p;rw[Xi]at hg;simp only[Q6]at hg;split at hg
  ·rename_i oj hoj;split at hg
   ·rename_i d hd;split at hg
    ·rename_i k hk;cases hg;obtain⟨e,_⟩:=sj hk;have uB:k.toNat∈nv ops o:=by unfold nv;rw[List.mem_append,Xi,e];right;simp[hoj,hd]
     simp only[dp]at hw;split at hw
     ·rename_i b' ir;cases hw;obtain⟨v,hv,hr⟩:=ht k _ uB ir;cases hr;rw[e]at hv;simp only[Region.wanted,Xi,yielded,hoj,Option.bind_some,hd,hv];cases b'<;>cases want<;>rfl
     ·rename_i ir;cases hw;obtain⟨v,hv,hr⟩:=ht k _ uB ir;cases hr with|tuple _ vs hvs=>
      rw[e]at hv;simp only[Region.wanted,Xi,yielded,hoj,Option.bind_some,hd,hv];cases want<;>rfl
     ·cases hw
    ·cases hg
   ·cases hg
  ·cases hg
end
section
variable{P:Program}{ρ:Nat→Int}{orc:jZ}{nt:Nat}{ops:Array Oper}{pl:List aB}{bf:List Nat}{w0:W0}{w:World}{μ μ':Mu}{G G':Key→Option ag}{H:T ag}{nx:Key}{g:Gh}{Fa:Nat→Prop}{aq:List (Nat×Key×ag)}{tm:T AV}{tmps:Array Value}{rest:List Nat}{fr:Frame}{cs:List Frame}{K:List Item}{i:Nat}
theorem iV.ready(S:iV P ρ orc nt ops pl bf μ G H nx g Fa aq tm tmps (i ::rest)) :
  i<ops.size∧g.D i=false∧(∀j,j<ops.size→hasB (im bf i) j=true→g.D j=true):=by
 obtain⟨h1,h2,h3,_⟩:=S.ord;exact⟨h1,h2,fun j hj hb=>S.QZ.closed S.cl i ops[i] (by simp[h1]) (fun e he sR=>h3 _ (by simp[h1]) e he sR) j hj hb⟩
theorem NX{j t:Nat}(h:qc ops j=some t):j<ops.size:=by
 obtain⟨o,ho,_⟩:=adq h;rcases Jh j ops.size with h'|h'
 ·exact h'
 ·rw[ZF h']at ho;cases ho
theorem iV.Mq(S:iV P ρ orc nt ops pl bf μ G H nx g Fa aq tm tmps (i ::rest)){pt:T AV}(ht:aa1 ops bf g i pt){o:Oper}(ho:ops[i]?=some o) :
  ∀(k:Key) a,k.toNat∈nv ops o→ae k pt=some a→∃v,tmps[k.toNat]?=some v∧aY ρ μ a v:=by
 intro k a hk hg;obtain⟨h1,h2,h3⟩:=S.ready;rcases ht o ho k a hk hg with⟨j,hj,hb,hv⟩|⟨Cq,ha⟩
 ·exact S.c1 k j a (h3 j (NX hj) hb) hj hv
 ·refine S.c2 k a (fun j hD hj=>?_) ha;have hb:=Cq j hj;obtain⟨oj,hoj,_⟩:=adq hj;have:=S.QZ.closed S.cl j oj hoj (fun e he sR=>S.cl j oj hD hoj e he sR) i h1 hb;rw[h2]at this;cases this
def I4(d:Option Nat)(v:Value)(tmps:Array Value):Array Value:=match d with
 |some d=>tmps.setIfInBounds d v
 |none=>tmps
theorem dv{o:Oper}(ht:fr.todo=.inRegion ops (i ::rest) ::K)(ho:ops[i]?=some o)(v:Value) :
  fr.finish v={fr with tmps:=I4 o.dst v fr.tmps,todo:=.inRegion ops rest ::K}:=by
 simp only[Frame.finish,ht,ho,Option.bind_some,I4];cases o.dst<;>rfl
theorem HM{o:Oper}{op:K3}(hp:lB P nt o=some op)(hd:gG o.op=true):K4 op=true:=by
 obtain⟨dst,IE,ty,pos,after,guard⟩:=o;cases IE<;>first|(cases hd;done)|skip
 rename_i c;simp only[lB]at hp;split at hp
 ·split at hp
  ·cases hp;rfl
  ·cases hp
 ·cases hp
theorem WO{po:aB}(h:pl[i]?=some po):uY pl i=(bif K4 po.op then 2 else bif QB po.op then 1 else 0):=by simp[uY,h]
theorem ahl{tmps:Array Value}{d:Option Nat}{v:Value}(t:Nat)(h:∀x,d=some x→x<tmps.size) :
  (I4 d v tmps)[t]?=if d=some t then some v else tmps[t]?:=by
 cases d with
 |none=>simp[I4]
 |some x=>
  have:=h x rfl;simp only[I4];by_cases e:x=t
  ·subst e;simp[this]
  ·rw[if_neg (by simpa using e),zqn e]
theorem iV.done(S:iV P ρ orc nt ops pl bf μ G H nx g Fa aq tm tmps (i ::rest))(hm:μ.le μ'){o:Oper}(ho:ops[i]?=some o){a:AV}{v:Value}(hL:hasB g.L i=true)(PS:g.val i=some a)(hv:aY ρ μ' a v)
  (Zy:∀x∈aq,(x.1=i→G' x.2.1=some x.2.2)∧(x.1≠i→μ' x.2.1=μ x.2.1∧G' x.2.1=G x.2.1)) :
  iV P ρ orc nt ops pl bf μ' G' H nx {g with D:=fun j=>g.D j||j==i} Fa aq tm (I4 o.dst v tmps) rest:=by
 obtain⟨hi,hDi,BB⟩:=S.ready;obtain⟨o',po,EK,Xh,yS⟩:=S.QZ.at hi;rw[ho]at EK;cases EK;obtain⟨qE,Xi,D0⟩:=j5 Xh;have awy:∀x,o.dst=some x→x<tmps.size:=by
  intro x hx;rcases D0 with⟨h,_⟩|⟨k,h,_,cH⟩
  ·rw[h]at hx;cases hx
  ·rw[h]at hx;cases hx;exact Lm cH S.sz
 have hdi:qc ops i=o.dst:=by simp[qc,ho]
 have Gb:=fun t=>ahl (v:=v) t awy;have anc:(I4 o.dst v tmps).size=tmps.size:=by cases o.dst<;>simp[I4]
 have hD':∀j,((g.D j||j==i)=true)↔(g.D j=true∨j=i):=by intro j;simp
 refine⟨S.QZ,S.ord.2.2.2,?_,?_,S.Kz,S.lcl,S.a1,S.a2,by rw[anc];exact S.sz,?_,?_,?_,?_,S.nk,S.ni⟩
 ·intro j oj hj hoj e he hb;rcases (hD' j).1 hj with h|h
  ·exact(hD' _).2 (.inl (S.cl j oj h hoj e he hb))
  ·subst h;exact(hD' _).2 (.inl (S.ord.2.2.1 oj hoj e he hb))
 ·intro j hj;rcases (hD' j).1 hj with h|h
  ·exact S.sub j h
  ·subst h;exact hL
 ·intro k j b hj hjd hjv;rw[Gb];rcases (hD' j).1 hj with h|h
  ·by_cases e:o.dst=some k.toNat
   ·have:i=j:=S.QZ.QG (hdi.trans e) hjd;subst this;rw[hDi]at h;cases h
   ·rw[if_neg e];obtain⟨u,hu,hr⟩:=S.c1 k j b h hjd hjv;exact⟨u,hu,hr.mono hm⟩
  ·subst h;rw[hdi]at hjd;rw[if_pos hjd];have hjv:g.val j=some b:=hjv;rw[PS]at hjv;cases hjv;exact⟨v,rfl,hv⟩
 ·intro k b lC ha;rw[Gb];have hni:o.dst≠some k.toNat:=by intro e;exact lC i ((hD' i).2 (.inr rfl)) (hdi.trans e)
  rw[if_neg hni];obtain⟨u,hu,hr⟩:=S.c2 k b (fun j hj=>lC j ((hD' j).2 (.inl hj))) ha;exact⟨u,hu,hr.mono hm⟩
 ·intro j hj hjD;have hjD:(g.D j||j==i)=false:=hjD;rw[Bool.or_eq_false_iff]at hjD;cases S.pd j hj hjD.1 with
  |skip po pt h1 h2 h3 h4 h5=>exact .skip po pt h1 h2 h3 h4 h5
  |light po pt v h1 h2 h3 hk h4 h5 h6=>exact .light po pt v h1 h2 h3 hk h4 h5 h6
  |alloc po pt f B k h1 h2 h3 hk h4 h5 h6=>exact .alloc po pt f B k h1 h2 h3 hk h4 h5 h6
 ·intro x hx;obtain⟨p1,p2,p3,p4,p5⟩:=S.pe x hx;obtain⟨q1,q2⟩:=Zy x hx;refine⟨p1,fun h=>?_,fun h=>?_,p4,p5⟩
  ·by_cases e:x.1=i
   ·exact q1 e
   ·rw[(q2 e).2];exact p2 (((hD' _).1 h).resolve_right e)
  ·have h:(g.D x.1||x.1==i)=false:=h;rw[Bool.or_eq_false_iff]at h;have e:x.1≠i:=by simpa using h.2
   rw[(q2 e).1,(q2 e).2];exact p3 h.1
theorem Yq(hM:bC P ρ w0 μ G nx.toNat w)(hH:HSub H G)(ho:fU ρ orc)(S:iV P ρ orc nt ops pl bf μ G H nx g Fa aq tm fr.tmps (i ::rest))(hL:hasB g.L i=true)(hu:¬Fa i)
  (hm:fr.mode=.run) (ht:fr.todo=.inRegion ops (i ::rest) ::K) :
  ∃fg w' μ' G',step P (lone fr cs w)=.next (lone {fr with tmps:=fg,todo:=.inRegion ops rest ::K} cs w')∧μ.le μ'∧bC P ρ w0 μ' G' nx.toNat w'∧HSub H G'∧
   iV P ρ orc nt ops pl bf μ' G' H nx {g with D:=fun j=>g.D j||j==i} Fa aq tm fg rest∧(∀b,(∀x∈aq,x.2.1≠b)→μ' b=μ b∧G' b=G b):=by
 obtain⟨hi,hDi,BB⟩:=S.ready;obtain⟨o,po,qE,Xh,yS⟩:=S.QZ.at hi;obtain⟨hp,Xi,D0⟩:=j5 Xh;cases S.pd i hL hDi with
 |skip Vt pt h1 h2 h3 h4 h5=>rw[yS]at h1;cases h1;have hs:=S.Mq h2 qE;have hw:=Dm Xi hs h3;have sG:=KC (P:=P) (cs:=cs) (w:=w) hm ht qE hw;rw[dv ht qE]at sG;refine⟨_,w,μ,G,sG,μ.le_refl,hM,hH,?_,fun b _=>⟨rfl,rfl⟩⟩;refine S.done μ.le_refl qE hL h4 (v:=undef) (.tuple _ _ .nil) ?_;intro x hx;exact⟨fun e=>absurd e (h5 x hx),fun _=>⟨rfl,rfl⟩⟩
 |light Vt pt v h1 h2 h3 hk h4 h5 h6=>
  rw[yS]at h1;cases h1;have hs:=S.Mq h2 qE;have hw:=Dm Xi hs h3;obtain⟨V,hlV,hV⟩:=h4 hu;have hVG:HSub V G:=by
   intro b B hb;rcases hV b B hb with h|⟨j,h1,h2⟩
   ·exact hH b B h
   ·obtain⟨p1,p2,_⟩:=S.pe _ h1;exact p2 (BB j (S.Kz j p1) h2)
  obtain⟨u,fp,hr⟩:=Pe hM hVG ho hp (Il hM hs) hlV;have Gg:gG o.op=false:=by
   cases hd:gG o.op with
   |false=>rfl
   |true=>rw[WO yS,HM hp hd]at hk;cases hk
  have sG:=Yr (P:=P) (cs:=cs) hm ht qE hw (.inr Gg) fp;rw[dv ht qE]at sG;refine⟨_,w,μ,G,sG,μ.le_refl,hM,hH,?_,fun b _=>⟨rfl,rfl⟩⟩;refine S.done μ.le_refl qE hL h5 hr ?_;intro x hx;exact⟨fun e=>absurd e (h6 x hx),fun _=>⟨rfl,rfl⟩⟩
 |alloc Vt pt f B k h1 h2 h3 hk h4 h5 h6=>
  rw[yS]at h1;cases h1;have hs:=S.Mq h2 qE;have hw:=Dm Xi hs h3;obtain⟨_,_,p3,p4,p5⟩:=S.pe _ h6;obtain⟨hmk,hgk⟩:=p3 hDi;obtain⟨u,w',l,fp,hle,hM',hr⟩:=Pf hM hp (Il hM hs) h4 hmk (nx':=nx.toNat) (dQ _) p5;have Gg:gG o.op=false:=by
   cases hd:gG o.op with
   |false=>rfl
   |true=>rw[WO yS,HM hp hd]at hk;cases hk
  have sG:=Yr (P:=P) (cs:=cs) hm ht qE hw (.inr Gg) fp;rw[dv ht qE]at sG;refine⟨_,w',_,_,sG,hle,hM',?_,?_,?_⟩
  ·intro b B' hb;have:b≠k:=by intro e;subst e;rw[p4]at hb;cases hb
   rw[bQ _ _ this];exact hH b B' hb
  ·refine S.done hle qE hL h5 hr ?_;intro x hx;constructor
   ·intro e;have:x=(i,k,B):=by
     have hni:=S.ni;have:=List.pairwise_iff_getElem.1 hni;obtain⟨p,hp',hpx⟩:=List.getElem_of_mem hx;obtain⟨q,hq,hqx⟩:=List.getElem_of_mem h6;rcases Nat.lt_trichotomy p q with hpq|hpq|hpq
     ·have:=this p q (by simpa using hp') (by simpa using hq) hpq;simp[hpx,hqx,e]at this
     ·subst hpq;rw[←hpx,←hqx]
     ·have:=this q p (by simpa using hq) (by simpa using hp') hpq;simp[hpx,hqx,e]at this
    subst this;exact fh _ _ _
   ·intro e;have bT:x.2.1≠k:=by
     intro IC;have hnk:=S.nk;have:=List.pairwise_iff_getElem.1 hnk;obtain⟨p,hp',hpx⟩:=List.getElem_of_mem hx;obtain⟨q,hq,hqx⟩:=List.getElem_of_mem h6;rcases Nat.lt_trichotomy p q with hpq|hpq|hpq
     ·have:=this p q (by simpa using hp') (by simpa using hq) hpq;simp[hpx,hqx,IC]at this
     ·subst hpq;rw[hpx]at hqx;subst hqx;exact e rfl
     ·have:=this q p (by simpa using hq) (by simpa using hp') hpq;simp[hpx,hqx,IC]at this
    exact⟨bQ _ _ bT,bQ _ _ bT⟩
  ·intro b hb;have:b≠k:=fun e=>hb _ h6 e.symm;exact⟨bQ _ _ this,bQ _ _ this⟩
end
theorem ML(orc:jZ)(op:K3)(tm:T AV)(H H':T ag)(h:Na op=false):lightOp orc op tm H=lightOp orc op tm H':=by cases op<;>first|(cases h;done)|rfl
section
variable{P:Program}{ρ:Nat→Int}{orc:jZ}{nt:Nat}{ops:Array Oper}{pl:List aB}{bf:List Nat}{w0:W0}{w:World}{μ μ':Mu}{G G':Key→Option ag}{H H':T ag}{nx nx':Key}{g:Gh}{Fa aB2:Nat→Prop}{aq pend':List (Nat×Key×ag)}{tm:T AV}{tmps:Array Value}{rest:List Nat}{fr:Frame}{cs:List Frame}{K:List Item}{i:Nat}
theorem iV.aoS(S:iV P ρ orc nt ops pl bf μ G H nx g Fa aq tm tmps rest)(hi:i<ops.size)(hL:hasB g.L i=false)(hb:∀j,j<ops.size→hasB (im bf i) j=true→hasB g.L j=true):aa1 ops bf g i tm:=by
 intro o ho k a hk ha;by_cases h:∃j,hasB g.L j=true∧qc ops j=some k.toNat
 ·obtain⟨j,hj,hd⟩:=h;left;refine⟨j,hd,?_,by rw[←S.a1 k j hj hd];exact ha⟩;have bT:i≠j:=by intro e;subst e;rw[hL]at hj;cases hj
  rcases ((S.QZ.slot ho hd).2 bT).2 hk with h|h
  ·exact h
  ·have:=S.lcl j hj i hi h;rw[hL]at this;cases this
 ·right;have h:∀j,hasB g.L j=true→qc ops j≠some k.toNat:=fun j hj hd=>h ⟨j,hj,hd⟩;refine⟨fun j hd=>?_,by rw[←S.a2 k h];exact ha⟩;by_cases bT:i=j
  ·subst bT;exact absurd hk ((S.QZ.slot ho hd).1 rfl)
  ·rcases ((S.QZ.slot ho hd).2 bT).2 hk with ir|ir
   ·exact absurd hd (h j (hb j (NX hd) ir))
   ·exact ir
def A5(f:Nat→Option AV)(i:Nat)(x:Option AV):Nat→Option AV:=fun j=>if j=i then x else f j
theorem acI{x:Option AV}{L':Nat}{D':Nat→Bool}{p:Nat}{k:Key}{a:AV}(hp:hasB (im bf p) i=false)(h:Y5 ops bf g p k a):Y5 ops bf {L:=L',D:=D',a0:=g.a0,val:=A5 g.val i x} p k a:=by
 rcases h with⟨j,h1,h2,h3⟩|⟨h1,h2⟩
 ·left;refine⟨j,h1,h2,?_⟩;have:j≠i:=by intro e;subst e;rw[hp]at h2;cases h2
  simpa[A5,this]using h3
 ·exact .inr ⟨h1,h2⟩
theorem AH{x:Option AV}{L':Nat}{D':Nat→Bool}{p:Nat}{pt:T AV}(hp:hasB (im bf p) i=false)(h:aa1 ops bf g p pt):aa1 ops bf {L:=L',D:=D',a0:=g.a0,val:=A5 g.val i x} p pt:=
 fun o ho k a hk hg=>acI hp (h o ho k a hk hg)
theorem Ah.jv{x:Option AV}{L':Nat}{D':Nat→Bool}{p:Nat}(hp:hasB (im bf p) i=false)(bT:p≠i)(Ue:∀y∈aq,y∈pend')(Y6:∀y∈pend',y∈aq∨y.1=i)(h:Ah orc ops pl bf H g aq Fa p) :
  Ah orc ops pl bf H {L:=L',D:=D',a0:=g.a0,val:=A5 g.val i x} pend' Fa p:=by
 have hv:∀v,g.val p=some v→A5 g.val i x p=some v:=by intro v hv;simpa[A5,bT]using hv
 have hq:(∀y∈aq,y.1≠p)→∀y∈pend',y.1≠p:=by
  intro hh y hy;rcases Y6 y hy with h|h
  ·exact hh y h
  ·rw[h];exact fun e=>bT e.symm
 cases h with
 |skip po pt h1 h2 h3 h4 h5=>exact .skip po pt h1 (AH hp h2) h3 (hv _ h4) (hq h5)
 |light po pt v h1 h2 h3 hk h4 h5 h6=>
  refine .light po pt v h1 (AH hp h2) h3 hk (fun hu=>?_) (hv _ h5) (hq h6);obtain⟨V,a1,a2⟩:=h4 hu;refine⟨V,a1,fun b B hb=>?_⟩;rcases a2 b B hb with h|⟨j,h,h'⟩
  ·exact .inl h
  ·exact .inr ⟨j,Ue _ h,h'⟩
 |alloc po pt f B k h1 h2 h3 hk h4 h5 h6=>exact .alloc po pt f B k h1 (AH hp h2) h3 hk h4 (hv _ h5) (Ue _ h6)
noncomputable def cy(d:Option Key)(v:AV)(tm:T AV):T AV:=match d with
 |none=>tm
 |some k=>au k (some v) tm
theorem fW{R:Type}(d:Option Key)(v:AV)(tm:T AV)(c:T AV→R):zD d (some v) tm c=c (cy d v tm):=by
 cases d with
 |none=>rfl
 |some k=>simp only[zD,cy,sTCe]
theorem iV.add(S:iV P ρ orc nt ops pl bf μ G H nx g Fa aq tm tmps rest){po:aB}(yS:pl[i]?=some po)(hL:hasB g.L i=false)(hb:∀j,j<ops.size→hasB (im bf i) j=true→hasB g.L j=true)
  {v:AV} (Ue:∀y∈aq,y∈pend') (Y6:∀y∈pend',y∈aq∨y.1=i)
  (wQ:Ah orc ops pl bf H {L:=K7 g.L i,D:=g.D,a0:=g.a0,val:=A5 g.val i (some v)} pend' Fa i)
  (Zy:∀y∈pend',y∉aq→μ y.2.1=none∧G y.2.1=none∧ae y.2.1 H=none∧y.2.1.toNat<nx'.toNat) (hn:nx.toNat≤nx'.toNat)
  (hnk:(pend'.map (·.2.1.toNat)).Nodup) (hni:(pend'.map (·.1)).Nodup) :
  iV P ρ orc nt ops pl bf μ G H nx' {L:=K7 g.L i,D:=g.D,a0:=g.a0,val:=A5 g.val i (some v)} Fa pend' (cy po.dst v tm) tmps rest:=by
 have hi:=S.QZ.at' yS;obtain⟨o,Vt,ho,Xh,I5⟩:=S.QZ.at hi;rw[yS]at I5;cases I5;obtain⟨qE,Xi,D0⟩:=j5 Xh;have hdi:qc ops i=o.dst:=by simp[qc,ho]
 have hDi:g.D i=false:=by
  cases h:g.D i with
  |false=>rfl
  |true=>have:=S.sub i h;rw[hL]at this;cases this
 have Oh:∀j,hasB (K7 g.L i) j=true↔(hasB g.L j=true∨j=i):=by intro j;rw[Lf,Bool.or_eq_true,decide_eq_true_eq];exact⟨fun h=>h.imp id Eq.symm,fun h=>h.imp id Eq.symm⟩
 have hnb:∀p,hasB g.L p=true→hasB (im bf p) i=false:=by
  intro p hp;cases h:hasB (im bf p) i with
  |false=>rfl
  |true=>have:=S.lcl p hp i hi h;rw[hL]at this;cases this
 refine⟨S.QZ,S.ord,S.cl,?_,?_,?_,?_,?_,S.sz,?_,S.c2,?_,?_,hnk,hni⟩
 ·intro j hj;exact(Oh j).2 (.inl (S.sub j hj))
 ·intro j hj;rcases (Oh j).1 hj with h|h
  ·exact S.Kz j h
  ·subst h;exact hi
 ·intro j hj q hq Rl;rcases (Oh j).1 hj with h|h
  ·exact(Oh q).2 (.inl (S.lcl j h q hq Rl))
  ·subst h;exact(Oh q).2 (.inl (hb q hq Rl))
 ·intro k j hj hd;rcases D0 with⟨e1,e2⟩|⟨kd,e1,e2,_⟩
  ·rcases (Oh j).1 hj with h|h
   ·have bT:j≠i:=by intro e;subst e;rw[hL]at h;cases h
    rw[e2];simp only[cy,A5,bT,if_false];exact S.a1 k j h hd
   ·subst h;rw[hdi,e1]at hd;cases hd
  ·rw[e2];simp only[cy];rcases (Oh j).1 hj with h|h
   ·have bT:j≠i:=by intro e;subst e;rw[hL]at h;cases h
    have hk:k≠kd:=by intro e;subst e;exact bT (S.QZ.QG hd (hdi.trans e1))
    rw[aG _ _ _ _ hk];simp only[A5,bT,if_false];exact S.a1 k j h hd
   ·subst h;rw[hdi,e1]at hd;have hk:k=kd:=Key.toNat_inj (by simpa using hd.symm);subst hk;rw[gTSm];simp[A5]
 ·intro k lC;rcases D0 with⟨e1,e2⟩|⟨kd,e1,e2,_⟩
  ·rw[e2];exact S.a2 k fun j hj=>lC j ((Oh j).2 (.inl hj))
  ·rw[e2];simp only[cy];have hk:k≠kd:=by intro e;subst e;exact lC i ((Oh i).2 (.inr rfl)) (hdi.trans e1)
   rw[aG _ _ _ _ hk];exact S.a2 k fun j hj=>lC j ((Oh j).2 (.inl hj))
 ·intro k j a hj hd hv;have bT:j≠i:=by intro e;subst e;rw[hDi]at hj;cases hj
  exact S.c1 k j a hj hd (by simpa[A5,bT]using hv)
 ·intro j hj hjD;rcases (Oh j).1 hj with h|h
  ·have bT:j≠i:=by intro e;subst e;rw[hL]at h;cases h
   exact(S.pd j h hjD).jv (hnb j h) bT Ue Y6
  ·subst h;exact wQ
 ·intro y hy;by_cases Ae:y∈aq
  ·obtain⟨p1,p2,p3,p4,p5⟩:=S.pe y Ae;exact⟨(Oh _).2 (.inl p1),p2,p3,p4,Lm p5 hn⟩
  ·obtain⟨q1,q2,q3,q4⟩:=Zy y hy Ae;have e:=(Y6 y hy).resolve_left Ae;refine⟨(Oh _).2 (.inr e),fun h=>?_,fun _=>⟨q1,q2⟩,q3,q4⟩;rw[e]at h;have h:g.D i=true:=h;rw[hDi]at h;cases h
theorem iV.bZ(S:iV P ρ orc nt ops pl bf μ G H nx g (fun i=>iU pl i=true) aq tm tmps rest)(hm:μ.le μ')(hn:nx.toNat≤nx'.toNat)
  (hk:∀x∈aq,μ' x.2.1=μ x.2.1∧G' x.2.1=G x.2.1∧ae x.2.1 H'=none):iV P ρ orc nt ops pl bf μ' G' H' nx' g (fun i=>iU pl i=true) aq tm tmps rest:=by
 refine⟨S.QZ,S.ord,S.cl,S.sub,S.Kz,S.lcl,S.a1,S.a2,S.sz,?_,?_,?_,?_,S.nk,S.ni⟩
 ·intro k j a h1 h2 h3;obtain⟨v,hv,hr⟩:=S.c1 k j a h1 h2 h3;exact⟨v,hv,hr.mono hm⟩
 ·intro k a h1 h2;obtain⟨v,hv,hr⟩:=S.c2 k a h1 h2;exact⟨v,hv,hr.mono hm⟩
 ·intro i hi hD;cases S.pd i hi hD with
  |skip po pt h1 h2 h3 h4 h5=>exact .skip po pt h1 h2 h3 h4 h5
  |light po pt v h1 h2 h3 AP h4 h5 h6=>
   refine .light po pt v h1 h2 h3 AP (fun hu=>?_) h5 h6;obtain⟨V,a1,_⟩:=h4 hu;refine⟨H',?_,VOk.refl _ _ _ _⟩;rw[←a1];apply ML;have:iU pl i=Na po.op:=by simp[iU,h1]
   rw[this]at hu;simpa using hu
  |alloc po pt f B k h1 h2 h3 AP h4 h5 h6=>exact .alloc po pt f B k h1 h2 h3 AP h4 h5 h6
 ·intro x hx;obtain⟨p1,p2,p3,p4,p5⟩:=S.pe x hx;obtain⟨q1,q2,q3⟩:=hk x hx;refine⟨p1,fun h=>by rw[q2];exact p2 h,fun h=>by rw[q1,q2];exact p3 h,q3,Lm p5 hn⟩
end
section
variable{P:Program}{ρ:Nat→Int}{orc:jZ}{nt:Nat}{ops:Array Oper}{pl:List aB}{bf:List Nat}{w0:W0}{w:World}{μ μ':Mu}{G G':Key→Option ag}{H H':T ag}{nx nx':Key}{g:Gh}{Fa aB2:Nat→Prop}{aq pend':List (Nat×Key×ag)}{tm:T AV}{tmps:Array Value}{rest:List Nat}{fr:Frame}{cs:List Frame}{K:List Item}{i:Nat}
def axJ(P:Program)(ρ:Nat→Int)(orc:jZ)(nt:Nat)(ops:Array Oper)(pl:List aB)(bf:List Nat)(w0:W0)(H:T ag)(nx:Key)(g:Gh)(aq:List (Nat×Key×ag))(tm:T AV)(K:List Item)
  (fr:Frame) (cs:List Frame) (w:World) (μ:Mu) (G:Key→Option ag) (IT:List Nat→Prop):Prop:=
 ∃fg w' μ' G' D' mN,Steps P (lone fr cs w) (lone {fr with tmps:=fg,todo:=.inRegion ops mN ::K} cs w')∧μ.le μ'∧bC P ρ w0 μ' G' nx.toNat w'∧HSub H G'∧
  iV P ρ orc nt ops pl bf μ' G' H nx {g with D:=D'} (fun _=>False) aq tm fg mN∧(∀b,(∀x∈aq,x.2.1≠b)→μ' b=μ b∧G' b=G b)∧IT mN
theorem apg(IT:List Nat→Prop)(ho:fU ρ orc)
  (hgo:∀(D:Nat→Bool) (rest:List Nat),(∀i,D i=true→hasB g.L i=true)→Qt ops D rest→IT rest∨∃q r,rest=q ::r∧((∀j,j<ops.size→hasB (im bf q) j=true→D j=true)→hasB g.L q=true)) :
  ∀(rest:List Nat) (D:Nat→Bool) (fr:Frame) (w:World) (μ:Mu) (G:Key→Option ag),bC P ρ w0 μ G nx.toNat w→HSub H G→iV P ρ orc nt ops pl bf μ G H nx {g with D:=D} (fun _=>False) aq tm fr.tmps rest→
   fr.mode=.run→fr.todo=.inRegion ops rest ::K→axJ P ρ orc nt ops pl bf w0 H nx g aq tm K fr cs w μ G IT:=by
 intro rest
 induction rest with
 |nil=>
  intro D fr w μ G hM hH S hm ht;rcases hgo D [] S.sub S.ord with h|⟨q,r,h,_⟩
  ·refine⟨fr.tmps,w,μ,G,D,[],?_,μ.le_refl,hM,hH,S,fun _ _=>⟨rfl,rfl⟩,h⟩;rw[←ht];exact Steps.refl _ _
  ·cases h
 |cons q r ih=>
  intro D fr w μ G hM hH S hm ht;rcases hgo D (q ::r) S.sub S.ord with h|⟨q',r',h,hq⟩
  ·refine⟨fr.tmps,w,μ,G,D,q ::r,?_,μ.le_refl,hM,hH,S,fun _ _=>⟨rfl,rfl⟩,h⟩;rw[←ht];exact Steps.refl _ _
  ·cases h;have hL:=hq S.ready.2.2;obtain⟨fg,w',μ',G',h1,h2,h3,h4,h5,h6⟩:=Yq (cs:=cs) hM hH ho S hL (fun h=>h) hm ht;obtain⟨tmps2,w2,μ2,G2,D2,rest2,k1,k2,k3,k4,k5,k6,k7⟩:=ih _ {fr with tmps:=fg,todo:=.inRegion ops r ::K} w' μ' G' h3 h4 h5 hm rfl;exact⟨tmps2,w2,μ2,G2,D2,rest2,.head h1 k1,Mu.le_trans h2 k2,k3,k4,k5,fun b hb=>⟨(k6 b hb).1.trans (h6 b hb).1,(k6 b hb).2.trans (h6 b hb).2⟩,k7⟩
theorem Y7(hM:bC P ρ w0 μ G nx.toNat w)(hH:HSub H G)(ho:fU ρ orc)(S:iV P ρ orc nt ops pl bf μ G H nx g (fun _=>False) aq tm fr.tmps rest){h:Nat}(cH:h<ops.size)(hh:hasB g.L h=false)
  (acG:∀j,j<ops.size→hasB g.L j=true∨j=h∨∃q,q<ops.size∧hasB (im bf j) q=true∧hasB g.L q=false) (hm:fr.mode=.run) (ht:fr.todo=.inRegion ops rest ::K) :
  axJ P ρ orc nt ops pl bf w0 H nx g aq tm K fr cs w μ G (fun r=>∃r',r=h ::r'):=by
 refine apg _ ho ?_ rest g.D fr w μ G hM hH S hm ht;intro D rest axK Vl;cases rest with
 |nil=>have:=axK h (Vl h cH);rw[hh]at this;cases this
 |cons q r=>
  by_cases e:q=h
  ·subst e;exact .inl ⟨r,rfl⟩
  ·refine .inr ⟨q,r,rfl,fun hb=>?_⟩;rcases acG q Vl.1 with h1|h1|⟨p,hp,hpb,hpL⟩
   ·exact h1
   ·exact absurd h1 e
   ·have:=axK p (hb p hp hpb);rw[hpL]at this;cases this
theorem ago(hM:bC P ρ w0 μ G nx.toNat w)(hH:HSub H G)(ho:fU ρ orc)(S:iV P ρ orc nt ops pl bf μ G H nx g (fun _=>False) aq tm fr.tmps rest)
  (Cq:∀j,j<ops.size→hasB g.L j=true) (hm:fr.mode=.run) (ht:fr.todo=.inRegion ops rest ::K) :
  axJ P ρ orc nt ops pl bf w0 H nx g aq tm K fr cs w μ G (fun r=>r=[]):=by
 refine apg _ ho ?_ rest g.D fr w μ G hM hH S hm ht;intro D rest axK Vl;cases rest with
 |nil=>exact .inl rfl
 |cons q r=>exact .inr ⟨q,r,rfl,fun _=>Cq q Vl.1⟩
theorem Ii{lD:List (Nat×List Nat)}:∀{os:List (Nat×aB)},recheck orc lD aq tm H os=true→∀i po,(i,po)∈os→
  ∃d,po.dst=some d∧((dp po.guard tm=some false∧ae d tm=some (.tuple []))∨(dp po.guard tm=some true∧∃v,ae d tm=some v∧lightOp orc po.op tm (zF (F4 i lD) aq H)=some v))
 | [],_,_,_,h=>by simp at h
 |(q,o) ::os,hr,i,po,hm=>by
  simp only[recheck]at hr;split at hr
  ·rename_i hw;split at hr
   ·cases hr
   ·rename_i d hd;split at hr
    ·rename_i hg;rcases M4.1 hm with h|h
     ·cases h;exact⟨d,hd,.inl ⟨hw,hg⟩⟩
     ·exact Ii hr i po h
    ·cases hr
  ·rename_i hw;split at hr
   ·cases hr
   ·rename_i d hd;split at hr
    ·rename_i v u hg hl;cases hb:AV.beq v u with
     |false=>rw[hb]at hr;cases hr
     |true=>
      rw[hb]at hr;simp only[cond_true]at hr;have:=AV.eq_of_beq v u hb;subst this;rcases M4.1 hm with h|h
      ·cases h;exact⟨d,hd,.inr ⟨hw,v,hg,hl⟩⟩
      ·exact Ii hr i po h
    ·cases hr
  ·cases hr
theorem acS{i:Nat}{o:Oper}(h:Gq ops bf i=true)(ho:ops[i]?=some o){j t:Nat}(hj:qc ops j=some t)(ht:t∈nv ops o):hasB (im bf i) j=true:=by
 unfold Gq at h;rw[ho]at h;simp only[AQ]at h;have h:=h j (by simpa using NX hj);rw[hj]at h;have hc:(nv ops o).contains t=true:=by simpa using ht
 simp only[hc,Bool.not_true,Bool.false_or]at h;exact h
theorem iV.WD(S:iV P ρ orc nt ops pl bf μ G H nx g Fa aq tm tmps rest){os:List (Nat×aB)}{lD:List (Nat×List Nat)}(acL:CJ bf lD=true)(hr:recheck orc lD aq tm H os=true)
  (Zz:∀i po,(i,po)∈os→pl[i]?=some po∧Gq ops bf i=true∧uY pl i=0) (J8:∀i,hasB g.L i=true→g.D i=false→Fa i→∃po,(i,po)∈os) :
  iV P ρ orc nt ops pl bf μ G H nx g (fun _=>False) aq tm tmps rest:=by
 refine⟨S.QZ,S.ord,S.cl,S.sub,S.Kz,S.lcl,S.a1,S.a2,S.sz,S.c1,S.c2,?_,S.pe,S.nk,S.ni⟩;intro i hi hD;by_cases hu:Fa i
 ·obtain⟨po,hm⟩:=J8 i hi hD hu;obtain⟨yS,Lc,hk⟩:=Zz i po hm;obtain⟨d,hd,anY⟩:=Ii hr i po hm;have aJ7:=S.Kz i hi;obtain⟨o,Vt,ho,Xh,I5⟩:=S.QZ.at aJ7;rw[yS]at I5;cases I5;obtain⟨_,_,D0⟩:=j5 Xh;have hdd:qc ops i=some d.toNat:=by
   rcases D0 with⟨_,e2⟩|⟨k,e1,e2,_⟩
   ·rw[e2]at hd;cases hd
   ·rw[e2]at hd;cases hd;simp[qc,ho,e1]
  have PS:=S.a1 d i hi hdd;have htm:aa1 ops bf g i tm:=by
   intro o' EK k a Hn hg;rw[ho]at EK;cases EK;by_cases hex:∃j,qc ops j=some k.toNat
   ·obtain⟨j,hj⟩:=hex;have hb:=acS Lc ho hj Hn;exact .inl ⟨j,hj,hb,by rw[←S.a1 k j (S.lcl i hi j (NX hj) hb) hj];exact hg⟩
   ·have lC:∀j,qc ops j≠some k.toNat:=fun j hj=>hex ⟨j,hj⟩;exact .inr ⟨fun j hj=>absurd hj (lC j),by rw[←S.a2 k fun j _=>lC j];exact hg⟩
  have Ue:∀x∈aq,x.1≠i:=by
   cases S.pd i hi hD with
   |skip po pt h1 h2 h3 h4 h5=>exact h5
   |light po pt v h1 h2 h3 AP h4 h5 h6=>exact h6
   |alloc po pt f B k h1 h2 h3 AP h4 h5 h6=>rw[hk]at AP;cases AP
  rcases anY with⟨hw,hg⟩|⟨hw,v,hg,hl⟩
  ·exact .skip po tm yS htm hw (by rw[←PS];exact hg) Ue
  ·exact .light po tm v yS htm hw hk (fun _=>⟨_,hl,VOk.view acL _ _ _⟩) (by rw[←PS];exact hg) Ue
 ·cases S.pd i hi hD with
  |skip po pt h1 h2 h3 h4 h5=>exact .skip po pt h1 h2 h3 h4 h5
  |light po pt v h1 h2 h3 AP h4 h5 h6=>exact .light po pt v h1 h2 h3 AP (fun _=>h4 hu) h5 h6
  |alloc po pt f B k h1 h2 h3 AP h4 h5 h6=>exact .alloc po pt f B k h1 h2 h3 AP h4 h5 h6
end
inductive Qr(P:Program)(μ:Mu)(nt:Nat):dJ→Item→Prop
 |code (pc:aL) (c:Code) (h:jj P nt c=some pc):Qr P μ nt (.code pc) (.code c)
 |inBlock (id:Nat):Qr P μ nt (.inBlock id) (.inBlock id)
 |inLoop (pc:aL) (c:Code) (h:jj P nt c=some pc):Qr P μ nt (.inLoop pc) (.inLoop c)
 |ops (l:List aB) (ops:Array Oper) (rest:List Nat) (h:qa P nt ops rest=some l):Qr P μ nt (.ops l) (.inRegion ops rest)
 |inRF (k:Key) (l:Loc) (r:Nat) (h:μ k=some l) (hr:r=l.c):Qr P μ nt (.inRF k) (.inRangeFunc r)
 |endRF (k:Key) (l:Loc) (r:Nat) (h:μ k=some l) (hr:r=l.c):Qr P μ nt (.endRF k) (.endRangeFunc r)
 |beginRound:Qr P μ nt .beginRound .beginRound
 |scope (c:Code):Qr P μ nt (.code .skip) (.inScope c)
inductive pP(P:Program)(μ:Mu)(nt:Nat):List dJ→List Item→Prop
 |nil:pP P μ nt [] []
 |cons (a:dJ) (x:Item) (l:List dJ) (k:List Item) (h:Qr P μ nt a x) (h':pP P μ nt l k):pP P μ nt (a ::l) (x ::k)
theorem Qr.mono{P:Program}{μ μ':Mu}(hm:μ.le μ'){nt:Nat}{a:dJ}{x:Item}(h:Qr P μ nt a x):Qr P μ' nt a x:=by
 cases h with
 |code pc c h=>exact .code pc c h
 |inBlock id=>exact .inBlock id
 |inLoop pc c h=>exact .inLoop pc c h
 |ops l ops rest h=>exact .ops l ops rest h
 |inRF k l r h hr=>exact .inRF k l r (hm.l _ _ h) hr
 |endRF k l r h hr=>exact .endRF k l r (hm.l _ _ h) hr
 |beginRound=>exact .beginRound
 |scope c=>exact .scope c
theorem pP.mono{P:Program}{μ μ':Mu}(hm:μ.le μ'){nt:Nat}{a:List dJ}{x:List Item}(h:pP P μ nt a x):pP P μ' nt a x:=by
 induction h with
 |nil=>exact .nil
 |cons a x l k h h' ih=>exact .cons _ _ _ _ (h.mono hm) ih
def asj(ρ:Nat→Int)(μ:Mu):Xj→Deferred→Prop
 |.fn f args,d=>∃ws,d.target=.fn (.func f) ws∧aA ρ μ args (d.args++ws).toList
 |.coll b,d=>∃l,μ b=some l∧d=⟨.collected l.c,#[]⟩
def Tg(ρ:Nat→Int)(μ:Mu):List Xj→List Deferred→Prop
 | [],[]=>True
 |a ::l,d ::ds=>asj ρ μ a d∧Tg ρ μ l ds
 |_,_=>False
theorem asj.mono{ρ:Nat→Int}{μ μ':Mu}(hm:μ.le μ'){a:Xj}{d:Deferred}(h:asj ρ μ a d):asj ρ μ' a d:=by
 cases a with
 |fn f args=>obtain⟨ws,h1,h2⟩:=h;exact⟨ws,h1,h2.mono hm⟩
 |coll b=>obtain⟨l,h1,h2⟩:=h;exact⟨l,hm.l _ _ h1,h2⟩
theorem Tg.mono{ρ:Nat→Int}{μ μ':Mu}(hm:μ.le μ'):∀{a:List Xj} {d:List Deferred},Tg ρ μ a d→Tg ρ μ' a d
 | [],[],_=>trivial
 |_ ::_,_ ::_,h=>⟨h.1.mono hm,Tg.mono hm h.2⟩
 | [],_ ::_,h=>h.elim
 |_ ::_,[],h=>h.elim
def aBX(μ:Mu):Option Key→Option Nat→Prop
 |none,none=>True
 |some k,some r=>∃l,μ k=some l∧r=l.c
 |_,_=>False
structure CN(P:Program)(ρ:Nat→Int)(μ:Mu)(nt:Nat)(af:oG)(fr:Frame):Prop where
 fn:fr.fn=af.fn
 fnr:akA P af.fn nt af.res
 dfs:Tg ρ μ af.dfs fr.defers
 kind:fr.kind=if af.GG then .deferred else .normal
 wI:aBX μ af.wI fr.roundOf
 rd:af.wI≠none→af.GG=false
theorem CN.mono{P:Program}{ρ:Nat→Int}{μ μ':Mu}(hm:μ.le μ'){nt:Nat}{af:oG}{fr:Frame}(h:CN P ρ μ nt af fr):CN P ρ μ' nt af fr:=by
 refine⟨h.fn,h.fnr,h.dfs.mono hm,h.kind,?_,h.rd⟩;have:=h.wI;cases h1:af.wI<;>cases h2:fr.roundOf<;>rw[h1,h2]at this
 ·trivial
 ·exact this.elim
 ·exact this.elim
 ·obtain⟨l,e1,e2⟩:=this;exact⟨l,hm.l _ _ e1,e2⟩
def Nf(ops:Array Oper)(kA:List Key):Prop:=∀j t,qc ops j=some t→∃k∈kA,k.toNat=t
inductive ZD(P:Program)(ρ:Nat→Int)(orc:jZ)(μ:Mu)(G:Key→Option ag)(H:T ag)(nx:Key)(nt:Nat):List dJ→T AV→List Item→Array Value→Prop
 |plain (k:List dJ) (K:List Item) (tm:T AV) (tmps:Array Value) (h:pP P μ nt k K) (ht:mC ρ μ nt tm tmps):ZD P ρ orc μ G H nx nt k tm K tmps
 |ready (ops:Array Oper) (pl:List aB) (bf:List Nat) (g:Gh) (x0:List IIt) (items:List aS) (kA:SD) (aq:List (Nat×Key×ag)) (k:List dJ) (K:List Item) (tm:T AV) (tmps:Array Value) (rest:List Nat)
   (hf:x0.mapM (Gt pl)=some items) (hc:Cg ops pl bf g.L x0=true) (hd:Nf ops kA.ds∧CJ bf kA.lD=true) (h:pP P μ nt k K) (S:iV P ρ orc nt ops pl bf μ G H nx g (fun _=>False) aq tm tmps rest) :
   ZD P ρ orc μ G H nx nt (.staged items kA aq ::k) tm (.inRegion ops rest ::K) tmps
 |back (ops:Array Oper) (pl:List aB) (bf:List Nat) (g:Gh) (os:List (Nat×aB)) (x0:List IIt) (items:List aS) (kA:SD) (aq:List (Nat×Key×ag)) (k:List dJ) (K:List Item) (tm:T AV) (tmps:Array Value) (rest:List Nat)
   (hf:x0.mapM (Gt pl)=some items) (hc:Cg ops pl bf g.L x0=true) (hd:Nf ops kA.ds∧CJ bf kA.lD=true) (h:pP P μ nt k K)
   (Zz:∀i po,(i,po)∈os→pl[i]?=some po∧Gq ops bf i=true∧uY pl i=0) (J8:∀i,hasB g.L i=true→g.D i=false→iU pl i=true→∃po,(i,po)∈os)
   (S:iV P ρ orc nt ops pl bf μ G H nx g (fun i=>iU pl i=true) aq tm tmps rest) :
   ZD P ρ orc μ G H nx nt (.staged (.R os ::items) kA aq ::k) tm (.inRegion ops rest ::K) tmps
inductive Lb(P:Program)(ρ:Nat→Int)(orc:jZ)(μ:Mu)(G:Key→Option ag)(H:T ag)(nx:Key)(nt:Nat):List dJ→T AV→List Item→Array Value→Prop
 |ops (o:aB) (l:List aB) (ops:Array Oper) (i:Nat) (rest:List Nat) (k:List dJ) (K:List Item) (tm:T AV) (tmps:Array Value) (hp:qa P nt ops (i ::rest)=some (o ::l)) (h:pP P μ nt k K) (ht:mC ρ μ nt tm tmps) :
   Lb P ρ orc μ G H nx nt (.ops (o ::l) ::k) tm (.inRegion ops (i ::rest) ::K) tmps
 |staged (ops:Array Oper) (pl:List aB) (bf:List Nat) (g:Gh) (i:Nat) (po:aB) (ad:List Nat) (os:List (Nat×aB)) (x0:List IIt) (items:List aS) (kA:SD) (aq:List (Nat×Key×ag)) (k:List dJ) (K:List Item) (tm:T AV) (tmps:Array Value) (rest:List Nat)
   (yS:pl[i]?=some po) (hf:x0.mapM (Gt pl)=some items) (hc:Cg ops pl bf (K7 g.L i) x0=true) (hL:hasB g.L i=false) (Wa:∀j,j<ops.size→hasB (im bf i) j=true→hasB g.L j=true) (hd:Nf ops kA.ds∧CJ bf kA.lD=true) (h:pP P μ nt k K)
   (Zz:∀i po,(i,po)∈os→pl[i]?=some po∧Gq ops bf i=true∧uY pl i=0) (J8:∀j,hasB g.L j=true→iU pl j=true→hasB (im bf i) j=true∨∃po,(j,po)∈os)
   (S:iV P ρ orc nt ops pl bf μ G H nx g (fun i=>iU pl i=true) aq tm tmps (i ::rest)) :
   Lb P ρ orc μ G H nx nt (.staged (.H i po ad ::.R os ::items) kA aq ::k) tm (.inRegion ops (i ::rest) ::K) tmps
 |rf (key:Key) (l:Loc) (k:List dJ) (K:List Item) (tm:T AV) (tmps:Array Value) (hk:μ key=some l) (h:pP P μ nt k K) (ht:mC ρ μ nt tm tmps):Lb P ρ orc μ G H nx nt (.inRF key ::k) tm (.inRangeFunc l.c ::K) tmps
inductive Cur(P:Program)(ρ:Nat→Int)(orc:jZ)(μ:Mu)(G:Key→Option ag)(H:T ag)(nx:Key)(af:oG)(fr:Frame):Prop
 |run (nt:Nat) (hb:CN P ρ μ nt af fr) (h1:af.mode=.run) (h2:fr.mode=.run) (h:ZD P ρ orc μ G H nx nt af.todo af.tm fr.todo fr.tmps):Cur P ρ orc μ G H nx af fr
 |ret (nt:Nat) (hb:CN P ρ μ nt af fr) (h1:af.mode=.ret) (h2:fr.mode=.returning) (h3:af.todo=[]∨∃k,af.todo=.code .ret ::k) (h:mC ρ μ nt af.tm fr.tmps):Cur P ρ orc μ G H nx af fr
 |pan (nt:Nat) (hb:CN P ρ μ nt af fr) (v:AV) (u:Value) (r:Bool) (h1:af.mode=.pan v r) (h2:fr.mode=.panicking [{v:=u,recovered:=r}]) (hv:aY ρ μ v u) (h3:af.todo=[]) (h:mC ρ μ nt af.tm fr.tmps):Cur P ρ orc μ G H nx af fr
inductive Sus(P:Program)(ρ:Nat→Int)(orc:jZ)(μ:Mu)(G:Key→Option ag)(H:T ag)(nx:Key)(af:oG)(fr:Frame):Prop
 |wait (nt:Nat) (hb:CN P ρ μ nt af fr) (h1:af.mode=.run) (h2:fr.mode=.run) (h:Lb P ρ orc μ G H nx nt af.todo af.tm fr.todo fr.tmps):Sus P ρ orc μ G H nx af fr
 |unw (h:Cur P ρ orc μ G H nx af fr) (hm:af.mode≠.run):Sus P ρ orc μ G H nx af fr
def eZ(P:Program)(ρ:Nat→Int)(orc:jZ)(μ:Mu)(G:Key→Option ag)(H:T ag)(nx:Key):List oG→List Frame→Prop
 | [],[]=>True
 |a ::l,f ::fs=>Sus P ρ orc μ G H nx a f∧eZ P ρ orc μ G H nx l fs
 |_,_=>False
def pk(af:oG):List Nat:=match af.todo with
 |.staged _ _ p ::_=>p.map (·.2.1.toNat)
 |_=>[]
def bX:List oG→List Nat
 | []=>[]
 |a ::l=>pk a++bX l
structure FY(P:Program)(ρ:Nat→Int)(orc:jZ)(w0:W0)(μ0:Mu)(am:AM)(fr:Frame)(cs:List Frame)(w:World):Prop where
 ex:∃μ G,μ0.le μ∧bC P ρ w0 μ G am.nx.toNat w∧HSub am.h G∧Cur P ρ orc μ G am.h am.nx am.fr fr∧eZ P ρ orc μ G am.h am.nx am.cs cs∧(bX (am.fr ::am.cs)).Nodup
section
variable{P:Program}{ρ:Nat→Int}{orc:jZ}{μ μ':Mu}{G G':Key→Option ag}{H H':T ag}{nx nx':Key}
theorem Lb.bZ(hm:μ.le μ')(hn:nx.toNat≤nx'.toNat){nt:Nat}{k:List dJ}{tm:T AV}{K:List Item}{tmps:Array Value}(h:Lb P ρ orc μ G H nx nt k tm K tmps)
  (hk:∀b:Key,(∀i d p k',k=.staged i d p ::k'→b.toNat∈p.map (·.2.1.toNat))→(∃i d p k',k=.staged i d p ::k')→ae b H=none→b.toNat<nx.toNat→μ' b=μ b∧G' b=G b∧ae b H'=none):Lb P ρ orc μ' G' H' nx' nt k tm K tmps:=by
 cases h with
 |ops o l ops i rest k K tm tmps hp h ht=>exact .ops o l ops i rest k K tm tmps hp (h.mono hm) (ht.mono hm)
 |rf key l k K tm tmps aw6 h ht=>exact .rf key l k K tm tmps (hm.l _ _ aw6) (h.mono hm) (ht.mono hm)
 |staged ops pl bf g i po ad os x0 items kA aq k K tm tmps rest yS hf hc hL Wa hd h Zz J8 S=>refine .staged ops pl bf g i po ad os x0 items kA aq k K tm tmps rest yS hf hc hL Wa hd (h.mono hm) Zz J8 (S.bZ hm hn fun x hx=>?_);obtain⟨_,_,_,p4,p5⟩:=S.pe x hx;refine hk x.2.1 ?_ ⟨_,_,_,_,rfl⟩ p4 p5;intro i d p k' e;cases e;exact KT.2 ⟨x,hx,rfl⟩
theorem Sus.bZ(hm:μ.le μ')(hn:nx.toNat≤nx'.toNat){af:oG}{fr:Frame}(h:Sus P ρ orc μ G H nx af fr)
  (hk:∀b:Key,b.toNat∈pk af→ae b H=none→b.toNat<nx.toNat→μ' b=μ b∧G' b=G b∧ae b H'=none):Sus P ρ orc μ' G' H' nx' af fr:=by
 cases h with
 |wait nt hb h1 h2 h=>refine .wait nt (hb.mono hm) h1 h2 (h.bZ hm hn fun b h3 ⟨i,d,p,k',e⟩ h4 h5=>hk b ?_ h4 h5);unfold pk;rw[e];exact h3 i d p k' e
 |unw h Di=>
  refine .unw ?_ Di;cases h with
  |run nt hb h1=>exact absurd h1 Di
  |ret nt hb h1 h2 h3 h=>exact .ret nt (hb.mono hm) h1 h2 h3 (h.mono hm)
  |pan nt hb v u r h1 h2 hv h3 h=>exact .pan nt (hb.mono hm) v u r h1 h2 (hv.mono hm) h3 (h.mono hm)
theorem eZ.bZ(hm:μ.le μ')(hn:nx.toNat≤nx'.toNat):∀{l:List oG} {fs:List Frame},eZ P ρ orc μ G H nx l fs→
  (∀b:Key,b.toNat∈bX l→ae b H=none→b.toNat<nx.toNat→μ' b=μ b∧G' b=G b∧ae b H'=none)→eZ P ρ orc μ' G' H' nx' l fs
 | [],[],_,_=>trivial
 |_ ::_,_ ::_,h,hk=>⟨h.1.bZ hm hn fun b hb=>hk b (by simp[bX,hb]),eZ.bZ hm hn h.2 fun b hb=>hk b (by simp[bX,hb])⟩
 | [],_ ::_,h,_=>h.elim
 |_ ::_,[],h,_=>h.elim
end
section
variable{P:Program}{ρ:Nat→Int}{orc:jZ}{nt:Nat}{w0:W0}{cs:List Frame}{K:List Item}{ops:Array Oper}
theorem mC.put{μ:Mu}{tm:T AV}{tmps:Array Value}(h:mC ρ μ nt tm tmps){o:Oper}{po:aB}(hd:(o.dst=none∧po.dst=none)∨∃k,o.dst=some k.toNat∧po.dst=some k∧k.toNat<nt){a:AV}{v:Value}(hv:aY ρ μ a v) :
  mC ρ μ nt (cy po.dst a tm) (I4 o.dst v tmps):=by
 rcases hd with⟨e1,e2⟩|⟨k,e1,e2,cH⟩
 ·rw[e1,e2];exact h
 ·rw[e1,e2];refine⟨by simp[I4];exact h.1,fun q b hb=>?_⟩;simp only[cy]at hb;simp only[I4];by_cases hq:q=k
  ·subst hq;rw[gTSm]at hb;cases hb;have:q.toNat<tmps.size:=Lm cH h.1;exact⟨v,by simp[this],hv⟩
  ·rw[aG _ _ _ _ hq]at hb;obtain⟨u,hu,hr⟩:=h.2 q b hb;refine⟨u,?_,hr⟩;rw[zqn]
   ·exact hu
   ·intro e;exact hq (Key.toNat_inj e.symm)
theorem ajE{o:Oper}{op:K3}(hp:lB P nt o=some op)(hd:gG o.op=true):∃v l,op=.dfr v l:=by
 obtain⟨dst,IE,ty,pos,after,guard⟩:=o;cases IE<;>first|(cases hd;done)|skip
 rename_i c;simp only[lB]at hp;split at hp
 ·split at hp
  ·simp only[fa]at hp;exact⟨_,_,hp.symm⟩
  ·cases hp
 ·cases hp
theorem CP{o:Oper}{op:K3}(hp:lB P nt o=some op){tm:T AV}{H:T ag}{nx:Key}(h1:∀f l,aOp orc op tm H nx≠.dfr f l)(h2:∀n,aOp orc op tm H nx≠.bad n):gG o.op=false:=by
 cases hd:gG o.op with
 |false=>rfl
 |true=>
  obtain⟨v,l,rfl⟩:=ajE hp hd;exfalso;have key:(∃f l',aOp orc (.dfr v l) tm H nx=.dfr f l')∨∃n,aOp orc (.dfr v l) tm H nx=.bad n:=by
   simp only[aOp];split
   ·exact .inl ⟨_,_,rfl⟩
   ·exact .inr ⟨_,rfl⟩
  rcases key with⟨f,l',e⟩|⟨n,e⟩
  ·exact h1 _ _ e
  ·exact h2 _ e
def anM(P:Program)(ρ:Nat→Int)(orc:jZ)(nt:Nat)(w0:W0)(cs:List Frame)(K:List Item)(ops:Array Oper)(fr:Frame)(w:World)(μ:Mu)(G:Key→Option ag)(H:T ag)(nx:Key):RR→Prop
 |.fin tm' h' nx'=>∃fg w' μ' G',Steps P (lone fr cs w) (lone {fr with tmps:=fg,todo:=K} cs w')∧μ.le μ'∧bC P ρ w0 μ' G' nx'.toNat w'∧HSub h' G'∧mC ρ μ' nt tm' fg∧Kept H h' nx nx' μ μ' G G'
 |.ev r l' tm' h' nx'=>(∃n,r=.bad n)∨∃fg w' μ' G' i mN po ll o,Steps P (lone fr cs w) (lone {fr with tmps:=fg,todo:=.inRegion ops (i ::mN) ::K} cs w')∧μ.le μ'∧bC P ρ w0 μ' G' nx'.toNat w'∧HSub h' G'∧
   mC ρ μ' nt tm' fg∧Kept H h' nx nx' μ μ' G G'∧l'=po ::ll∧qa P nt ops (i ::mN)=some l'∧ops[i]?=some o∧Oq P nt ops o=some po∧Region.wanted o (yielded ops fg)=true∧aOp orc po.op tm' h' nx'=r∧¬Cj r
theorem sI(orc:jZ)(o:aB)(rest:List aB)(tm:T AV)(h:T ag)(nx:Key):mE orc (o ::rest) tm h nx=(match dp o.guard tm with
   |none=>.ev (.bad 30) (o ::rest) tm h nx
   |some false=>zD o.dst (some (.tuple [])) tm fun tm=>mE orc rest tm h nx
   |some true=>match aOp orc o.op tm h nx with
    |.val v h nx=>zD o.dst (some v) tm fun tm=>mE orc rest tm h nx
    |r=>.ev r (o ::rest) tm h nx):=rfl
theorem Le(ho:fU ρ orc):∀(l:List aB) (rest:List Nat) (fr:Frame) (w:World) (μ:Mu) (G:Key→Option ag) (H:T ag) (nx:Key) (tm:T AV),qa P nt ops rest=some l→bC P ρ w0 μ G nx.toNat w→HSub H G→mC ρ μ nt tm fr.tmps→
  fr.mode=.run→fr.todo=.inRegion ops rest ::K→anM P ρ orc nt w0 cs K ops fr w μ G H nx (mE orc l tm H nx)
 | [],rest,fr,w,μ,G,H,nx,tm,hp,hM,hH,hT,hm,ht=>by
  cases rest with
  |cons i r=>simp only[qa]at hp;split at hp;cases hp;split at hp<;>cases hp
  |nil=>exact⟨fr.tmps,w,μ,G,.one (JO hm ht),μ.le_refl,hM,hH,hT,Kept.refl _ _ _ _⟩
 |po ::l,rest,fr,w,μ,G,H,nx,tm,hp,hM,hH,hT,hm,ht=>by
  cases rest with
  |nil=>simp only[qa,fa]at hp;cases hp
  |cons i r=>
  have hp0:=hp;simp only[qa]at hp;split at hp
  ·cases hp
  ·rename_i o Pn;split at hp
   ·rename_i Vt l' h1 h2;simp only[fa,List.cons.injEq]at hp;obtain⟨rfl,rfl⟩:=hp;obtain⟨qE,Xi,D0⟩:=j5 h1;have hs:∀(k:Key) a,k.toNat∈nv ops o→ae k tm=some a→∃v,fr.tmps[k.toNat]?=some v∧aY ρ μ a v:=fun k a _ hg=>hT.2 k a hg;have hE:=Il (P:=P) (nt:=nt) (o:=o) hM hs;rw[sI];have go:∀(tm2:T AV) (tmps2:Array Value) (w2:World) (μ2:Mu) (G2:Key→Option ag) (H2:T ag) (aN:Key),step P (lone fr cs w)=.next (lone {fr with tmps:=tmps2,todo:=.inRegion ops r ::K} cs w2)→μ.le μ2→bC P ρ w0 μ2 G2 aN.toNat w2→HSub H2 G2→mC ρ μ2 nt tm2 tmps2→Kept H H2 nx aN μ μ2 G G2→
      anM P ρ orc nt w0 cs K ops fr w μ G H nx (mE orc l' tm2 H2 aN):=by
     intro tm2 tmps2 w2 μ2 G2 H2 aN fI hle hM2 hH2 hT2 hK2;have ih:=Le ho l' r {fr with tmps:=tmps2,todo:=.inRegion ops r ::K} w2 μ2 G2 H2 aN tm2 h2 hM2 hH2 hT2 hm rfl;cases PN:mE orc l' tm2 H2 aN with
     |fin tm' h' nx'=>rw[PN]at ih;obtain⟨fg,w',μ',G',s1,s2,s3,s4,s5,s6⟩:=ih;exact⟨fg,w',μ',G',.head fI s1,Mu.le_trans hle s2,s3,s4,s5,hK2.trans s6⟩
     |ev rr ll tm' h' nx'=>
      rw[PN]at ih;rcases ih with hb|⟨fg,w',μ',G',i',mN,Vt,ll',o',s1,s2,s3,s4,s5,s6,s7,s8,s9,s10,s11,s12,s13⟩
      ·exact .inl hb
      ·exact .inr ⟨fg,w',μ',G',i',mN,Vt,ll',o',.head fI s1,Mu.le_trans hle s2,s3,s4,s5,hK2.trans s6,s7,s8,s9,s10,s11,s12,s13⟩
    cases hw:dp Vt.guard tm with
    |none=>exact .inl ⟨_,rfl⟩
    |some b=>
     have tV:=Dm Xi hs hw;cases b with
     |false=>simp only[fW];have fI:=KC (P:=P) (cs:=cs) (w:=w) hm ht Pn tV;rw[dv ht Pn]at fI;exact go _ _ w μ G H nx fI μ.le_refl hM hH (hT.put D0 (.tuple _ _ .nil)) (Kept.refl _ _ _ _)
     |true=>
      cases ha:aOp orc Vt.op tm H nx with
      |val a H2 aN=>
       simp only[fW];obtain⟨n,w2,μ2,G2,r1,r2,r3,r4,r5,r6⟩:=WW hM hH ho qE hE ha;have Gg:fr.roundOf=none∨gG o.op=false:=.inr (CP qE (by rw[ha];intro f l e;cases e) (by rw[ha];intro n e;cases e));cases n with
       |value v=>have fI:=Yr (P:=P) (cs:=cs) hm ht Pn tV Gg r1;rw[dv ht Pn]at fI;exact go _ _ w2 μ2 G2 H2 aN fI r3 r4 r5 ((hT.mono r3).put D0 r2) r6
       |skip=>have r2:a=.tuple []:=r2;subst r2;have fI:=ahy (P:=P) (cs:=cs) hm ht Pn tV Gg r1;rw[dv ht Pn]at fI;exact go _ _ w2 μ2 G2 H2 aN fI r3 r4 r5 ((hT.mono r3).put D0 (.tuple _ _ .nil)) r6
       |_=>exact r2.elim
      |bad n=>exact .inl ⟨_,rfl⟩
      |call f args=>exact .inr ⟨fr.tmps,w,μ,G,i,r,Vt,l',o,by rw[←ht];exact Steps.refl _ _,μ.le_refl,hM,hH,hT,Kept.refl _ _ _ _,rfl,hp0,Pn,h1,tV,ha,by rintro(⟨_,_,_,e⟩|⟨_,e⟩)<;>cases e⟩
      |yld k args=>exact .inr ⟨fr.tmps,w,μ,G,i,r,Vt,l',o,by rw[←ht];exact Steps.refl _ _,μ.le_refl,hM,hH,hT,Kept.refl _ _ _ _,rfl,hp0,Pn,h1,tV,ha,by rintro(⟨_,_,_,e⟩|⟨_,e⟩)<;>cases e⟩
      |pan v=>exact .inr ⟨fr.tmps,w,μ,G,i,r,Vt,l',o,by rw[←ht];exact Steps.refl _ _,μ.le_refl,hM,hH,hT,Kept.refl _ _ _ _,rfl,hp0,Pn,h1,tV,ha,by rintro(⟨_,_,_,e⟩|⟨_,e⟩)<;>cases e⟩
      |dfr f args=>exact .inr ⟨fr.tmps,w,μ,G,i,r,Vt,l',o,by rw[←ht];exact Steps.refl _ _,μ.le_refl,hM,hH,hT,Kept.refl _ _ _ _,rfl,hp0,Pn,h1,tV,ha,by rintro(⟨_,_,_,e⟩|⟨_,e⟩)<;>cases e⟩
      |recover=>exact .inr ⟨fr.tmps,w,μ,G,i,r,Vt,l',o,by rw[←ht];exact Steps.refl _ _,μ.le_refl,hM,hH,hT,Kept.refl _ _ _ _,rfl,hp0,Pn,h1,tV,ha,by rintro(⟨_,_,_,e⟩|⟨_,e⟩)<;>cases e⟩
   ·cases hp
end
structure EJ(E:List Nat)(H H':T ag)(nx nx':Key)(μ μ':Mu)(G G':Key→Option ag):Prop where
 k:∀b:Key,b.toNat∉E→ae b H=none→b.toNat<nx.toNat→μ' b=μ b∧G' b=G b∧ae b H'=none
 n:nx.toNat≤nx'.toNat
theorem EJ.refl(E:List Nat)(H:T ag)(nx:Key)(μ:Mu)(G:Key→Option ag):EJ E H H nx nx μ μ G G:=⟨fun _ _ h _=>⟨rfl,rfl,h⟩,dQ _⟩
theorem EJ.trans{E E2:List Nat}{H1 H2 H3:T ag}{n1 n2 n3:Key}{m1 m2 m3:Mu}{G1 G2 G3:Key→Option ag}(a:EJ E H1 H2 n1 n2 m1 m2 G1 G2)(b:EJ E2 H2 H3 n2 n3 m2 m3 G2 G3)(hE:∀x∈E2,x∈E∨n1.toNat≤x):EJ E H1 H3 n1 n3 m1 m3 G1 G3:=by
 refine⟨fun k hk hg hl=>?_,Nat.le_trans a.n b.n⟩;obtain⟨a1,a2,a3⟩:=a.k k hk hg hl;have hk2:k.toNat∉E2:=by
  intro h;rcases hE _ h with h|h
  ·exact hk h
  ·omega
 obtain⟨b1,b2,b3⟩:=b.k k hk2 a3 (Lm hl a.n);exact⟨b1.trans a1,b2.trans a2,b3⟩
theorem Kept.toE{H H':T ag}{nx nx':Key}{μ μ':Mu}{G G':Key→Option ag}(h:Kept H H' nx nx' μ μ' G G')(E:List Nat):EJ E H H' nx nx' μ μ' G G':=
 ⟨fun b _ hg hl=>⟨h.m b hl,h.g b hg hl,h.h b hg hl⟩,h.n⟩
section
variable{P:Program}{ρ:Nat→Int}{orc:jZ}{nt:Nat}{ops:Array Oper}{pl:List aB}{bf:List Nat}{w0:W0}{w:World}{μ μ':Mu}{G G':Key→Option ag}{H H':T ag}{nx nx':Key}{g:Gh}{Fa aB2:Nat→Prop}{aq pend':List (Nat×Key×ag)}{tm:T AV}{tmps:Array Value}{rest:List Nat}{fr:Frame}{cs:List Frame}{K:List Item}{i:Nat}
theorem iV.auh(S:iV P ρ orc nt ops pl bf μ G H nx g Fa aq tm tmps (i ::rest)){po:aB}(yS:pl[i]?=some po)(hL:hasB g.L i=false)(hb:∀j,j<ops.size→hasB (im bf i) j=true→hasB g.L j=true)
  {o:Oper} (ho:ops[i]?=some o) {a:AV} {v:Value} (hv:aY ρ μ a v) :
  iV P ρ orc nt ops pl bf μ G H nx {L:=K7 g.L i,D:=fun j=>g.D j||j==i,a0:=g.a0,val:=A5 g.val i (some a)} Fa aq (cy po.dst a tm) (I4 o.dst v tmps) rest:=by
 obtain⟨hi,hDi,BB⟩:=S.ready;obtain⟨o',Vt,EK,Xh,I5⟩:=S.QZ.at hi;rw[yS]at I5;cases I5;rw[ho]at EK;cases EK;obtain⟨qE,Xi,D0⟩:=j5 Xh;have hdi:qc ops i=o.dst:=by simp[qc,ho]
 have awy:∀x,o.dst=some x→x<tmps.size:=by
  intro x hx;rcases D0 with⟨h,_⟩|⟨k,h,_,cH⟩
  ·rw[h]at hx;cases hx
  ·rw[h]at hx;cases hx;exact Lm cH S.sz
 have Gb:=fun t=>ahl (v:=v) t awy;have anc:(I4 o.dst v tmps).size=tmps.size:=by cases o.dst<;>simp[I4]
 have hD':∀j,((g.D j||j==i)=true)↔(g.D j=true∨j=i):=by intro j;simp
 have Oh:∀j,hasB (K7 g.L i) j=true↔(hasB g.L j=true∨j=i):=by intro j;rw[Lf,Bool.or_eq_true,decide_eq_true_eq];exact⟨fun h=>h.imp id Eq.symm,fun h=>h.imp id Eq.symm⟩
 have hnb:∀p,hasB g.L p=true→hasB (im bf p) i=false:=by
  intro p hp;cases h:hasB (im bf p) i with
  |false=>rfl
  |true=>have:=S.lcl p hp i hi h;rw[hL]at this;cases this
 refine⟨S.QZ,S.ord.2.2.2,?_,?_,?_,?_,?_,?_,by rw[anc];exact S.sz,?_,?_,?_,?_,S.nk,S.ni⟩
 ·intro j oj hj hoj e he sR;rcases (hD' j).1 hj with h|h
  ·exact(hD' _).2 (.inl (S.cl j oj h hoj e he sR))
  ·subst h;exact(hD' _).2 (.inl (S.ord.2.2.1 oj hoj e he sR))
 ·intro j hj;rcases (hD' j).1 hj with h|h
  ·exact(Oh j).2 (.inl (S.sub j h))
  ·exact(Oh j).2 (.inr h)
 ·intro j hj;rcases (Oh j).1 hj with h|h
  ·exact S.Kz j h
  ·subst h;exact hi
 ·intro j hj q hq Rl;rcases (Oh j).1 hj with h|h
  ·exact(Oh q).2 (.inl (S.lcl j h q hq Rl))
  ·subst h;exact(Oh q).2 (.inl (hb q hq Rl))
 ·intro k j hj hd;rcases D0 with⟨e1,e2⟩|⟨kd,e1,e2,_⟩
  ·rcases (Oh j).1 hj with h|h
   ·have bT:j≠i:=by intro e;subst e;rw[hL]at h;cases h
    rw[e2];simp only[cy,A5,bT,if_false];exact S.a1 k j h hd
   ·subst h;rw[hdi,e1]at hd;cases hd
  ·rw[e2];simp only[cy];rcases (Oh j).1 hj with h|h
   ·have bT:j≠i:=by intro e;subst e;rw[hL]at h;cases h
    have hk:k≠kd:=by intro e;subst e;exact bT (S.QZ.QG hd (hdi.trans e1))
    rw[aG _ _ _ _ hk];simp only[A5,bT,if_false];exact S.a1 k j h hd
   ·subst h;rw[hdi,e1]at hd;have hk:k=kd:=Key.toNat_inj (by simpa using hd.symm);subst hk;rw[gTSm];simp[A5]
 ·intro k lC;rcases D0 with⟨e1,e2⟩|⟨kd,e1,e2,_⟩
  ·rw[e2];exact S.a2 k fun j hj=>lC j ((Oh j).2 (.inl hj))
  ·rw[e2];simp only[cy];have hk:k≠kd:=by intro e;subst e;exact lC i ((Oh i).2 (.inr rfl)) (hdi.trans e1)
   rw[aG _ _ _ _ hk];exact S.a2 k fun j hj=>lC j ((Oh j).2 (.inl hj))
 ·intro k j b hj hjd hjv;rw[Gb];rcases (hD' j).1 hj with h|h
  ·have bT:j≠i:=by intro e;subst e;rw[hDi]at h;cases h
   by_cases e:o.dst=some k.toNat
   ·exact absurd (S.QZ.QG (hdi.trans e) hjd).symm bT
   ·rw[if_neg e];exact S.c1 k j b h hjd (by simpa[A5,bT]using hjv)
  ·subst h;rw[hdi]at hjd;rw[if_pos hjd];have hjv:b=a:=by simpa[A5]using hjv.symm
   subst hjv;exact⟨v,rfl,hv⟩
 ·intro k b lC ha;rw[Gb];have hni:o.dst≠some k.toNat:=by intro e;exact lC i ((hD' i).2 (.inr rfl)) (hdi.trans e)
  rw[if_neg hni];exact S.c2 k b (fun j hj=>lC j ((hD' j).2 (.inl hj))) ha
 ·intro j hj hjD;have hjD:(g.D j||j==i)=false:=hjD;rw[Bool.or_eq_false_iff]at hjD;have bT:j≠i:=by simpa using hjD.2
  have hjL:=((Oh j).1 hj).resolve_right bT;exact(S.pd j hjL hjD.1).jv (hnb j hjL) bT (fun _ h=>h) (fun _ h=>.inl h)
 ·intro x hx;obtain⟨p1,p2,p3,p4,p5⟩:=S.pe x hx;have bT:x.1≠i:=by intro e;rw[e,hL]at p1;cases p1
  refine⟨(Oh _).2 (.inl p1),fun h=>p2 (((hD' _).1 h).resolve_right bT),fun h=>p3 ?_,p4,p5⟩;have h:(g.D x.1||x.1==i)=false:=h;rw[Bool.or_eq_false_iff]at h;exact h.1
theorem iV.Rf(S:iV P ρ orc nt ops pl bf μ G H nx g Fa aq tm tmps (i ::rest))(hL:hasB g.L i=false)(hb:∀j,j<ops.size→hasB (im bf i) j=true→hasB g.L j=true){o:Oper}(ho:ops[i]?=some o) :
  ∀(k:Key) a,k.toNat∈nv ops o→ae k tm=some a→∃v,tmps[k.toNat]?=some v∧aY ρ μ a v:=
 S.Mq (S.aoS S.ready.1 hL hb) ho
theorem KL:∀{p:List (Nat×Key×ag)} {h:T ag},HSub h G→(∀x∈p,G x.2.1=some x.2.2)→HSub (dO p h) G
 | [],h,hs,_=>hs
 |x ::p,h,hs,hp=>by
  refine KL (p:=p) ?_ (fun y hy=>hp y (by simp[hy]));intro b B hb;by_cases e:b=x.2.1
  ·subst e;rw[gTSm]at hb;cases hb;exact hp x (by simp)
  ·rw[aG _ _ _ _ e]at hb;exact hs b B hb
theorem B0:∀{p:List (Nat×Key×ag)} {h:T ag} {b:Key},ae b h=none→(∀x∈p,x.2.1.toNat≠b.toNat)→ae b (dO p h)=none
 | [],h,b,hb,_=>hb
 |x ::p,h,b,hb,hp=>by refine B0 (p:=p) ?_ (fun y hy=>hp y (by simp[hy]));rw[aG _ _ _ _ (fun e=>hp x (by simp) (by rw[e]))];exact hb
end
end Go.Sx
