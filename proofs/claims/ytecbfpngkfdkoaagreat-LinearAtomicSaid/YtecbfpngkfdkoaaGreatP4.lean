/- A part of the proof. No condition. -/
import Derived.Test.YtecbfpngkfdkoaaGreatP3
import Derived.Orders
import Derived.Recover
set_option linter.unusedSimpArgs false
set_option linter.unusedVariables false
set_option linter.unusedSectionVars false
namespace Go.Sx
open Go.RowKit
section
variable{P:Program}{ρ:Nat→Int}{w0:W0}{w:World}{μ:Mu}{G:Key→Option ah}{nx:Key}{orc:iV}{nt:Nat}{tm:T AV}{H:T ah}{ev:Operand→Value}
theorem Vh{op:Lr}{r:OR}(h:aOp orc op tm H nx=r)(hl:aOp orc op tm H nx=okV H nx (lightOp orc op tm H)):(∃a H' nx',r=.val a H' nx')∨∃n,r=.bad n:=by
 rw[hl]at h;subst h;cases lightOp orc op tm H with
 |none=>exact .inr ⟨_,rfl⟩
 |some v=>exact .inl ⟨_,_,_,rfl⟩
def DE(r:OR):Prop:=(∃a H' nx',r=.val a H' nx')∨∃n,r=.bad n
def av5:Lr→Bool
 |.callF _ _|.callV _ _|.dfr _ _|.panic _|.recover=>true
 |_=>false
theorem ahv{α:Type}{vs:List α}{off:Nat}{l:List α}{bad:OR}{c:List α→OR}(hb:DE bad)(hc:∀l,DE (c l)):DE (aag vs off l bad c):=by
 rw[putC_eq];split
 ·exact hc _
 ·exact hb
theorem Tb{α:Type}{n:Nat}{l:List α}{bad:OR}{c:List α→OR}(hb:DE bad)(hc:∀l,DE (c l)):DE (AT n l bad c):=by
 rw[takeC_eq];split
 ·exact hc _
 ·exact hb
theorem dv(n:Nat):DE (.bad n):=.inr ⟨n,rfl⟩
theorem qE(a:AV)(H:T ah)(nx:Key):DE (.val a H nx):=.inl ⟨_,_,_,rfl⟩
theorem Tc(f:Key→AV)(B:ah):DE (newB f B H nx):=by simp only[newB,sTCe];exact qE _ _ _
theorem lq{b:Bool}{x y:OR}(hx:DE x)(hy:DE y):DE (bif b then x else y):=by cases b<;>assumption
theorem yB(sz:Nat)(s:AV)(new:List AV)(m:Nat):DE (appendTo sz s new m H nx):=by
 unfold appendTo;split
 ·refine lq (qE _ _ _) (lq ?_ (dv _));rw[sTCe];exact qE _ _ _
 ·refine lq (qE _ _ _) (lq ?_ (dv _));split
  ·exact dv _
  ·split
   ·rw[appC_eq,sTCe,sTCe];exact qE _ _ _
   ·exact dv _
 ·refine lq ?_ (dv _);split
  ·refine lq (ahv (dv _) fun _=>by rw[sTCe];exact qE _ _ _) (Tb (dv _) fun _=>?_);rw[yv (GD 9999),appC_eq,sTCe];exact qE _ _ _
  ·refine lq (dv _) (Tb (dv _) fun _=>?_);rw[yv (GD 9999),appC_eq,sTCe];exact qE _ _ _
  ·refine lq (qE _ _ _) (lq (lq ?_ ?_) (dv _))<;>(rw[appC_eq,sTCe,sTCe];exact qE _ _ _)
  ·exact dv _
 ·exact dv _
theorem av6{op:Lr}(he:av5 op=false):DE (aOp orc op tm H nx):=by
 cases op with
 |callF f' ps=>cases he
 |callV pv ps=>cases he
 |dfr v l=>cases he
 |panic x=>cases he
 |recover=>cases he
 |strb x=>
  simp only[aOp];split
  ·exact qE _ _ _
  ·exact dv _
 |store n pa pv=>
  simp only[aOp];split
  ·refine lq ?_ (dv _);split
   ·exact dv _
   ·exact dv _
   ·exact ahv (dv _) fun _=>by rw[sTCe];exact qE _ _ _
   ·exact dv _
  ·exact dv _
 |mapupd sk pm pk pv=>
  simp only[aOp];split
  ·split
   ·split
    ·rw[sTCe];exact qE _ _ _
    ·exact dv _
   ·exact dv _
  ·exact dv _
 |append sz ps px=>
  simp only[aOp];split
  ·exact yB _ _ _ _
  ·refine lq ?_ (dv _);split
   ·exact Tb (dv _) fun _=>by rw[yv (GD 9999)];exact yB _ _ _ _
   ·exact dv _
  ·exact lq (yB _ _ _ _) (dv _)
  ·exact lq (yB _ _ _ _) (dv _)
  ·exact dv _
 |new zs=>simp only[aOp];split;exact Tc _ _;exact dv _
 |box x=>simp only[aOp];split;exact Tc _ _;exact dv _
 |bslice sz len zs ps=>simp only[aOp];split;exact Tc _ _;exact dv _
 |mkmap=>simp only[aOp];split;exact Tc _ _;exact dv _
 |mkslice sz zs l c=>simp only[aOp];split;exact Tc _ _;exact dv _
 |_=>exact Vh rfl rfl
theorem MB{op:Lr}{r:OR}(h:aOp orc op tm H nx=r)(hr:¬DE r):av5 op=true:=by
 cases he:av5 op with
 |true=>rfl
 |false=>exact absurd (h ▸ av6 (orc:=orc) (tm:=tm) (H:=H) (nx:=nx) he) hr
theorem ahw{f:Nat}{first cap:List AV}{v:Value}(h:aX ρ μ (.fn f first cap) v):∃vs ws,v=.func (.func f) vs ws∧aB ρ μ first vs.toList∧aB ρ μ cap ws.toList:=by cases h with|fn _ _ _ vs ws h h'=>exact⟨vs,ws,rfl,h,h'⟩
theorem qW {f : Nat} {fn : Func} (hf : P.funcs[f]? = some fn) (hb : fn.body.isSome = true) (hn : fn.name ≠ "runtime.NumGoroutine") (args : Array Value) : (callFunc f args).run P w = .ok (.enter f args) w := by
 have h1:fn.body.isNone=false:=by cases h:fn.body<;>simp_all
 have h2 : (fn.name == "runtime.NumGoroutine") = false := by simpa using hn
 simp only[callFunc,sJ,run_program,o4,hf,h2,h1,Wh,if_false,xA]
theorem adH{o:Oper}{op:Lr}(hp:jJ P nt o=some op)(hE:Co P ρ μ nt o.op.operands.toList tm ev){f:Nat}{l:List AV}(h:aOp orc op tm H nx=.call f l)
  {fn : Func} (hf : P.funcs[f]? = some fn) (hb : fn.body.isSome = true) (hn : fn.name ≠ "runtime.NumGoroutine") :
  ∃args,(Go.execOp ev o).run P w=.ok (.enter f args) w∧aB ρ μ l args.toList:=by
 have he:=MB h (by rintro(⟨_,_,_,e⟩|⟨_,e⟩)<;>cases e);obtain⟨dst,Ir,ty,pos,after,guard⟩:=o;cases op<;>first|(cases he;done)|skip
 ·rename_i f' ps;obtain⟨c,fn',e0,hc,dI,_⟩:=kH hp;obtain⟨callee,args,argTypes⟩:=c;simp only at e0 hc dI;subst e0 hc;simp only[aOp]at h;split at h
  ·rename_i l' RK;simp only[OR.call.injEq]at h;obtain⟨rfl,rfl⟩:=h;have hv:aX ρ μ (.fn f' [] []) (ev (.func f')):=hE (.func f') (by simp[Op.operands,Call.operands]) _ _ rfl rfl;obtain⟨vs,ws,e1,h1,h2⟩:=ahw hv;have hvs:vs=#[]:=by apply Array.ext';generalize vs.toList=x at h1;cases h1;rfl
   have hws:ws=#[]:=by apply Array.ext';generalize ws.toList=x at h2;cases h2;rfl
   subst hvs hws;refine⟨args.map ev,?_,?_⟩
   ·simp[Go.execOp,resolve,e1,Deferred.ofValue,invoke,qW hf hb hn]
   ·have:=mh (ev:=ev) dI RK (hE.sub fun y hy=>by simp[Op.operands,Call.operands]at hy ⊢;exact .inr hy);simpa using this
  ·cases h
 ·rename_i pv ps;obtain⟨c,x,e0,hc,hx,dI⟩:=kH hp;obtain⟨callee,args,argTypes⟩:=c;simp only at e0 hc dI;subst e0 hc;simp only[aOp]at h;split at h
  ·rename_i f' first cap l' Xv RK
   simp only[OR.call.injEq]at h;obtain⟨rfl,rfl⟩:=h;have hv:=hE x (by simp[Op.operands,Call.operands]) pv _ hx Xv;obtain⟨vs,ws,e1,h1,h2⟩:=ahw hv;refine⟨vs++args.map ev++ws,?_,?_⟩
   ·simp[Go.execOp,resolve,e1,Deferred.ofValue,invoke,qW hf hb hn]
   ·have:=mh (ev:=ev) dI RK (hE.sub fun y hy=>by simp[Op.operands,Call.operands]at hy ⊢;exact .inr hy);have h3:aB ρ μ l' (args.map ev).toList:=by simpa using this
    simpa using(h1.append h3).append h2
  ·cases h
  ·cases h
 ·rename_i v l';simp only[aOp]at h;split at h<;>cases h
 ·rename_i x;simp only[aOp]at h;split at h<;>cases h
 ·cases h
theorem aiH{o:Oper}{op:Lr}(hp:jJ P nt o=some op)(hE:Co P ρ μ nt o.op.operands.toList tm ev){k:Key}{l:List AV}(h:aOp orc op tm H nx=.yld k l) :
  ∃args lc,μ k=some lc∧(Go.execOp ev o).run P w=(Instr.yield lc.c args).run P w∧aB ρ μ l args.toList:=by
 have he:=MB h (by rintro(⟨_,_,_,e⟩|⟨_,e⟩)<;>cases e);obtain⟨dst,Ir,ty,pos,after,guard⟩:=o;cases op<;>first|(cases he;done)|skip
 ·simp only[aOp]at h;split at h<;>cases h
 ·rename_i pv ps;obtain⟨c,x,e0,hc,hx,dI⟩:=kH hp;obtain⟨callee,args,argTypes⟩:=c;simp only at e0 hc dI;subst e0 hc;simp only[aOp]at h;split at h
  ·cases h
  ·rename_i k' l' Xv RK;simp only[OR.yld.injEq]at h;obtain⟨rfl,rfl⟩:=h;have hv:=hE x (by simp[Op.operands,Call.operands]) pv _ hx Xv;generalize pg:ev x=xx at hv;cases hv with|yld _ lc r hm hr=>
   subst hr;refine⟨args.map ev,lc,hm,?_,?_⟩
   ·simp[Go.execOp,resolve,pg,Deferred.ofValue,invoke]
   ·have:=mh (ev:=ev) dI RK (hE.sub fun y hy=>by simp[Op.operands,Call.operands]at hy ⊢;exact .inr hy);simpa using this
  ·cases h
 ·simp only[aOp]at h;split at h<;>cases h
 ·simp only[aOp]at h;split at h<;>cases h
 ·cases h
theorem aiI{o:Oper}{op:Lr}(hp:jJ P nt o=some op)(hE:Co P ρ μ nt o.op.operands.toList tm ev){a:AV}(h:aOp orc op tm H nx=.pan a) :
  ∃v,(Go.execOp ev o).run P w=.halt (.panic v) w∧aX ρ μ a v:=by
 have he:=MB h (by rintro(⟨_,_,_,e⟩|⟨_,e⟩)<;>cases e);obtain⟨dst,Ir,ty,pos,after,guard⟩:=o;cases op<;>first|(cases he;done)|skip
 ·simp only[aOp]at h;split at h<;>cases h
 ·simp only[aOp]at h;split at h<;>cases h
 ·simp only[aOp]at h;split at h<;>cases h
 ·rename_i px;obtain⟨x,e0,hx⟩:=kH hp;simp only at e0;subst e0;simp only[aOp]at h;split at h
  ·rename_i t u hu;simp only[OR.pan.injEq]at h;subst h;have hv:=hE x (by simp[Op.operands]) px _ hx hu;refine⟨ev x,?_,hv⟩;generalize pg:ev x=xx at hv;cases hv;simp[Go.execOp,pg,Instr.panic]
  ·cases h
 ·cases h
theorem aiJ{o:Oper}{op:Lr}(hp:jJ P nt o=some op)(hE:Co P ρ μ nt o.op.operands.toList tm ev){f:Nat}{l:List AV}(h:aOp orc op tm H nx=.dfr f l) :
  ∃c ws vs,o.op=.defer c∧(resolve ev c o.type).run P w=.ok ⟨.fn (.func f) ws,vs⟩ w∧(Go.execOp ev o).run P w=.ok (.defer ⟨.fn (.func f) ws,vs⟩) w∧aB ρ μ l (vs++ws).toList:=by
 have he:=MB h (by rintro(⟨_,_,_,e⟩|⟨_,e⟩)<;>cases e);obtain⟨dst,Ir,ty,pos,after,guard⟩:=o;cases op<;>first|(cases he;done)|skip
 ·simp only[aOp]at h;split at h<;>cases h
 ·simp only[aOp]at h;split at h<;>cases h
 ·rename_i pv ps;obtain⟨c,x,e0,hc,hx,dI⟩:=kH hp;obtain⟨callee,args,argTypes⟩:=c;simp only at e0 hc dI;subst e0 hc;simp only[aOp]at h;split at h
  ·rename_i f' first cap l' Xv RK
   simp only[OR.dfr.injEq]at h;obtain⟨rfl,rfl⟩:=h;have hv:=hE x (by simp[Op.operands,Call.operands]) pv _ hx Xv;obtain⟨vs,ws,e1,h1,h2⟩:=ahw hv;refine⟨_,ws,vs++args.map ev,rfl,?_,?_,?_⟩
   ·simp[resolve,e1,Deferred.ofValue]
   ·simp[Go.execOp,resolve,e1,Deferred.ofValue]
   ·have:=mh (ev:=ev) dI RK (hE.sub fun y hy=>by simp[Op.operands,Call.operands]at hy ⊢;exact .inr hy);have h3:aB ρ μ l' (args.map ev).toList:=by simpa using this
    simpa using(h1.append h3).append h2
  ·cases h
 ·simp only[aOp]at h;split at h<;>cases h
 ·cases h
theorem UM{o:Oper}{op:Lr}(hp:jJ P nt o=some op)(h:aOp orc op tm H nx=.recover):(Go.execOp ev o).run P w=.ok .recover w:=by
 have he:=MB h (by rintro(⟨_,_,_,e⟩|⟨_,e⟩)<;>cases e);obtain⟨dst,Ir,ty,pos,after,guard⟩:=o;cases op<;>first|(cases he;done)|skip
 ·simp only[aOp]at h;split at h<;>cases h
 ·simp only[aOp]at h;split at h<;>cases h
 ·simp only[aOp]at h;split at h<;>cases h
 ·simp only[aOp]at h;split at h<;>cases h
 ·obtain⟨c,e0,hc,dI⟩:=kH hp;obtain⟨callee,args,argTypes⟩:=c;simp only at e0 hc dI;subst e0 hc dI;simp[Go.execOp,resolve,invoke,Go.builtin]
end
def UP(ops:Array Oper):(Nat→Bool)→List Nat→Prop
 |D,[]=>∀i,i<ops.size→D i=true
 |D,i ::r=>i<ops.size∧D i=false∧(∀o,ops[i]?=some o→∀e∈o.after.toList,Region.binds .any e=true→D e.on=true)∧UP ops (fun j=>D j||j==i) r
theorem UP.congr{ops:Array Oper}:∀{l:List Nat} {D D':Nat→Bool},(∀i,i<ops.size→D i=D' i)→(∀(i:Nat) (o:Oper),ops[i]?=some o→∀e∈o.after.toList,Region.binds .any e=true→e.on<ops.size)→UP ops D l→UP ops D' l
 | [],D,D',h,_,hv=>fun i hi=>by rw[←h i hi];exact hv i hi
 |i ::r,D,D',h,he,hv=>by obtain⟨h1,h2,h3,h4⟩:=hv;refine⟨h1,by rw[←h i h1];exact h2,fun o ho e hm hb=>?_,UP.congr (fun j hj=>by rw[h j hj]) he h4⟩;rw[←h e.on (he i o ho e hm hb)];exact h3 o ho e hm hb
def NK(ops:Array Oper):Prop:=∀(i:Nat) (o:Oper),ops[i]?=some o→∀e∈o.after.toList,Region.binds .any e=true→e.on<i
def unl(n:Nat)(listed:Array Bool):Nat:=(List.range n).countP fun i=>!listed.getD i true
theorem aiD{n:Nat}{listed:Array Bool}(hs:listed.size=n){i:Nat}(hi:i<n)(hf:listed.getD i true=false):unl n listed=unl n (listed.setIfInBounds i true)+1:=by
 unfold unl;have key:∀(l:List Nat),l.Nodup→(∀j∈l,j<n)→l.countP (fun j=>!listed.getD j true)=l.countP (fun j=>!(listed.setIfInBounds i true).getD j true)+(if i∈l then 1 else 0):=by
  intro l
  induction l with
  |nil=>intro _ _;simp
  |cons x l ih=>
   intro Ge cQ;have aDh:=List.nodup_cons.1 Ge;rw[List.countP_cons,List.countP_cons,ih aDh.2 (fun j hj=>cQ j (by simp[hj]))];by_cases hx:x=i
   ·subst hx;have h1:(listed.setIfInBounds x true).getD x true=true:=by simp[Array.getD,hs,hi]
    simp only[hf,h1,aDh.1,if_false,GP,true_or,if_true];simp
   ·have h1:(listed.setIfInBounds i true).getD x true=listed.getD x true:=by simp only[Array.getD_eq_getD_getElem?];rw[zqn (fun e=>hx e.symm)]
    have h2:(i∈x ::l)↔i∈l:=by simp[Ne.symm hx]
    simp only[h1,h2];omega
 rw[key _ List.nodup_range (fun j hj=>by simpa using hj),if_pos (by simpa using hi)]
theorem as4{n:Nat}{listed:Array Bool}(h:0<unl n listed):∃i,i<n∧listed.getD i true=false∧∀j,j<i→listed.getD j true=true:=by
 unfold unl at h;rw[List.countP_pos_iff]at h;obtain⟨a,ha,hb⟩:=h;have ha:a<n:=by simpa using ha
 have hb:listed.getD a true=false:=by simpa using hb
 induction a using Nat.strongRecOn with
 |_ a ih=>
  by_cases KL:∀j,j<a→listed.getD j true=true
  ·exact⟨a,ha,hb,KL⟩
  ·simp only[Classical.not_forall]at KL;obtain⟨j,hj,hjf⟩:=KL;exact ih j hj (by simpa using Nat.lt_trans hj ha) (by simpa using hjf) (Nat.lt_trans hj ha) (by simpa using hjf)
theorem Np{ops:Array Oper}(hd:NK ops):∀(fuel t:Nat) (listed:Array Bool) (acc:List Nat),listed.size=ops.size→unl ops.size listed=fuel→
  ∃r,Region.linearise.go .any ops fuel t listed acc=acc.reverse++r∧UP ops (fun i=>listed.getD i true) r
 |0,t,listed,acc,hs,hu=>by
  refine⟨[],by simp[Region.linearise.go],fun i hi=>?_⟩;show listed.getD i true=true;cases h:listed.getD i true with
  |true=>rfl
  |false=>have:=aiD hs hi h;omega
 |fuel+1,t,listed,acc,hs,hu=>by
  obtain⟨i0,hi0,hf0,aLi⟩:=as4 (n:=ops.size) (listed:=listed) (by omega);simp only[Region.linearise.go];generalize hrs:(List.range ops.size).filter (fun i=>!listed.getD i true&&((ops[i]?).map (·.after.all fun e=>!Region.binds .any e||listed.getD e.on false)).getD false)=rs;have IS:∀i,i∈rs↔i<ops.size∧listed.getD i true=false∧∀o,ops[i]?=some o→∀e∈o.after.toList,Region.binds .any e=true→listed.getD e.on false=true:=by
   intro i;rw[←hrs,List.mem_filter];constructor
   ·rintro⟨h1,h2⟩;have hi:i<ops.size:=by simpa using h1
    simp only[jq,Bool.not_eq_true']at h2;refine⟨hi,h2.1,fun o ho e he hb=>?_⟩;have h3:=h2.2;rw[ho]at h3;simp only[Option.map_some,Option.getD_some,Array.all_eq_true_iff_forall_mem]at h3;have:=h3 e (by simpa using he);simpa[hb]using this
   ·rintro⟨hi,h1,h2⟩;refine⟨by simpa using hi,?_⟩;simp only[jq,Bool.not_eq_true'];refine⟨h1,?_⟩;have ho:ops[i]?=some ops[i]:=by simp[hi]
    rw[ho];simp only[Option.map_some,Option.getD_some,Array.all_eq_true_iff_forall_mem];intro e he;cases hb:Region.binds .any e with
    |false=>rfl
    |true=>simpa using h2 _ ho e (by simpa using he) hb
  have bW:i0∈rs:=by
   rw[IS];refine⟨hi0,hf0,fun o ho e he hb=>?_⟩;have cQ:=hd i0 o ho e he hb;have h1:=aLi e.on cQ;have:e.on<listed.size:=by omega
   simp only[Array.getD_eq_getD_getElem?,this,getElem?_pos,Option.getD_some]at h1 ⊢;exact h1
  have hlen:0<rs.length:=List.length_pos_of_mem bW;have cQ:t%rs.length<rs.length:=Nat.mod_lt _ hlen;have FV:rs[t%rs.length]?=some rs[t%rs.length]:=by simp[cQ]
  rw[FV];have yI:rs[t%rs.length]∈rs:=LA cQ;generalize rs[t%rs.length]=i at yI;obtain⟨hi,hf,aLj⟩:=(IS i).1 yI;have hun:=aiD hs hi hf;obtain⟨r,hr,hv⟩:=Np hd fuel (t / rs.length) (listed.setIfInBounds i true) (i ::acc) (by simp[hs]) (by omega);refine⟨i ::r,?_,hi,hf,fun o ho e he hb=>?_,?_⟩
  ·show Region.linearise.go _ _ _ _ _ _=_;rw[hr];simp
  ·have h1:=aLj o ho e he hb;have cQ:=hd i o ho e he hb;have:e.on<listed.size:=by omega
   simp only[Array.getD_eq_getD_getElem?,this,getElem?_pos,Option.getD_some]at h1 ⊢;exact h1
  ·refine UP.congr ?_ (fun j o ho e he hb=>?_) hv
   ·intro j hj;by_cases L1:j=i
    ·subst L1;have:j<listed.size:=by omega
     simp[Array.getD,this]
    ·simp only[Array.getD_eq_getD_getElem?];rw[zqn (fun e=>L1 e.symm)];simp[L1]
   ·have h1:=hd j o ho e he hb;have:j<ops.size:=by
     rcases KA j ops.size with h'|h'
     ·exact h'
     ·rw[ZS h']at ho;cases ho
    omega
theorem Uy{ops:Array Oper}(hd:NK ops)(t:Nat):UP ops (fun _=>false) (Region.schedule true ops t):=by
 have hu:unl ops.size (Array.replicate ops.size false)=ops.size:=by
  unfold unl;rw[List.countP_eq_length.2 (fun a ha=>by
   have:a<ops.size:=by simpa using ha
   simp[Array.getD,this])]
  simp
 obtain⟨r,hr,hv⟩:=Np hd ops.size t (Array.replicate ops.size false) [] (by simp) hu;have:Region.schedule true ops t=r:=by simp[Region.schedule,Region.linearise,hr]
 rw[this];refine UP.congr (fun i hi=>by simp[Array.getD,hi]) (fun j o ho e he hb=>?_) hv;have h1:=hd j o ho e he hb;have:j<ops.size:=by
  rcases KA j ops.size with h'|h'
  ·exact h'
  ·rw[ZS h']at ho;cases ho
 omega
section
variable{P:Program}{fr:Frame}{cs:List Frame}{w w':World}{k:List Item}
def G1(fr:Frame)(cs:List Frame):Goroutine:={frame:=fr,callers:=cs,status:=.running,dying:=none}
theorem ajS(hm:fr.mode=.run):stepG P true (G1 fr cs) w=stepG.exec P true true fr cs none w:=by simp[stepG,G1,hm]
theorem YC(hm:fr.mode≠.run):stepG P true (G1 fr cs) w=unwind P true fr cs none w:=by
 cases h:fr.mode with
 |run=>exact absurd h hm
 |returning=>simp[stepG,G1,h]
 |panicking c=>simp[stepG,G1,h]
theorem dS{fR:Frame}{yu:List Frame}(hm:fr.mode=.run)(h:(stepG.exec P true true fr cs none w).bare=.go (G1 fR yu) w'):step P (lone fr cs w)=.next (lone fR yu w'):=
 step_lone_go (by have:=ajS (P:=P) (cs:=cs) (w:=w) hm;simp only[G1]at this h;rw[this];exact h)
theorem Ow{fR:Frame}{yu:List Frame}(hm:fr.mode≠.run)(h:(unwind P true fr cs none w).bare=.go (G1 fR yu) w'):step P (lone fr cs w)=.next (lone fR yu w'):=
 step_lone_go (by have:=YC (P:=P) (cs:=cs) (w:=w) hm;simp only[G1]at this h;rw[this];exact h)
theorem arS(hm:fr.mode=.run)(ht:fr.todo=.code .skip ::k):step P (lone fr cs w)=.next (lone {fr with todo:=k} cs w):=
 dS hm (by simp[stepG.exec,ht,G1])
theorem axw{a b:Code}(hm:fr.mode=.run)(ht:fr.todo=.code (.seq a b) ::k):step P (lone fr cs w)=.next (lone {fr with todo:=.code a ::.code b ::k} cs w):=
 dS hm (by simp[stepG.exec,ht,G1])
theorem ahV{c:Operand}{a b:Code}{t:Bool}(hm:fr.mode=.run)(ht:fr.todo=.code (.cond c a b) ::k)(hc:fr.eval c=.bool t) :
  step P (lone fr cs w)=.next (lone {fr with todo:=.code (if t then a else b) ::k} cs w):=
 dS hm (by simp[stepG.exec,ht,G1,hc])
theorem anG{id:Nat}{c:Code}(hm:fr.mode=.run)(ht:fr.todo=.code (.block id c) ::k):step P (lone fr cs w)=.next (lone {fr with todo:=.code c ::.inBlock id ::k} cs w):=
 dS hm (by simp[stepG.exec,ht,G1])
theorem aex{id:Nat}(hm:fr.mode=.run)(ht:fr.todo=.inBlock id ::k):step P (lone fr cs w)=.next (lone {fr with todo:=k} cs w):=
 dS hm (by simp[stepG.exec,ht,G1])
theorem anH{c:Code}(hm:fr.mode=.run)(ht:fr.todo=.code (.scope c) ::k):step P (lone fr cs w)=.next (lone {fr with todo:=.code c ::.inScope c ::k} cs w):=
 dS hm (by simp[stepG.exec,ht,G1])
theorem anI{i:Nat}(hm:fr.mode=.run)(ht:fr.todo=.code (.label i) ::k):step P (lone fr cs w)=.next (lone {fr with todo:=k} cs w):=
 dS hm (by simp[stepG.exec,ht,G1])
theorem aey{c:Code}(hm:fr.mode=.run)(ht:fr.todo=.inScope c ::k):step P (lone fr cs w)=.next (lone {fr with todo:=k} cs w):=
 dS hm (by simp[stepG.exec,ht,G1])
theorem arT{c:Code}(hm:fr.mode=.run)(ht:fr.todo=.code (.loop c) ::k):step P (lone fr cs w)=.next (lone {fr with todo:=.code c ::.inLoop c ::k} cs w):=
 dS hm (by simp[stepG.exec,ht,G1])
theorem ajt{c:Code}(hm:fr.mode=.run)(ht:fr.todo=.inLoop c ::k):step P (lone fr cs w)=.next (lone {fr with todo:=.code c ::.inLoop c ::k} cs w):=
 dS hm (by simp[stepG.exec,ht,G1])
theorem arU{id:Nat}{k':List Item}(hm:fr.mode=.run)(ht:fr.todo=.code (.exit id) ::k)(he:exitTo id k=some k'):step P (lone fr cs w)=.next (lone {fr with todo:=k'} cs w):=
 dS hm (by simp[stepG.exec,ht,G1,he])
theorem ajT{id:Nat}{ops:Array Oper}(hm:fr.mode=.run)(ht:fr.todo=.code (.region id ops false) ::k) :
  step P (lone fr cs w)=.next (lone {fr with todo:=.inRegion ops (List.range ops.size) ::k} cs w):=
 dS hm (by simp[stepG.exec,ht,G1])
theorem arW{id:Nat}{ops:Array Oper}(hm:fr.mode=.run)(ht:fr.todo=.code (.region id ops true) ::k) :
  ∃t,step P (lone fr cs w)=.next (lone {fr with todo:=.inRegion ops (Region.schedule (P.follows .mixedOrders) ops t) ::k} cs {w with drawn:=w.drawn+1}):=
 ⟨w.tape w.drawn (.order fr.fn id),dS hm (by simp[stepG.exec,ht,G1,choose,Sem.run,Question.forced,Question.cut])⟩
theorem JU{ops:Array Oper}(hm:fr.mode=.run)(ht:fr.todo=.inRegion ops [] ::k):step P (lone fr cs w)=.next (lone {fr with todo:=k} cs w):=
 dS hm (by simp[stepG.exec,ht,G1])
theorem axx(hm:fr.mode=.run)(ht:fr.todo=[])(hr:fr.roundOf=none):step P (lone fr cs w)=.next (lone {fr with mode:=.returning} cs w):=
 dS hm (by simp[stepG.exec,ht,G1,hr])
theorem axy(hm:fr.mode=.run)(ht:fr.todo=.code .ret ::k)(hr:fr.roundOf=none):step P (lone fr cs w)=.next (lone {fr with mode:=.returning} cs w):=
 dS hm (by simp[stepG.exec,ht,G1,hr])
variable{ops:Array Oper}{i:Nat}{rest:List Nat}{o:Oper}
theorem KY(hm:fr.mode=.run)(ht:fr.todo=.inRegion ops (i ::rest) ::k)(ho:ops[i]?=some o)(hw:Region.wanted o (yielded ops fr.tmps)=false) :
  step P (lone fr cs w)=.next (lone (fr.finish undef) cs w):=
 dS hm (by simp[stepG.exec,ht,G1,ho,hw])
def fO:Op→Bool
 |.defer _=>true
 |_=>false
theorem Br(ht:fr.todo=.inRegion ops (i ::rest) ::k)(ho:ops[i]?=some o)(hw:Region.wanted o (yielded ops fr.tmps)=true)(hd:fr.roundOf=none∨fO o.op=false) :
  stepG.exec P true true fr cs none w=stepG.apply P true fr cs none (Go.execOp fr.eval o) w:=by
 simp only[stepG.exec,ht,ho,Option.map_some,Option.getD_some,hw,if_true,stepG.oper,Frame.oper?];cases hr:fr.roundOf with
 |none=>rfl
 |some l=>rw[hr]at hd;have hd:fO o.op=false:=hd.resolve_left (by simp);cases lf:o.op<;>first|rfl|(rw[lf]at hd;cases hd)
theorem Yw{v:Value}(hm:fr.mode=.run)(ht:fr.todo=.inRegion ops (i ::rest) ::k)(ho:ops[i]?=some o)(hw:Region.wanted o (yielded ops fr.tmps)=true)(hd:fr.roundOf=none∨fO o.op=false)
  (h:(Go.execOp fr.eval o).run P w=.ok (.value v) w'):step P (lone fr cs w)=.next (lone (fr.finish v) cs w'):=
 dS hm (by rw[Br ht ho hw hd];simp[stepG.apply,h,G1])
theorem ahW(hm:fr.mode=.run)(ht:fr.todo=.inRegion ops (i ::rest) ::k)(ho:ops[i]?=some o)(hw:Region.wanted o (yielded ops fr.tmps)=true)(hd:fr.roundOf=none∨fO o.op=false)
  (h:(Go.execOp fr.eval o).run P w=.ok .skip w'):step P (lone fr cs w)=.next (lone (fr.finish undef) cs w'):=
 dS hm (by rw[Br ht ho hw hd];simp[stepG.apply,h,G1])
theorem alf{f:FuncId}{args:Array Value}(hm:fr.mode=.run)(ht:fr.todo=.inRegion ops (i ::rest) ::k)(ho:ops[i]?=some o)(hw:Region.wanted o (yielded ops fr.tmps)=true)(hd:fr.roundOf=none∨fO o.op=false)
  (h:(Go.execOp fr.eval o).run P w=.ok (.enter f args) w'):step P (lone fr cs w)=.next (lone (Frame.enter P f args .normal) (fr ::cs) w'):=
 dS hm (by rw[Br ht ho hw hd];simp[stepG.apply,h,G1,ht])
theorem alg{l:Nat}{f:FuncId}{tmps:Array Value}{as bd:Code}(hm:fr.mode=.run)(ht:fr.todo=.inRegion ops (i ::rest) ::k)(ho:ops[i]?=some o)(hw:Region.wanted o (yielded ops fr.tmps)=true)(hd:fr.roundOf=none∨fO o.op=false)
  (h:(Go.execOp fr.eval o).run P w=.ok (.round l f tmps as bd) w'):step P (lone fr cs w)=.next (lone (Frame.round l f tmps as bd .normal) (fr ::cs) w'):=
 dS hm (by rw[Br ht ho hw hd];simp[stepG.apply,h,G1])
theorem alh{v:Value}(hm:fr.mode=.run)(ht:fr.todo=.inRegion ops (i ::rest) ::k)(ho:ops[i]?=some o)(hw:Region.wanted o (yielded ops fr.tmps)=true)(hd:fr.roundOf=none∨fO o.op=false)
  (h:(Go.execOp fr.eval o).run P w=.halt (.panic v) w'):step P (lone fr cs w)=.next (lone {fr with mode:=.panicking [{v,recovered:=false}]} cs w'):=
 dS hm (by rw[Br ht ho hw hd];simp[stepG.apply,h,G1,Frame.raise,hm])
theorem ali{d:Deferred}(hm:fr.mode=.run)(ht:fr.todo=.inRegion ops (i ::rest) ::k)(ho:ops[i]?=some o)(hw:Region.wanted o (yielded ops fr.tmps)=true)(hd:fr.roundOf=none∨fO o.op=false)
  (h:(Go.execOp fr.eval o).run P w=.ok (.defer d) w'):step P (lone fr cs w)=.next (lone ({fr with defers:=d ::fr.defers}.finish undef) cs w'):=
 dS hm (by rw[Br ht ho hw hd];simp[stepG.apply,h,G1])
theorem Qe{v:Value}{yu:List Frame}(hm:fr.mode=.run)(ht:fr.todo=.inRegion ops (i ::rest) ::k)(ho:ops[i]?=some o)(hw:Region.wanted o (yielded ops fr.tmps)=true)(hr:fr.roundOf=none)
  (h:(Go.execOp fr.eval o).run P w=.ok .recover w') (adK:tryRecover fr cs=some (v,yu)):step P (lone fr cs w)=.next (lone (fr.finish v) yu w'):=
 dS hm (by rw[Br ht ho hw (.inl hr)];simp[stepG.apply,h,G1,hr,adK])
theorem Qf(hm:fr.mode=.run)(ht:fr.todo=.inRegion ops (i ::rest) ::k)(ho:ops[i]?=some o)(hw:Region.wanted o (yielded ops fr.tmps)=true)(hr:fr.roundOf=none)
  (h:(Go.execOp fr.eval o).run P w=.ok .recover w') (adK:tryRecover fr cs=none):step P (lone fr cs w)=.next (lone (fr.finish .nilIface) cs w'):=
 dS hm (by rw[Br ht ho hw (.inl hr)];simp[stepG.apply,h,G1,hr,adK])
end
section
variable{P:Program}{fr c:Frame}{cs:List Frame}{w w':World}{k:List Item}{fn:Func}
theorem aju{v:Value}(hm:fr.mode=.returning)(hd:fr.defers=[])(hk:fr.kind=.normal)(hf:P.funcs[fr.fn]?=some fn)(hr:(results fn fr.tmps).run P w=.ok v w) :
  step P (lone fr (c ::cs) w)=.next (lone (c.finish v) cs w):=
 Ow (by simp[hm]) (by simp[unwind,hd,hm,hf,hr,doReturn,hk,G1])
theorem KU{v:Value}(hm:fr.mode=.returning)(hd:fr.defers=[])(hk:fr.kind=.deferred)(hf:P.funcs[fr.fn]?=some fn)(hr:(results fn fr.tmps).run P w=.ok v w) :
  step P (lone fr (c ::cs) w)=.next (lone {c with mode:=settle c.mode} cs w):=
 step_going_returned (fr:=fr) hk ⟨hm,hd,fn,hf,hr⟩
theorem aaX{chain:List PanicEntry}(hm:fr.mode=.panicking chain)(hd:fr.defers=[])(hf:P.funcs[fr.fn]?=some fn) :
  step P (lone fr (c ::cs) w)=.next (lone (c.raise chain) cs w):=
 Ow (by simp[hm]) (by simp[unwind,hd,hm,Frame.catches,hf,G1])
theorem aaW{d:Deferred}{ds:List Deferred}{fv:Fn}{cap args:Array Value}{f:FuncId}(hm:fr.mode≠.run)(hd:fr.defers=d ::ds)(ht:d.target=.fn fv cap)
  (hi:(invoke d.target d.args).run P w=.ok (.enter f args) w):step P (lone fr cs w)=.next (lone (Frame.enter P f args .deferred) ({fr with defers:=ds} ::cs) w):=
 step_defer hm hd ht hi
theorem Yp{b:Nat}{ds Ce:List Deferred}(hm:fr.mode≠.run)(hd:fr.defers=⟨.collected b,#[]⟩ ::ds)(h:(Instr.takeDeferred b).run P w=.ok Ce w') :
  step P (lone fr cs w)=.next (lone {fr with defers:=Ce++ds} cs w'):=
 Ow hm (by simp[unwind,hd,h,G1])
theorem TQ{l:Nat}{v:Value}(hm:fr.mode=.run)(ht:fr.todo=[])(hr:fr.roundOf=some l)(hk:fr.kind=.normal)(h:(Instr.endRound l none).run P w=.ok v w') :
  step P (lone fr (c ::cs) w)=.next (lone (c.finish v) cs w'):=
 dS hm (by simp[stepG.exec,ht,hr,h,doReturn,hk,G1])
theorem YO{l:Nat}{v:Value}(hm:fr.mode=.run)(ht:fr.todo=.code .ret ::k)(hr:fr.roundOf=some l)(hk:fr.kind=.normal)(h:(Instr.endRound l (some .ret)).run P w=.ok v w') :
  step P (lone fr (c ::cs) w)=.next (lone (c.finish v) cs w'):=
 dS hm (by simp[stepG.exec,ht,hr,h,doReturn,hk,G1])
theorem VB{l id:Nat}{v:Value}(hm:fr.mode=.run)(ht:fr.todo=.code (.exit id) ::k)(he:exitTo id k=none)(hr:fr.roundOf=some l)(hk:fr.kind=.normal)(h:(Instr.endRound l (some (.exit id))).run P w=.ok v w') :
  step P (lone fr (c ::cs) w)=.next (lone (c.finish v) cs w'):=
 dS hm (by simp[stepG.exec,ht,he,hr,h,doReturn,hk,G1])
theorem Vi{l:Nat}(hm:fr.mode=.run)(ht:fr.todo=.beginRound ::k)(hr:fr.roundOf=some l)(h:(Instr.beginRound l).run P w=.ok () w') :
  step P (lone fr cs w)=.next (lone {fr with todo:=k} cs w'):=
 dS hm (by simp[stepG.exec,ht,hr,stepG.apply,h,G1,Frame.finish])
theorem amK{l:Nat}{j:Option Code}(hm:fr.mode=.run)(ht:fr.todo=.endRangeFunc l ::k)(h:(Instr.endLoop l).run P w=.ok j w') :
  step P (lone fr cs w)=.next (lone {fr with todo:=(j.map Item.code).toList++k} cs w'):=
 dS hm (by simp[stepG.exec,ht,h,G1])
theorem asq (ev : Operand → Value) {f : Operand} {g : FuncId} {first cap : Array Value} (hev : ev f = .func (.func g) first cap) {y : Value} (hy : ev (.const y) = y) {fn' : Func} (hf : P.funcs[g]? = some fn') (hb : fn'.body.isSome = true) (hn : fn'.name ≠ "runtime.NumGoroutine") :
  (do let d ←resolve ev {callee:=.value f,args:=#[.const y],argTypes:=#[]} 0;invoke d.target d.args:Sem Next).run P w=.ok (.enter g (first ++ #[y]++cap)) w:=by
 simp[resolve,hev,Deferred.ofValue,invoke,hy,qW hf hb hn]
theorem YP{f:Operand}{params:Array Tmp}{as bd:Code}{l:Nat}{mk:List Deferred}{w1:World}{g:FuncId}{first cap:Array Value}{fn':Func}(hm:fr.mode=.run)(ht:fr.todo=.code (.rangeFunc f params as bd) ::k)(hr:fr.roundOf=none)
  (h:(Instr.enterLoop fr.fn fr.tmps params as bd none).run P w=.ok (l,mk) w1) (hev:fr.eval f=.func (.func g) first cap)
  (hf : P.funcs[g]? = some fn') (hb : fn'.body.isSome = true) (hn : fn'.name ≠ "runtime.NumGoroutine") :
  step P (lone fr cs w)=.next (lone (Frame.enter P g (first ++ #[.func (.yield l) #[] #[]]++cap) .normal) ({fr with todo:=.inRangeFunc l ::k,defers:=mk++fr.defers} ::cs) w1):=by
 obtain⟨fn0,auJ,aOl,aif,aOm,auK,aJ6⟩:=fr;simp only at hm ht hr h hev;subst hm ht hr;refine dS rfl ?_;have asb:({fn:=fn0,tmps:=auJ,todo:=Item.inRangeFunc l ::k,defers:=mk++aif,mode:=.run,kind:=auK}:Frame).eval f=.func (.func g) first cap:=by rw[←hev];cases f<;>rfl
 have Qa:=asq (w:=w1) ({fn:=fn0,tmps:=auJ,todo:=Item.inRangeFunc l ::k,defers:=mk++aif,mode:=.run,kind:=auK}:Frame).eval asb (y:=.func (.yield l) #[] #[]) rfl hf hb hn;simp only[stepG.exec,Sem.runT_eq,h,GStep.bare_after];simp only[stepG.apply,Sem.runT_eq,Qa,GStep.bare_after];simp[G1]
end
structure Reg(P:Program)(nt:Nat)(ops:Array Oper)(pl:List aC)(bf:List Nat):Prop where
 xz:lY P nt ops (List.range ops.size)=some pl
 az7:Xj ops bf=true
section
variable{P:Program}{ρ:Nat→Int}{nt:Nat}{ops:Array Oper}{pl:List aC}{bf:List Nat}
theorem Kz:∀{l:List Nat} {pl:List aC},lY P nt ops l=some pl→pl.length=l.length∧∀(q i:Nat),l[q]?=some i→∃o po,ops[i]?=some o∧OQ P nt ops o=some po∧pl[q]?=some po
 | [],pl,h=>by simp only[lY,dP]at h;subst h;exact⟨rfl,fun q i hq=>by simp at hq⟩
 |j ::l,pl,h=>by
  simp only[lY]at h;split at h
  ·cases h
  ·rename_i o ho;split at h
   ·rename_i a r h1 h2;cases h;obtain⟨e1,e2⟩:=Kz h2;refine⟨by simp[e1],fun q i hq=>?_⟩;cases q with
    |zero=>simp at hq;subst hq;exact⟨o,a,ho,h1,by simp⟩
    |succ q=>simpa using e2 q i (by simpa using hq)
   ·cases h
theorem Reg.at(R:Reg P nt ops pl bf){i:Nat}(hi:i<ops.size):∃o po,ops[i]?=some o∧OQ P nt ops o=some po∧pl[i]?=some po:=by obtain⟨_,h⟩:=Kz R.xz;exact h i i (by simp[hi])
theorem Reg.at'(R:Reg P nt ops pl bf){i:Nat}{po:aC}(h:pl[i]?=some po):i<ops.size:=by
 obtain⟨h1,_⟩:=Kz R.xz;rcases KA i ops.size with h'|h'
 ·exact h'
 ·rw[zqo (by rw[h1];simpa using h')]at h;cases h
structure Edg(ops:Array Oper)(bf:List Nat):Prop where
 atl:Lx ops bf=true
theorem Edg.az8(R:Edg ops bf){i:Nat}{o:Oper}(ho:ops[i]?=some o){e:Edge}(he:e∈o.after.toList)(hb:Region.binds .any e=true):e.on<i∧hasB (cW bf i) e.on=true:=by
 have hi:i<ops.size:=by
  rcases KA i ops.size with h'|h'
  ·exact h'
  ·rw[ZS h']at ho;cases ho
 have h:=R.atl;unfold Lx at h;rw[sF]at h;have h:=h i (by simpa using hi);rw[ho]at h;simp only[jq,sF]at h;have h:=h.1 e he;simp only[hb,Bool.not_true,Bool.false_or,jq,bltN_eq,decide_eq_true_eq]at h;exact h
theorem Edg.down(R:Edg ops bf):NK ops:=fun _ _ ho _ he hb=>(R.az8 ho he hb).1
theorem Edg.pred(R:Edg ops bf){i:Nat}{o:Oper}(ho:ops[i]?=some o){j:Nat}(hj:j<ops.size)(hb:hasB (cW bf i) j=true) :
  ∃e∈o.after.toList,Region.binds .any e=true∧(e.on=j∨hasB (cW bf e.on) j=true):=by
 have hi:i<ops.size:=by
  rcases KA i ops.size with h'|h'
  ·exact h'
  ·rw[ZS h']at ho;cases ho
 have h:=R.atl;unfold Lx at h;rw[sF]at h;have h:=h i (by simpa using hi);rw[ho]at h;simp only[jq,sF]at h;have h:=h.2 j (by simpa using hj);simp only[hb,Bool.not_true,Bool.false_or,List.any_eq_true,jq,Bool.or_eq_true,beqN_eq,decide_eq_true_eq]at h;exact h
def adL(ops:Array Oper)(D:Nat→Bool):Prop:=∀(i:Nat) (o:Oper),D i=true→ops[i]?=some o→∀e∈o.after.toList,Region.binds .any e=true→D e.on=true
theorem Edg.closed(R:Edg ops bf){D:Nat→Bool}(hD:adL ops D):∀(i:Nat) (o:Oper),ops[i]?=some o→(∀e∈o.after.toList,Region.binds .any e=true→D e.on=true)→∀j,j<ops.size→hasB (cW bf i) j=true→D j=true:=by
 intro i
 induction i using Nat.strongRecOn with
 |_ i ih=>
  intro o ho hp j hj hb;obtain⟨e,he,heb,hor⟩:=R.pred ho hj hb;have cQ:=(R.az8 ho he heb).1;have hi:i<ops.size:=by
   rcases KA i ops.size with h'|h'
   ·exact h'
   ·rw[ZS h']at ho;cases ho
  rcases hor with h|h
  ·rw[←h];exact hp e he heb
  ·have ZT:ops[e.on]?=some ops[e.on]:=by
    have:e.on<ops.size:=by omega
    simp[this]
   exact ih e.on cQ _ ZT (fun e' he' fF=>hD e.on _ (hp e he heb) ZT e' he' fF) j hj h
theorem Reg.slot(R:Reg P nt ops pl bf){i j t:Nat}{o:Oper}(ho:ops[i]?=some o)(hj:nz ops j=some t) :
  (i=j→t∉lZ ops o)∧(i≠j→o.dst≠some t∧(t∈lZ ops o→hasB (cW bf i) j=true∨hasB (cW bf j) i=true)):=by
 have hi:i<ops.size:=by
  rcases KA i ops.size with h'|h'
  ·exact h'
  ·rw[ZS h']at ho;cases ho
 have da:j<ops.size:=by
  rcases KA j ops.size with h'|h'
  ·exact h'
  ·simp[nz,ZS h']at hj
 have h:=R.az7;unfold Xj at h;rw[sF]at h;have h:=h i (by simpa using hi);rw[ho]at h;simp only[sF]at h;have h:=h j (by simpa using da);rw[hj]at h;simp only[beqN_eq]at h;constructor
 ·rintro rfl;simpa using h
 ·intro bW;simp only[bW,decide_false,cond_false,jq,Bool.not_eq_true',Bool.or_eq_true]at h;refine⟨by simpa using h.1,fun hm=>?_⟩;have h2:=h.2;have hc:(lZ ops o).contains t=true:=by simpa using hm
  rw[hc]at h2;simpa using h2
theorem aln{j t:Nat}(hj:nz ops j=some t):∃o,ops[j]?=some o∧o.dst=some t:=by
 unfold nz at hj;cases h:ops[j]? with
 |none=>rw[h]at hj;cases hj
 |some o=>rw[h]at hj;exact⟨o,rfl,by simpa using hj⟩
theorem Reg.Q3(R:Reg P nt ops pl bf){i j t:Nat}(hi:nz ops i=some t)(hj:nz ops j=some t):i=j:=by
 rcases Nat.decEq i j with bW|h
 ·obtain⟨o,ho,hd⟩:=aln hi;exact absurd hd ((R.slot ho hj).2 bW).1
 ·exact h
end
def sI(n:Nat)(bf:List Nat):(Nat→Bool)→List Nat→Prop
 |D,[]=>∀i,i<n→D i=true
 |D,i ::r=>i<n∧D i=false∧(∀j,j<n→hasB (cW bf i) j=true→D j=true)∧sI n bf (fun j=>D j||j==i) r
def Ic(n:Nat)(bf:List Nat)(D:Nat→Bool):Prop:=∀i,D i=true→∀j,j<n→hasB (cW bf i) j=true→D j=true
theorem Ic.step{n:Nat}{bf:List Nat}{D:Nat→Bool}{i:Nat}(h:Ic n bf D)(hi:∀j,j<n→hasB (cW bf i) j=true→D j=true):Ic n bf (fun j=>D j||j==i):=by
 intro q hq j hj hb;have hq:(D q||q==i)=true:=hq;show(D j||j==i)=true;rw[Bool.or_eq_true]at hq ⊢;rcases hq with hq|hq
 ·exact .inl (h q hq j hj hb)
 ·have:q=i:=by simpa using hq
  subst this;exact .inl (hi j hj hb)
theorem Edg.ord{ops:Array Oper}{bf:List Nat}(R:Edg ops bf):∀{l:List Nat} {D:Nat→Bool},adL ops D→UP ops D l→sI ops.size bf D l
 | [],D,_,h=>h
 |i ::r,D,hc,h=>by
  obtain⟨h1,h2,h3,h4⟩:=h;have ho:ops[i]?=some ops[i]:=by simp[h1]
  refine⟨h1,h2,fun j hj hb=>R.closed hc i _ ho (fun e he wK=>h3 _ ho e he wK) j hj hb,R.ord ?_ h4⟩;intro q oq hq hoq e he wK;have hq:(D q||q==i)=true:=hq;show(D e.on||e.on==i)=true;rw[Bool.or_eq_true]at hq ⊢;rcases hq with hq|hq
  ·exact .inl (hc q oq hq hoq e he wK)
  ·have:q=i:=by simpa using hq
   subst this;exact .inl (h3 oq hoq e he wK)
theorem GI(m i j:Nat):hasB (Gm m i) j=(hasB m j||decide (i=j)):=by unfold hasB Gm;rw[Nat.testBit_or,Nat.testBit_two_pow]
theorem Ie(j:Nat):hasB 0 j=false:=by simp[hasB]
theorem Ig{n a b:Nat}:adC n a b=true↔∀j,j<n→hasB a j=true→hasB b j=true:=by
 unfold adC;rw[sF];constructor
 ·intro h j hj ha;have:=h j (by simpa using hj);simpa[ha]using this
 ·intro h j hj;have hj:j<n:=by simpa using hj
  cases ha:hasB a j with
  |false=>rfl
  |true=>simpa using h j hj ha
theorem Cq{n:Nat}{bf:List Nat}{a b i j:Nat}(hi:i<n):hasB (cW (IA n bf a b) i) j=(hasB (cW bf i) j||((decide (i=b)||hasB (cW bf i) b)&&(hasB (cW bf a) j||decide (a=j)))):=by
 have e:cW (IA n bf a b) i=bif Nat.beq i b||hasB (cW bf i) b then cW bf i ||| Gm (cW bf a) a else cW bf i:=by show((IA n bf a b)[i]?).getD 0=_;unfold IA;rw[List.getElem?_map,List.getElem?_range hi];rfl
 have e2:Nat.beq i b=decide (i=b):=by rw[beqN_eq]
 rw[e,e2];cases hc:(decide (i=b)||hasB (cW bf i) b)with
 |false=>simp
 |true=>rw[cond_true];show Nat.testBit (_ ||| _) j=_;rw[Nat.testBit_or];show(hasB _ j||hasB (Gm _ a) j)=_;rw[GI,Bool.true_and]
theorem sI.add{n:Nat}{bf:List Nat}{a b:Nat}:∀{l:List Nat} {D:Nat→Bool},D a=true→Ic n bf D→sI n bf D l→sI n (IA n bf a b) D l
 | [],D,_,_,h=>h
 |i ::r,D,ha,hc,h=>by
  obtain⟨h1,h2,h3,h4⟩:=h;refine⟨h1,h2,fun j hj hb=>?_,sI.add (by show(D a||_)=true;rw[ha];rfl) (hc.step h3) h4⟩;rw[Cq h1,Bool.or_eq_true,jq,Bool.or_eq_true,Bool.or_eq_true]at hb;rcases hb with hb|⟨_,hb|hb⟩
  ·exact h3 j hj hb
  ·exact hc a ha j hj hb
  ·have:a=j:=by simpa using hb
   rw[←this];exact ha
theorem sI.two{n:Nat}{bf:List Nat}{a b:Nat}(han:a<n)(bW:a≠b):∀{l:List Nat} {D:Nat→Bool},D a=false→D b=false→Ic n bf D→b<n→sI n bf D l→sI n (IA n bf a b) D l∨sI n (IA n bf b a) D l
 | [],D,ha,_,_,_,h=>by rw[h a han]at ha;cases ha
 |i ::r,D,ha,hb,hc,FL,h=>by
  obtain⟨h1,h2,h3,h4⟩:=h;have na:hasB (cW bf i) a=false:=by
   cases e:hasB (cW bf i) a with
   |false=>rfl
   |true=>rw[h3 a han e]at ha;cases ha
  have nb:hasB (cW bf i) b=false:=by
   cases e:hasB (cW bf i) b with
   |false=>rfl
   |true=>rw[h3 b FL e]at hb;cases hb
  have LU:=hc.step h3;by_cases ia:i=a
  ·subst ia;refine .inl ⟨h1,h2,fun j hj hq=>?_,sI.add (by show(D i||_)=true;simp) LU h4⟩;rw[Cq h1,nb,decide_eq_false bW]at hq;exact h3 j hj (by simpa using hq)
  ·by_cases ib:i=b
   ·subst ib;refine .inr ⟨h1,h2,fun j hj hq=>?_,sI.add (by show(D i||_)=true;simp) LU h4⟩;rw[Cq h1,na,decide_eq_false ia]at hq;exact h3 j hj (by simpa using hq)
   ·have ea:(fun j=>D j||j==i) a=false:=by show(D a||a==i)=false;rw[ha,Bool.false_or];simpa using Ne.symm ia
    have eb:(fun j=>D j||j==i) b=false:=by show(D b||b==i)=false;rw[hb,Bool.false_or];simpa using Ne.symm ib
    rcases sI.two han bW ea eb LU FL h4 with q|q
    ·refine .inl ⟨h1,h2,fun j hj hq=>?_,q⟩;rw[Cq h1,nb,decide_eq_false ib]at hq;exact h3 j hj (by simpa using hq)
    ·refine .inr ⟨h1,h2,fun j hj hq=>?_,q⟩;rw[Cq h1,na,decide_eq_false ia]at hq;exact h3 j hj (by simpa using hq)
theorem pR{nt i:Nat}{k:Key}(h:I2 nt i=some k):k.toNat=i∧i<nt:=by unfold I2 at h;replace h:=aU h;obtain⟨hc,h⟩:=h;simp only[dP]at h;subst h;simp only[jq,bltN_eq,decide_eq_true_eq]at hc;exact⟨o5 hc.2,hc.1⟩
theorem iU{P:Program}{nt:Nat}{ops:Array Oper}{o:Oper}{po:aC}(h:OQ P nt ops o=some po) :
  jJ P nt o=some po.op∧Ri nt ops o.guard=some po.guard∧((o.dst=none∧po.dst=none)∨∃k,o.dst=some k.toNat∧po.dst=some k∧k.toNat<nt):=by
 unfold OQ at h;split at h
 ·rename_i op g h1 h2;split at h
  ·rename_i hd;cases h;exact⟨h1,h2,.inl ⟨hd,rfl⟩⟩
  ·rename_i d hd;split at h
   ·rename_i k hk;cases h;obtain⟨e,cQ⟩:=pR hk;exact⟨h1,h2,.inr ⟨k,by rw[e];exact hd,rfl,by omega⟩⟩
   ·cases h
 ·cases h
noncomputable def dq(p:List (Nat×Key×ah))(h:T ah):T ah:=p.foldl (fun h x=>aw x.2.1 (some x.2.2) h) h
theorem HW{R:Type}:∀(p:List (Nat×Key×ah)) (h:T ah) (c:T ah→R),GQ p h c=c (dq p h)
 | [],h,c=>rfl
 |x ::p,h,c=>by show yL x.2.1 (some x.2.2) h (fun h=>GQ p h c)=_;rw[sTCe,HW p];rfl
theorem zT{R:Type}(l:List Nat):∀(p:List (Nat×Key×ah)) (h:T ah) (c:List (Nat×Key×ah)→T ah→R),Gk l p h c=c (p.filter fun x=>!(memN x.1 l)) (dq (p.filter fun x=>memN x.1 l) h)
 | [],h,c=>rfl
 |x ::p,h,c=>by
  show(bif memN x.1 l then yL x.2.1 (some x.2.2) h (fun h=>Gk l p h c)else Gk l p h fun p h=>c (x ::p) h)=_;cases hm:memN x.1 l with
  |true=>simp only[cond_true,sTCe,zT l p,List.filter_cons,hm,Bool.not_true,Wh,if_false,if_true];rfl
  |false=>simp only[cond_false,zT l p,List.filter_cons,hm,Bool.not_false,Wh,if_false,if_true]
theorem Ng{i:Nat}:∀{l:List Nat},memN i l=true→i∈l
 | [],h=>by cases h
 |j ::l,h=>by
  simp only[memN]at h;cases hb:Nat.beq i j with
  |true=>have:=o5 hb;simp[this]
  |false=>rw[hb]at h;exact List.mem_cons_of_mem _ (Ng h)
theorem Uh:∀{p:List (Nat×Key×ah)} {h:T ah} {b:Key} {B:ah},ag b (dq p h)=some B→ag b h=some B∨∃x∈p,x.2.1=b∧x.2.2=B
 | [],_,_,_,e=>.inl e
 |x ::p,h,b,B,e=>by
  rcases Uh (p:=p) e with h1|⟨y,h1,h2⟩
  ·by_cases hb:b=x.2.1
   ·subst hb;rw[gTSm]at h1;cases h1;exact .inr ⟨x,by simp,rfl,rfl⟩
   ·rw[aP _ _ _ _ hb]at h1;exact .inl h1
  ·exact .inr ⟨y,List.mem_cons_of_mem _ h1,h2⟩
theorem akw{l:List Nat}{av:List (Nat×Key×ah)}{h:T ah}{b:Key}{B:ah}(e:ag b (zj l av h)=some B):ag b h=some B∨∃j,(j,b,B)∈av∧j∈l:=by
 unfold zj at e;split at e
 ·exact .inl e
 ·rw[zT]at e;rcases Uh e with h1|⟨⟨j,k,B'⟩,h1,h2,h3⟩
  ·exact .inl h1
  ·obtain⟨h4,h5⟩:=List.mem_filter.1 h1;simp only at h2 h3;subst h2 h3;exact .inr ⟨j,h4,Ng h5⟩
theorem ac3{bf:List Nat}:∀{jK:List (Nat×List Nat)},Cj bf jK=true→∀i j,j∈FO i jK→hasB (cW bf i) j=true
 | [],_,i,j,h=>by cases h
 |(q,l) ::r,ha,i,j,h=>by
  simp only[Cj,jq,sF]at ha;simp only[FO]at h;cases hb:Nat.beq i q with
  |true=>rw[hb]at h;have:=o5 hb;subst this;exact ha.1 j h
  |false=>rw[hb]at h;exact ac3 ha.2 i j h
def VOk(bf:List Nat)(H:T ah)(av:List (Nat×Key×ah))(i:Nat)(V:T ah):Prop:=∀b B,ag b V=some B→ag b H=some B∨∃j,(j,b,B)∈av∧hasB (cW bf i) j=true
theorem VOk.refl(bf:List Nat)(H:T ah)(av:List (Nat×Key×ah))(i:Nat):VOk bf H av i H:=fun _ _ h=>.inl h
theorem VOk.view{bf:List Nat}{jK:List (Nat×List Nat)}(ha:Cj bf jK=true)(H:T ah)(av:List (Nat×Key×ah))(i:Nat):VOk bf H av i (zj (FO i jK) av H):=by
 intro b B e;rcases akw e with h|⟨j,h1,h2⟩
 ·exact .inl h
 ·exact .inr ⟨j,h1,ac3 ha i j h2⟩
structure Gh where
 L:Nat
 D:Nat→Bool
 a0:Key→Option AV
 val:Nat→Option AV
section
variable(P:Program)(ρ:Nat→Int)(orc:iV)(nt:Nat)(ops:Array Oper)(pl:List aC)(bf:List Nat)
def Zc(g:Gh)(i:Nat)(k:Key)(a:AV):Prop:=
 (∃j,nz ops j=some k.toNat∧hasB (cW bf i) j=true∧g.val j=some a)∨((∀j,nz ops j=some k.toNat→hasB (cW bf j) i=true)∧g.a0 k=some a)
def abi(g:Gh)(i:Nat)(mQ:T AV):Prop:=∀o,ops[i]?=some o→∀(k:Key) a,k.toNat∈lZ ops o→ag k mQ=some a→Zc ops bf g i k a
inductive zP(H:T ah)(g:Gh)(av:List (Nat×Key×ah))(EZ:Nat→Prop)(i:Nat):Prop
 |skip (po:aC) (mQ:T AV) (h1:pl[i]?=some po) (h2:abi ops bf g i mQ) (h3:cD po.guard mQ=some false) (h4:g.val i=some (.tuple [])) (h5:∀x∈av,x.1≠i):zP H g av EZ i
 |light (po:aC) (mQ:T AV) (v:AV) (h1:pl[i]?=some po) (h2:abi ops bf g i mQ) (h3:cD po.guard mQ=some true) (hk:tR pl i=0) (h4:¬EZ i→∃V,lightOp orc po.op mQ V=some v∧VOk bf H av i V) (h5:g.val i=some v)
   (h6:∀x∈av,x.1≠i):zP H g av EZ i
 |alloc (po:aC) (mQ:T AV) (f:Key→AV) (B:ah) (k:Key) (h1:pl[i]?=some po) (h2:abi ops bf g i mQ) (h3:cD po.guard mQ=some true) (hk:tR pl i=1) (h4:allocOp po.op mQ=some (f,B))
   (h5:g.val i=some (f k)) (h6:(i,k,B)∈av):zP H g av EZ i
structure gW(μ:Mu)(G:Key→Option ah)(H:T ah)(nx:Key)(g:Gh)(EZ:Nat→Prop)(av:List (Nat×Key×ah))(tm:T AV)(tmps:Array Value)(rest:List Nat):Prop where
 UH:Reg P nt ops pl bf
 ord:sI ops.size bf g.D rest
 cl:Ic ops.size bf g.D
 sub:∀i,g.D i=true→hasB g.L i=true
 KV:∀i,hasB g.L i=true→i<ops.size
 lcl:∀i,hasB g.L i=true→∀j,j<ops.size→hasB (cW bf i) j=true→hasB g.L j=true
 a1:∀(k:Key) j,hasB g.L j=true→nz ops j=some k.toNat→ag k tm=g.val j
 a2:∀(k:Key),(∀j,hasB g.L j=true→nz ops j≠some k.toNat)→ag k tm=g.a0 k
 sz:nt≤tmps.size
 c1:∀(k:Key) j a,g.D j=true→nz ops j=some k.toNat→g.val j=some a→∃v,tmps[k.toNat]?=some v∧aX ρ μ a v
 c2:∀(k:Key) a,(∀j,g.D j=true→nz ops j≠some k.toNat)→g.a0 k=some a→∃v,tmps[k.toNat]?=some v∧aX ρ μ a v
 pd:∀i,hasB g.L i=true→g.D i=false→zP orc ops pl bf H g av EZ i
 pe:∀x∈av,hasB g.L x.1=true∧(g.D x.1=true→G x.2.1=some x.2.2)∧(g.D x.1=false→μ x.2.1=none∧G x.2.1=none)∧ag x.2.1 H=none∧x.2.1.toNat<nx.toNat
 nk:(av.map (·.2.1.toNat)).Nodup
 ni:(av.map (·.1)).Nodup
end
section
variable{P:Program}{ρ:Nat→Int}{orc:iV}{nt:Nat}{ops:Array Oper}{pl:List aC}{bf:List Nat}{w0:W0}{w:World}{μ:Mu}{G:Key→Option ah}{H:T ah}{nx:Key}{g:Gh}{EZ:Nat→Prop}{av:List (Nat×Key×ah)}{tm:T AV}{rest:List Nat}{fr:Frame}{cs:List Frame}{K:List Item}
theorem aiA(hM:bB P ρ w0 μ G nx.toNat w){x:Operand}{px:PX}{a:AV}{mQ:T AV}(hp:pX P nt x=some px)(ha:px.at mQ=some a)
  (ht:∀t k,x=.tmp t→k.toNat=t→ag k mQ=some a→∃v,fr.tmps[t]?=some v∧aX ρ μ a v):aX ρ μ a (fr.eval x):=by
 cases x with
 |tmp t=>
  simp only[pX]at hp;split at hp
  ·rename_i k hk;cases hp;obtain⟨v,hv,hr⟩:=ht t k rfl (pR hk).1 ha;have:fr.eval (.tmp t)=v:=by simp[Frame.eval,Array.getD_eq_getD_getElem?,hv]
   rw[this];exact hr
  ·cases hp
 |const v=>
  simp only[pX]at hp;split at hp
  ·rename_i b hb;cases hp;simp only[PX.at,dP]at ha;subst ha;exact iE _ _ _ hb
  ·cases hp
 |global gl=>
  simp only[pX]at hp;split at hp
  ·rename_i k hk;cases hp;simp only[PX.at,dP]at ha;subst ha;obtain⟨e,cQ⟩:=pR hk;obtain⟨ext,he⟩:=hM.Qq k (by omega);exact .ptr _ _ _ _ he (by simp[e])
  ·cases hp
 |func f=>simp only[pX,dP]at hp;subst hp;simp only[PX.at,dP]at ha;subst ha;exact .fn _ _ _ _ _ .nil .nil
theorem Ib(hM:bB P ρ w0 μ G nx.toNat w){o:Oper}{mQ:T AV}(ht:∀(k:Key) a,k.toNat∈lZ ops o→ag k mQ=some a→∃v,fr.tmps[k.toNat]?=some v∧aX ρ μ a v) :
  Co P ρ μ nt o.op.operands.toList mQ fr.eval:=by
 intro x hx px a hp ha;refine aiA hM hp ha fun t k hxt hkt hg=>?_;subst hxt;rw[←hkt];refine ht k a ?_ hg;unfold lZ;rw[List.mem_append,List.mem_filterMap];exact .inl ⟨_,hx,by rw[hkt]⟩
theorem CY{o:Oper}{gd:Option (Key×Bool)}(hg:Ri nt ops o.guard=some gd){mQ:T AV}{tmps:Array Value}(ht:∀(k:Key) a,k.toNat∈lZ ops o→ag k mQ=some a→∃v,tmps[k.toNat]?=some v∧aX ρ μ a v)
  {b:Bool} (hw:cD gd mQ=some b):Region.wanted o (yielded ops tmps)=b:=by
 cases Xs:o.guard with
 |none=>rw[Xs]at hg;simp only[Ri,dP]at hg;subst hg;simp only[cD,dP]at hw;simp[Region.wanted,Xs,hw]
 |some p=>
  obtain⟨j,want⟩:=p;rw[Xs]at hg;simp only[Ri]at hg;split at hg
  ·rename_i oj hoj;split at hg
   ·rename_i d hd;split at hg
    ·rename_i k hk;cases hg;obtain⟨e,_⟩:=pR hk;have IS:k.toNat∈lZ ops o:=by unfold lZ;rw[List.mem_append,Xs,e];right;simp[hoj,hd]
     simp only[cD]at hw;split at hw
     ·rename_i b' fF;cases hw;obtain⟨v,hv,hr⟩:=ht k _ IS fF;cases hr;rw[e]at hv;simp only[Region.wanted,Xs,yielded,hoj,Option.bind_some,hd,hv];cases b'<;>cases want<;>rfl
     ·rename_i fF;cases hw;obtain⟨v,hv,hr⟩:=ht k _ IS fF;cases hr with|tuple _ vs hvs=>
      rw[e]at hv;simp only[Region.wanted,Xs,yielded,hoj,Option.bind_some,hd,hv];cases want<;>rfl
     ·cases hw
    ·cases hg
   ·cases hg
  ·cases hg
end
section
variable{P:Program}{ρ:Nat→Int}{orc:iV}{nt:Nat}{ops:Array Oper}{pl:List aC}{bf:List Nat}{w0:W0}{w:World}{μ μ':Mu}{G G':Key→Option ah}{H:T ah}{nx:Key}{g:Gh}{EZ:Nat→Prop}{av:List (Nat×Key×ah)}{tm:T AV}{tmps:Array Value}{rest:List Nat}{fr:Frame}{cs:List Frame}{K:List Item}{i:Nat}
theorem gW.ready(S:gW P ρ orc nt ops pl bf μ G H nx g EZ av tm tmps (i ::rest)) :
  i<ops.size∧g.D i=false∧(∀j,j<ops.size→hasB (cW bf i) j=true→g.D j=true):=by
 obtain⟨h1,h2,h3,_⟩:=S.ord;exact⟨h1,h2,h3⟩
theorem Oq{j t:Nat}(h:nz ops j=some t):j<ops.size:=by
 obtain⟨o,ho,_⟩:=aln h;rcases KA j ops.size with h'|h'
 ·exact h'
 ·rw[ZS h']at ho;cases ho
theorem gW.MT(S:gW P ρ orc nt ops pl bf μ G H nx g EZ av tm tmps (i ::rest)){mQ:T AV}(ht:abi ops bf g i mQ){o:Oper}(ho:ops[i]?=some o) :
  ∀(k:Key) a,k.toNat∈lZ ops o→ag k mQ=some a→∃v,tmps[k.toNat]?=some v∧aX ρ μ a v:=by
 intro k a hk hg;obtain⟨h1,h2,h3⟩:=S.ready;rcases ht o ho k a hk hg with⟨j,hj,hb,hv⟩|⟨KL,ha⟩
 ·exact S.c1 k j a (h3 j (Oq hj) hb) hj hv
 ·refine S.c2 k a (fun j hD hj=>?_) ha;have hb:=KL j hj;have:=S.cl j hD i h1 hb;rw[h2]at this;cases this
def IQ(d:Option Nat)(v:Value)(tmps:Array Value):Array Value:=match d with
 |some d=>tmps.setIfInBounds d v
 |none=>tmps
theorem cT{o:Oper}(ht:fr.todo=.inRegion ops (i ::rest) ::K)(ho:ops[i]?=some o)(v:Value) :
  fr.finish v={fr with tmps:=IQ o.dst v fr.tmps,todo:=.inRegion ops rest ::K}:=by
 simp only[Frame.finish,ht,ho,Option.bind_some,IQ];cases o.dst<;>rfl
theorem HF{o:Oper}{op:Lr}(hp:jJ P nt o=some op)(hd:fO o.op=true):Ls op=true:=by
 obtain⟨dst,Ir,ty,pos,after,guard⟩:=o;cases Ir<;>first|(cases hd;done)|skip
 rename_i c;simp only[jJ]at hp;split at hp
 ·split at hp
  ·cases hp;rfl
  ·cases hp
 ·cases hp
theorem WU{po:aC}(h:pl[i]?=some po):tR pl i=(bif Ls po.op then 2 else bif Q0 po.op then 1 else 0):=by simp[tR,h]
theorem ahK{tmps:Array Value}{d:Option Nat}{v:Value}(t:Nat)(h:∀x,d=some x→x<tmps.size) :
  (IQ d v tmps)[t]?=if d=some t then some v else tmps[t]?:=by
 cases d with
 |none=>simp[IQ]
 |some x=>
  have:=h x rfl;simp only[IQ];by_cases e:x=t
  ·subst e;simp[this]
  ·rw[if_neg (by simpa using e),zqn e]
theorem gW.done(S:gW P ρ orc nt ops pl bf μ G H nx g EZ av tm tmps (i ::rest))(hm:μ.le μ'){o:Oper}(ho:ops[i]?=some o){a:AV}{v:Value}(hL:hasB g.L i=true)(Ol:g.val i=some a)(hv:aX ρ μ' a v)
  (ZI:∀x∈av,(x.1=i→G' x.2.1=some x.2.2)∧(x.1≠i→μ' x.2.1=μ x.2.1∧G' x.2.1=G x.2.1)) :
  gW P ρ orc nt ops pl bf μ' G' H nx {g with D:=fun j=>g.D j||j==i} EZ av tm (IQ o.dst v tmps) rest:=by
 obtain⟨hi,hDi,Gg⟩:=S.ready;obtain⟨o',po,ZT,Xr,xz⟩:=S.UH.at hi;rw[ho]at ZT;cases ZT;obtain⟨lf,Xs,DF⟩:=iU Xr;have axp:∀x,o.dst=some x→x<tmps.size:=by
  intro x hx;rcases DF with⟨h,_⟩|⟨k,h,_,cQ⟩
  ·rw[h]at hx;cases hx
  ·rw[h]at hx;cases hx;exact O5 cQ S.sz
 have hdi:nz ops i=o.dst:=by simp[nz,ho]
 have FV:=fun t=>ahK (v:=v) t axp;have anz:(IQ o.dst v tmps).size=tmps.size:=by cases o.dst<;>simp[IQ]
 have hD':∀j,((g.D j||j==i)=true)↔(g.D j=true∨j=i):=by intro j;simp
 refine⟨S.UH,S.ord.2.2.2,?_,?_,S.KV,S.lcl,S.a1,S.a2,by rw[anz];exact S.sz,?_,?_,?_,?_,S.nk,S.ni⟩
 ·exact S.cl.step S.ord.2.2.1
 ·intro j hj;rcases (hD' j).1 hj with h|h
  ·exact S.sub j h
  ·subst h;exact hL
 ·intro k j b hj hjd hjv;rw[FV];rcases (hD' j).1 hj with h|h
  ·by_cases e:o.dst=some k.toNat
   ·have:i=j:=S.UH.Q3 (hdi.trans e) hjd;subst this;rw[hDi]at h;cases h
   ·rw[if_neg e];obtain⟨u,hu,hr⟩:=S.c1 k j b h hjd hjv;exact⟨u,hu,hr.mono hm⟩
  ·subst h;rw[hdi]at hjd;rw[if_pos hjd];have hjv:g.val j=some b:=hjv;rw[Ol]at hjv;cases hjv;exact⟨v,rfl,hv⟩
 ·intro k b AB ha;rw[FV];have XU:o.dst≠some k.toNat:=by intro e;exact AB i ((hD' i).2 (.inr rfl)) (hdi.trans e)
  rw[if_neg XU];obtain⟨u,hu,hr⟩:=S.c2 k b (fun j hj=>AB j ((hD' j).2 (.inl hj))) ha;exact⟨u,hu,hr.mono hm⟩
 ·intro j hj hjD;have hjD:(g.D j||j==i)=false:=hjD;rw[Bool.or_eq_false_iff]at hjD;cases S.pd j hj hjD.1 with
  |skip po mQ h1 h2 h3 h4 h5=>exact .skip po mQ h1 h2 h3 h4 h5
  |light po mQ v h1 h2 h3 hk h4 h5 h6=>exact .light po mQ v h1 h2 h3 hk h4 h5 h6
  |alloc po mQ f B k h1 h2 h3 hk h4 h5 h6=>exact .alloc po mQ f B k h1 h2 h3 hk h4 h5 h6
 ·intro x hx;obtain⟨p1,p2,p3,p4,p5⟩:=S.pe x hx;obtain⟨q1,q2⟩:=ZI x hx;refine⟨p1,fun h=>?_,fun h=>?_,p4,p5⟩
  ·by_cases e:x.1=i
   ·exact q1 e
   ·rw[(q2 e).2];exact p2 (((hD' _).1 h).resolve_right e)
  ·have h:(g.D x.1||x.1==i)=false:=h;rw[Bool.or_eq_false_iff]at h;have e:x.1≠i:=by simpa using h.2
   rw[(q2 e).1,(q2 e).2];exact p3 h.1
theorem Yv(hM:bB P ρ w0 μ G nx.toNat w)(hH:HSub H G)(ho:fk ρ orc)(S:gW P ρ orc nt ops pl bf μ G H nx g EZ av tm fr.tmps (i ::rest))(hL:hasB g.L i=true)(hu:¬EZ i)
  (hm:fr.mode=.run) (ht:fr.todo=.inRegion ops (i ::rest) ::K) :
  ∃dT w' μ' G',step P (lone fr cs w)=.next (lone {fr with tmps:=dT,todo:=.inRegion ops rest ::K} cs w')∧μ.le μ'∧bB P ρ w0 μ' G' nx.toNat w'∧HSub H G'∧
   gW P ρ orc nt ops pl bf μ' G' H nx {g with D:=fun j=>g.D j||j==i} EZ av tm dT rest∧(∀b,(∀x∈av,x.2.1≠b)→μ' b=μ b∧G' b=G b):=by
 obtain⟨hi,hDi,Gg⟩:=S.ready;obtain⟨o,po,lf,Xr,xz⟩:=S.UH.at hi;obtain⟨hp,Xs,DF⟩:=iU Xr;cases S.pd i hL hDi with
 |skip Vq mQ h1 h2 h3 h4 h5=>rw[xz]at h1;cases h1;have hs:=S.MT h2 lf;have hw:=CY Xs hs h3;have JT:=KY (P:=P) (cs:=cs) (w:=w) hm ht lf hw;rw[cT ht lf]at JT;refine⟨_,w,μ,G,JT,μ.le_refl,hM,hH,?_,fun b _=>⟨rfl,rfl⟩⟩;refine S.done μ.le_refl lf hL h4 (v:=undef) (.tuple _ _ .nil) ?_;intro x hx;exact⟨fun e=>absurd e (h5 x hx),fun _=>⟨rfl,rfl⟩⟩
 |light Vq mQ v h1 h2 h3 hk h4 h5 h6=>
  rw[xz]at h1;cases h1;have hs:=S.MT h2 lf;have hw:=CY Xs hs h3;obtain⟨V,hlV,hV⟩:=h4 hu;have hVG:HSub V G:=by
   intro b B hb;rcases hV b B hb with h|⟨j,h1,h2⟩
   ·exact hH b B h
   ·obtain⟨p1,p2,_⟩:=S.pe _ h1;exact p2 (Gg j (S.KV j p1) h2)
  obtain⟨u,eM,hr⟩:=PA hM hVG ho hp (Ib hM hs) hlV;have Ge:fO o.op=false:=by
   cases hd:fO o.op with
   |false=>rfl
   |true=>rw[WU xz,HF hp hd]at hk;cases hk
  have JT:=Yw (P:=P) (cs:=cs) hm ht lf hw (.inr Ge) eM;rw[cT ht lf]at JT;refine⟨_,w,μ,G,JT,μ.le_refl,hM,hH,?_,fun b _=>⟨rfl,rfl⟩⟩;refine S.done μ.le_refl lf hL h5 hr ?_;intro x hx;exact⟨fun e=>absurd e (h6 x hx),fun _=>⟨rfl,rfl⟩⟩
 |alloc Vq mQ f B k h1 h2 h3 hk h4 h5 h6=>
  rw[xz]at h1;cases h1;have hs:=S.MT h2 lf;have hw:=CY Xs hs h3;obtain⟨_,_,p3,p4,p5⟩:=S.pe _ h6;obtain⟨hmk,hgk⟩:=p3 hDi;obtain⟨u,w',l,eM,hle,hM',hr⟩:=PB hM hp (Ib hM hs) h4 hmk (nx':=nx.toNat) (fE _) p5;have Ge:fO o.op=false:=by
   cases hd:fO o.op with
   |false=>rfl
   |true=>rw[WU xz,HF hp hd]at hk;cases hk
  have JT:=Yw (P:=P) (cs:=cs) hm ht lf hw (.inr Ge) eM;rw[cT ht lf]at JT;refine⟨_,w',_,_,JT,hle,hM',?_,?_,?_⟩
  ·intro b B' hb;have:b≠k:=by intro e;subst e;rw[p4]at hb;cases hb
   rw[bN _ _ this];exact hH b B' hb
  ·refine S.done hle lf hL h5 hr ?_;intro x hx;constructor
   ·intro e;have:x=(i,k,B):=by
     have XU:=S.ni;have:=List.pairwise_iff_getElem.1 XU;obtain⟨p,hp',hpx⟩:=List.getElem_of_mem hx;obtain⟨q,hq,hqx⟩:=List.getElem_of_mem h6;rcases Nat.lt_trichotomy p q with hpq|hpq|hpq
     ·have:=this p q (by simpa using hp') (by simpa using hq) hpq;simp[hpx,hqx,e]at this
     ·subst hpq;rw[←hpx,←hqx]
     ·have:=this q p (by simpa using hq) (by simpa using hp') hpq;simp[hpx,hqx,e]at this
    subst this;exact fA _ _ _
   ·intro e;have bW:x.2.1≠k:=by
     intro Jn;have hnk:=S.nk;have:=List.pairwise_iff_getElem.1 hnk;obtain⟨p,hp',hpx⟩:=List.getElem_of_mem hx;obtain⟨q,hq,hqx⟩:=List.getElem_of_mem h6;rcases Nat.lt_trichotomy p q with hpq|hpq|hpq
     ·have:=this p q (by simpa using hp') (by simpa using hq) hpq;simp[hpx,hqx,Jn]at this
     ·subst hpq;rw[hpx]at hqx;subst hqx;exact e rfl
     ·have:=this q p (by simpa using hq) (by simpa using hp') hpq;simp[hpx,hqx,Jn]at this
    exact⟨bN _ _ bW,bN _ _ bW⟩
  ·intro b hb;have:b≠k:=fun e=>hb _ h6 e.symm;exact⟨bN _ _ this,bN _ _ this⟩
end
theorem Nc(orc:iV)(op:Lr)(tm:T AV)(H H':T ah)(h:Ny op=false):lightOp orc op tm H=lightOp orc op tm H':=by cases op<;>first|(cases h;done)|rfl
section
variable{P:Program}{ρ:Nat→Int}{orc:iV}{nt:Nat}{ops:Array Oper}{pl:List aC}{bf:List Nat}{w0:W0}{w:World}{μ μ':Mu}{G G':Key→Option ah}{H H':T ah}{nx nx':Key}{g:Gh}{EZ aCV:Nat→Prop}{av pend':List (Nat×Key×ah)}{tm:T AV}{tmps:Array Value}{rest:List Nat}{fr:Frame}{cs:List Frame}{K:List Item}{i:Nat}
theorem gW.ape(S:gW P ρ orc nt ops pl bf μ G H nx g EZ av tm tmps rest)(hi:i<ops.size)(hL:hasB g.L i=false)(hb:∀j,j<ops.size→hasB (cW bf i) j=true→hasB g.L j=true):abi ops bf g i tm:=by
 intro o ho k a hk ha;by_cases h:∃j,hasB g.L j=true∧nz ops j=some k.toNat
 ·obtain⟨j,hj,hd⟩:=h;left;refine⟨j,hd,?_,by rw[←S.a1 k j hj hd];exact ha⟩;have bW:i≠j:=by intro e;subst e;rw[hL]at hj;cases hj
  rcases ((S.UH.slot ho hd).2 bW).2 hk with h|h
  ·exact h
  ·have:=S.lcl j hj i hi h;rw[hL]at this;cases this
 ·right;have h:∀j,hasB g.L j=true→nz ops j≠some k.toNat:=fun j hj hd=>h ⟨j,hj,hd⟩;refine⟨fun j hd=>?_,by rw[←S.a2 k h];exact ha⟩;by_cases bW:i=j
  ·subst bW;exact absurd hk ((S.UH.slot ho hd).1 rfl)
  ·rcases ((S.UH.slot ho hd).2 bW).2 hk with fF|fF
   ·exact absurd hd (h j (hb j (Oq hd) fF))
   ·exact fF
def AJ(f:Nat→Option AV)(i:Nat)(x:Option AV):Nat→Option AV:=fun j=>if j=i then x else f j
theorem acY{x:Option AV}{L':Nat}{D':Nat→Bool}{p:Nat}{k:Key}{a:AV}(hp:hasB (cW bf p) i=false)(h:Zc ops bf g p k a):Zc ops bf {L:=L',D:=D',a0:=g.a0,val:=AJ g.val i x} p k a:=by
 rcases h with⟨j,h1,h2,h3⟩|⟨h1,h2⟩
 ·left;refine⟨j,h1,h2,?_⟩;have:j≠i:=by intro e;subst e;rw[hp]at h2;cases h2
  simpa[AJ,this]using h3
 ·exact .inr ⟨h1,h2⟩
theorem Az{x:Option AV}{L':Nat}{D':Nat→Bool}{p:Nat}{mQ:T AV}(hp:hasB (cW bf p) i=false)(h:abi ops bf g p mQ):abi ops bf {L:=L',D:=D',a0:=g.a0,val:=AJ g.val i x} p mQ:=
 fun o ho k a hk hg=>acY hp (h o ho k a hk hg)
theorem zP.kn{x:Option AV}{L':Nat}{D':Nat→Bool}{p:Nat}(hp:hasB (cW bf p) i=false)(bW:p≠i)(Uf:∀y∈av,y∈pend')(Zd:∀y∈pend',y∈av∨y.1=i)(h:zP orc ops pl bf H g av EZ p) :
  zP orc ops pl bf H {L:=L',D:=D',a0:=g.a0,val:=AJ g.val i x} pend' EZ p:=by
 have hv:∀v,g.val p=some v→AJ g.val i x p=some v:=by intro v hv;simpa[AJ,bW]using hv
 have hq:(∀y∈av,y.1≠p)→∀y∈pend',y.1≠p:=by
  intro hh y hy;rcases Zd y hy with h|h
  ·exact hh y h
  ·rw[h];exact fun e=>bW e.symm
 cases h with
 |skip po mQ h1 h2 h3 h4 h5=>exact .skip po mQ h1 (Az hp h2) h3 (hv _ h4) (hq h5)
 |light po mQ v h1 h2 h3 hk h4 h5 h6=>
  refine .light po mQ v h1 (Az hp h2) h3 hk (fun hu=>?_) (hv _ h5) (hq h6);obtain⟨V,a1,a2⟩:=h4 hu;refine⟨V,a1,fun b B hb=>?_⟩;rcases a2 b B hb with h|⟨j,h,h'⟩
  ·exact .inl h
  ·exact .inr ⟨j,Uf _ h,h'⟩
 |alloc po mQ f B k h1 h2 h3 hk h4 h5 h6=>exact .alloc po mQ f B k h1 (Az hp h2) h3 hk h4 (hv _ h5) (Uf _ h6)
noncomputable def bV(d:Option Key)(v:AV)(tm:T AV):T AV:=match d with
 |none=>tm
 |some k=>aw k (some v) tm
theorem fp{R:Type}(d:Option Key)(v:AV)(tm:T AV)(c:T AV→R):zi d (some v) tm c=c (bV d v tm):=by
 cases d with
 |none=>rfl
 |some k=>simp only[zi,bV,sTCe]
theorem gW.add(S:gW P ρ orc nt ops pl bf μ G H nx g EZ av tm tmps rest){po:aC}(xz:pl[i]?=some po)(hL:hasB g.L i=false)(hb:∀j,j<ops.size→hasB (cW bf i) j=true→hasB g.L j=true)
  {v:AV} (Uf:∀y∈av,y∈pend') (Zd:∀y∈pend',y∈av∨y.1=i)
  (pB:zP orc ops pl bf H {L:=Gm g.L i,D:=g.D,a0:=g.a0,val:=AJ g.val i (some v)} pend' EZ i)
  (ZI:∀y∈pend',y∉av→μ y.2.1=none∧G y.2.1=none∧ag y.2.1 H=none∧y.2.1.toNat<nx'.toNat) (hn:nx.toNat≤nx'.toNat)
  (hnk:(pend'.map (·.2.1.toNat)).Nodup) (XU:(pend'.map (·.1)).Nodup) :
  gW P ρ orc nt ops pl bf μ G H nx' {L:=Gm g.L i,D:=g.D,a0:=g.a0,val:=AJ g.val i (some v)} EZ pend' (bV po.dst v tm) tmps rest:=by
 have hi:=S.UH.at' xz;obtain⟨o,Vq,ho,Xr,IT⟩:=S.UH.at hi;rw[xz]at IT;cases IT;obtain⟨lf,Xs,DF⟩:=iU Xr;have hdi:nz ops i=o.dst:=by simp[nz,ho]
 have hDi:g.D i=false:=by
  cases h:g.D i with
  |false=>rfl
  |true=>have:=S.sub i h;rw[hL]at this;cases this
 have OI:∀j,hasB (Gm g.L i) j=true↔(hasB g.L j=true∨j=i):=by intro j;rw[GI,Bool.or_eq_true,decide_eq_true_eq];exact⟨fun h=>h.imp id Eq.symm,fun h=>h.imp id Eq.symm⟩
 have OV:∀p,hasB g.L p=true→hasB (cW bf p) i=false:=by
  intro p hp;cases h:hasB (cW bf p) i with
  |false=>rfl
  |true=>have:=S.lcl p hp i hi h;rw[hL]at this;cases this
 refine⟨S.UH,S.ord,S.cl,?_,?_,?_,?_,?_,S.sz,?_,S.c2,?_,?_,hnk,XU⟩
 ·intro j hj;exact(OI j).2 (.inl (S.sub j hj))
 ·intro j hj;rcases (OI j).1 hj with h|h
  ·exact S.KV j h
  ·subst h;exact hi
 ·intro j hj q hq hbq;rcases (OI j).1 hj with h|h
  ·exact(OI q).2 (.inl (S.lcl j h q hq hbq))
  ·subst h;exact(OI q).2 (.inl (hb q hq hbq))
 ·intro k j hj hd;rcases DF with⟨e1,e2⟩|⟨kd,e1,e2,_⟩
  ·rcases (OI j).1 hj with h|h
   ·have bW:j≠i:=by intro e;subst e;rw[hL]at h;cases h
    rw[e2];simp only[bV,AJ,bW,if_false];exact S.a1 k j h hd
   ·subst h;rw[hdi,e1]at hd;cases hd
  ·rw[e2];simp only[bV];rcases (OI j).1 hj with h|h
   ·have bW:j≠i:=by intro e;subst e;rw[hL]at h;cases h
    have hk:k≠kd:=by intro e;subst e;exact bW (S.UH.Q3 hd (hdi.trans e1))
    rw[aP _ _ _ _ hk];simp only[AJ,bW,if_false];exact S.a1 k j h hd
   ·subst h;rw[hdi,e1]at hd;have hk:k=kd:=Key.toNat_inj (by simpa using hd.symm);subst hk;rw[gTSm];simp[AJ]
 ·intro k AB;rcases DF with⟨e1,e2⟩|⟨kd,e1,e2,_⟩
  ·rw[e2];exact S.a2 k fun j hj=>AB j ((OI j).2 (.inl hj))
  ·rw[e2];simp only[bV];have hk:k≠kd:=by intro e;subst e;exact AB i ((OI i).2 (.inr rfl)) (hdi.trans e1)
   rw[aP _ _ _ _ hk];exact S.a2 k fun j hj=>AB j ((OI j).2 (.inl hj))
 ·intro k j a hj hd hv;have bW:j≠i:=by intro e;subst e;rw[hDi]at hj;cases hj
  exact S.c1 k j a hj hd (by simpa[AJ,bW]using hv)
 ·intro j hj hjD;rcases (OI j).1 hj with h|h
  ·have bW:j≠i:=by intro e;subst e;rw[hL]at h;cases h
   exact(S.pd j h hjD).kn (OV j h) bW Uf Zd
  ·subst h;exact pB
 ·intro y hy;by_cases yI:y∈av
  ·obtain⟨p1,p2,p3,p4,p5⟩:=S.pe y yI;exact⟨(OI _).2 (.inl p1),p2,p3,p4,O5 p5 hn⟩
  ·obtain⟨q1,q2,q3,q4⟩:=ZI y hy yI;have e:=(Zd y hy).resolve_left yI;refine⟨(OI _).2 (.inr e),fun h=>?_,fun _=>⟨q1,q2⟩,q3,q4⟩;rw[e]at h;have h:g.D i=true:=h;rw[hDi]at h;cases h
theorem gW.cv(S:gW P ρ orc nt ops pl bf μ G H nx g (fun i=>gU pl i=true) av tm tmps rest)(hm:μ.le μ')(hn:nx.toNat≤nx'.toNat)
  (hk:∀x∈av,μ' x.2.1=μ x.2.1∧G' x.2.1=G x.2.1∧ag x.2.1 H'=none):gW P ρ orc nt ops pl bf μ' G' H' nx' g (fun i=>gU pl i=true) av tm tmps rest:=by
 refine⟨S.UH,S.ord,S.cl,S.sub,S.KV,S.lcl,S.a1,S.a2,S.sz,?_,?_,?_,?_,S.nk,S.ni⟩
 ·intro k j a h1 h2 h3;obtain⟨v,hv,hr⟩:=S.c1 k j a h1 h2 h3;exact⟨v,hv,hr.mono hm⟩
 ·intro k a h1 h2;obtain⟨v,hv,hr⟩:=S.c2 k a h1 h2;exact⟨v,hv,hr.mono hm⟩
 ·intro i hi hD;cases S.pd i hi hD with
  |skip po mQ h1 h2 h3 h4 h5=>exact .skip po mQ h1 h2 h3 h4 h5
  |light po mQ v h1 h2 h3 FQ h4 h5 h6=>
   refine .light po mQ v h1 h2 h3 FQ (fun hu=>?_) h5 h6;obtain⟨V,a1,_⟩:=h4 hu;refine⟨H',?_,VOk.refl _ _ _ _⟩;rw[←a1];apply Nc;have:gU pl i=Ny po.op:=by simp[gU,h1]
   rw[this]at hu;simpa using hu
  |alloc po mQ f B k h1 h2 h3 FQ h4 h5 h6=>exact .alloc po mQ f B k h1 h2 h3 FQ h4 h5 h6
 ·intro x hx;obtain⟨p1,p2,p3,p4,p5⟩:=S.pe x hx;obtain⟨q1,q2,q3⟩:=hk x hx;refine⟨p1,fun h=>by rw[q2];exact p2 h,fun h=>by rw[q1,q2];exact p3 h,q3,O5 p5 hn⟩
end
section
variable{P:Program}{ρ:Nat→Int}{orc:iV}{nt:Nat}{ops:Array Oper}{pl:List aC}{bf:List Nat}{w0:W0}{w:World}{μ μ':Mu}{G G':Key→Option ah}{H H':T ah}{nx nx':Key}{g:Gh}{EZ aCV:Nat→Prop}{av pend':List (Nat×Key×ah)}{tm:T AV}{tmps:Array Value}{rest:List Nat}{fr:Frame}{cs:List Frame}{K:List Item}{i:Nat}
def ayy(P:Program)(ρ:Nat→Int)(orc:iV)(nt:Nat)(ops:Array Oper)(pl:List aC)(bf:List Nat)(w0:W0)(H:T ah)(nx:Key)(g:Gh)(av:List (Nat×Key×ah))(tm:T AV)(K:List Item)
  (fr:Frame) (cs:List Frame) (w:World) (μ:Mu) (G:Key→Option ah) (NO:List Nat→Prop):Prop:=
 ∃dT w' μ' G' D' kZ,Steps P (lone fr cs w) (lone {fr with tmps:=dT,todo:=.inRegion ops kZ ::K} cs w')∧μ.le μ'∧bB P ρ w0 μ' G' nx.toNat w'∧HSub H G'∧
  gW P ρ orc nt ops pl bf μ' G' H nx {g with D:=D'} (fun _=>False) av tm dT kZ∧(∀b,(∀x∈av,x.2.1≠b)→μ' b=μ b∧G' b=G b)∧NO kZ
theorem apC(NO:List Nat→Prop)(ho:fk ρ orc)
  (hgo:∀(D:Nat→Bool) (rest:List Nat),(∀i,D i=true→hasB g.L i=true)→sI ops.size bf D rest→NO rest∨∃q r,rest=q ::r∧((∀j,j<ops.size→hasB (cW bf q) j=true→D j=true)→hasB g.L q=true)) :
  ∀(rest:List Nat) (D:Nat→Bool) (fr:Frame) (w:World) (μ:Mu) (G:Key→Option ah),bB P ρ w0 μ G nx.toNat w→HSub H G→gW P ρ orc nt ops pl bf μ G H nx {g with D:=D} (fun _=>False) av tm fr.tmps rest→
   fr.mode=.run→fr.todo=.inRegion ops rest ::K→ayy P ρ orc nt ops pl bf w0 H nx g av tm K fr cs w μ G NO:=by
 intro rest
 induction rest with
 |nil=>
  intro D fr w μ G hM hH S hm ht;rcases hgo D [] S.sub S.ord with h|⟨q,r,h,_⟩
  ·refine⟨fr.tmps,w,μ,G,D,[],?_,μ.le_refl,hM,hH,S,fun _ _=>⟨rfl,rfl⟩,h⟩;rw[←ht];exact Steps.refl _ _
  ·cases h
 |cons q r ih=>
  intro D fr w μ G hM hH S hm ht;rcases hgo D (q ::r) S.sub S.ord with h|⟨q',r',h,hq⟩
  ·refine⟨fr.tmps,w,μ,G,D,q ::r,?_,μ.le_refl,hM,hH,S,fun _ _=>⟨rfl,rfl⟩,h⟩;rw[←ht];exact Steps.refl _ _
  ·cases h;have hL:=hq S.ready.2.2;obtain⟨dT,w',μ',G',h1,h2,h3,h4,h5,h6⟩:=Yv (cs:=cs) hM hH ho S hL (fun h=>h) hm ht;obtain⟨tmps2,w2,μ2,G2,D2,rest2,k1,k2,k3,k4,k5,k6,k7⟩:=ih _ {fr with tmps:=dT,todo:=.inRegion ops r ::K} w' μ' G' h3 h4 h5 hm rfl;exact⟨tmps2,w2,μ2,G2,D2,rest2,.head h1 k1,Mu.le_trans h2 k2,k3,k4,k5,fun b hb=>⟨(k6 b hb).1.trans (h6 b hb).1,(k6 b hb).2.trans (h6 b hb).2⟩,k7⟩
theorem Zg(hM:bB P ρ w0 μ G nx.toNat w)(hH:HSub H G)(ho:fk ρ orc)(S:gW P ρ orc nt ops pl bf μ G H nx g (fun _=>False) av tm fr.tmps rest){h:Nat}(cQ:h<ops.size)(hh:hasB g.L h=false)
  (acU:∀j,j<ops.size→hasB g.L j=true∨j=h∨∃q,q<ops.size∧hasB (cW bf j) q=true∧hasB g.L q=false) (hm:fr.mode=.run) (ht:fr.todo=.inRegion ops rest ::K) :
  ayy P ρ orc nt ops pl bf w0 H nx g av tm K fr cs w μ G (fun r=>∃r',r=h ::r'):=by
 refine apC _ ho ?_ rest g.D fr w μ G hM hH S hm ht;intro D rest ayz ai1;cases rest with
 |nil=>have:=ayz h (ai1 h cQ);rw[hh]at this;cases this
 |cons q r=>
  by_cases e:q=h
  ·subst e;exact .inl ⟨r,rfl⟩
  ·refine .inr ⟨q,r,rfl,fun hb=>?_⟩;rcases acU q ai1.1 with h1|h1|⟨p,hp,hpb,hpL⟩
   ·exact h1
   ·exact absurd h1 e
   ·have:=ayz p (hb p hp hpb);rw[hpL]at this;cases this
theorem agP(hM:bB P ρ w0 μ G nx.toNat w)(hH:HSub H G)(ho:fk ρ orc)(S:gW P ρ orc nt ops pl bf μ G H nx g (fun _=>False) av tm fr.tmps rest)
  (KL:∀j,j<ops.size→hasB g.L j=true) (hm:fr.mode=.run) (ht:fr.todo=.inRegion ops rest ::K) :
  ayy P ρ orc nt ops pl bf w0 H nx g av tm K fr cs w μ G (fun r=>r=[]):=by
 refine apC _ ho ?_ rest g.D fr w μ G hM hH S hm ht;intro D rest ayz ai1;cases rest with
 |nil=>exact .inl rfl
 |cons q r=>exact .inr ⟨q,r,rfl,fun _=>KL q ai1.1⟩
theorem H5{jK:List (Nat×List Nat)}:∀{os:List (Nat×aC)},recheck orc jK av tm H os=true→∀i po,(i,po)∈os→
  ∃d,po.dst=some d∧((cD po.guard tm=some false∧ag d tm=some (.tuple []))∨(cD po.guard tm=some true∧∃v,ag d tm=some v∧lightOp orc po.op tm (zj (FO i jK) av H)=some v))
 | [],_,_,_,h=>by simp at h
 |(q,o) ::os,hr,i,po,hm=>by
  simp only[recheck]at hr;split at hr
  ·rename_i hw;split at hr
   ·cases hr
   ·rename_i d hd;split at hr
    ·rename_i hg;rcases GP.1 hm with h|h
     ·cases h;exact⟨d,hd,.inl ⟨hw,hg⟩⟩
     ·exact H5 hr i po h
    ·cases hr
  ·rename_i hw;split at hr
   ·cases hr
   ·rename_i d hd;split at hr
    ·rename_i v u hg hl;cases hb:AV.beq v u with
     |false=>rw[hb]at hr;cases hr
     |true=>
      rw[hb]at hr;simp only[cond_true]at hr;have:=AV.eq_of_beq v u hb;subst this;rcases GP.1 hm with h|h
      ·cases h;exact⟨d,hd,.inr ⟨hw,v,hg,hl⟩⟩
      ·exact H5 hr i po h
    ·cases hr
  ·cases hr
theorem ac8{i:Nat}{o:Oper}(h:Gj ops bf i=true)(ho:ops[i]?=some o){j t:Nat}(hj:nz ops j=some t)(ht:t∈lZ ops o):hasB (cW bf i) j=true:=by
 unfold Gj at h;rw[ho]at h;simp only[sF]at h;have h:=h j (by simpa using Oq hj);rw[hj]at h;have hc:(lZ ops o).contains t=true:=by simpa using ht
 simp only[hc,Bool.not_true,Bool.false_or]at h;exact h
theorem gW.WN(S:gW P ρ orc nt ops pl bf μ G H nx g EZ av tm tmps rest){os:List (Nat×aC)}{jK:List (Nat×List Nat)}(ac4:Cj bf jK=true)(hr:recheck orc jK av tm H os=true)
  (NH:∀i po,(i,po)∈os→pl[i]?=some po∧Gj ops bf i=true∧tR pl i=0) (Kv:∀i,hasB g.L i=true→g.D i=false→EZ i→∃po,(i,po)∈os) :
  gW P ρ orc nt ops pl bf μ G H nx g (fun _=>False) av tm tmps rest:=by
 refine⟨S.UH,S.ord,S.cl,S.sub,S.KV,S.lcl,S.a1,S.a2,S.sz,S.c1,S.c2,?_,S.pe,S.nk,S.ni⟩;intro i hi hD;by_cases hu:EZ i
 ·obtain⟨po,hm⟩:=Kv i hi hD hu;obtain⟨xz,LQ,hk⟩:=NH i po hm;obtain⟨d,hd,Fk⟩:=H5 hr i po hm;have aLq:=S.KV i hi;obtain⟨o,Vq,ho,Xr,IT⟩:=S.UH.at aLq;rw[xz]at IT;cases IT;obtain⟨_,_,DF⟩:=iU Xr;have hdd:nz ops i=some d.toNat:=by
   rcases DF with⟨_,e2⟩|⟨k,e1,e2,_⟩
   ·rw[e2]at hd;cases hd
   ·rw[e2]at hd;cases hd;simp[nz,ho,e1]
  have Ol:=S.a1 d i hi hdd;have htm:abi ops bf g i tm:=by
   intro o' ZT k a NP hg;rw[ho]at ZT;cases ZT;by_cases hex:∃j,nz ops j=some k.toNat
   ·obtain⟨j,hj⟩:=hex;have hb:=ac8 LQ ho hj NP;exact .inl ⟨j,hj,hb,by rw[←S.a1 k j (S.lcl i hi j (Oq hj) hb) hj];exact hg⟩
   ·have AB:∀j,nz ops j≠some k.toNat:=fun j hj=>hex ⟨j,hj⟩;exact .inr ⟨fun j hj=>absurd hj (AB j),by rw[←S.a2 k fun j _=>AB j];exact hg⟩
  have Uf:∀x∈av,x.1≠i:=by
   cases S.pd i hi hD with
   |skip po mQ h1 h2 h3 h4 h5=>exact h5
   |light po mQ v h1 h2 h3 FQ h4 h5 h6=>exact h6
   |alloc po mQ f B k h1 h2 h3 FQ h4 h5 h6=>rw[hk]at FQ;cases FQ
  rcases Fk with⟨hw,hg⟩|⟨hw,v,hg,hl⟩
  ·exact .skip po tm xz htm hw (by rw[←Ol];exact hg) Uf
  ·exact .light po tm v xz htm hw hk (fun _=>⟨_,hl,VOk.view ac4 _ _ _⟩) (by rw[←Ol];exact hg) Uf
 ·cases S.pd i hi hD with
  |skip po mQ h1 h2 h3 h4 h5=>exact .skip po mQ h1 h2 h3 h4 h5
  |light po mQ v h1 h2 h3 FQ h4 h5 h6=>exact .light po mQ v h1 h2 h3 FQ (fun _=>h4 hu) h5 h6
  |alloc po mQ f B k h1 h2 h3 FQ h4 h5 h6=>exact .alloc po mQ f B k h1 h2 h3 FQ h4 h5 h6
end
inductive QQ(P:Program)(μ:Mu)(nt:Nat):de→Item→Prop
 |code (pc:aK) (c:Code) (h:ir P nt c=some pc):QQ P μ nt (.code pc) (.code c)
 |inBlock (id:Nat):QQ P μ nt (.inBlock id) (.inBlock id)
 |inLoop (pc:aK) (c:Code) (h:ir P nt c=some pc):QQ P μ nt (.inLoop pc) (.inLoop c)
 |ops (l:List aC) (ops:Array Oper) (rest:List Nat) (h:lY P nt ops rest=some l):QQ P μ nt (.ops l) (.inRegion ops rest)
 |inRF (k:Key) (l:Loc) (r:Nat) (h:μ k=some l) (hr:r=l.c):QQ P μ nt (.inRF k) (.inRangeFunc r)
 |endRF (k:Key) (l:Loc) (r:Nat) (h:μ k=some l) (hr:r=l.c):QQ P μ nt (.endRF k) (.endRangeFunc r)
 |beginRound:QQ P μ nt .beginRound .beginRound
 |scope (c:Code):QQ P μ nt (.code .skip) (.inScope c)
inductive nf(P:Program)(μ:Mu)(nt:Nat):List de→List Item→Prop
 |nil:nf P μ nt [] []
 |cons (a:de) (x:Item) (l:List de) (k:List Item) (h:QQ P μ nt a x) (h':nf P μ nt l k):nf P μ nt (a ::l) (x ::k)
theorem QQ.mono{P:Program}{μ μ':Mu}(hm:μ.le μ'){nt:Nat}{a:de}{x:Item}(h:QQ P μ nt a x):QQ P μ' nt a x:=by
 cases h with
 |code pc c h=>exact .code pc c h
 |inBlock id=>exact .inBlock id
 |inLoop pc c h=>exact .inLoop pc c h
 |ops l ops rest h=>exact .ops l ops rest h
 |inRF k l r h hr=>exact .inRF k l r (hm.l _ _ h) hr
 |endRF k l r h hr=>exact .endRF k l r (hm.l _ _ h) hr
 |beginRound=>exact .beginRound
 |scope c=>exact .scope c
theorem nf.mono{P:Program}{μ μ':Mu}(hm:μ.le μ'){nt:Nat}{a:List de}{x:List Item}(h:nf P μ nt a x):nf P μ' nt a x:=by
 induction h with
 |nil=>exact .nil
 |cons a x l k h h' ih=>exact .cons _ _ _ _ (h.mono hm) ih
def asO(ρ:Nat→Int)(μ:Mu):Xu→Deferred→Prop
 |.fn f args,d=>∃ws,d.target=.fn (.func f) ws∧aB ρ μ args (d.args++ws).toList
 |.coll b,d=>∃l,μ b=some l∧d=⟨.collected l.c,#[]⟩
def Tj(ρ:Nat→Int)(μ:Mu):List Xu→List Deferred→Prop
 | [],[]=>True
 |a ::l,d ::ds=>asO ρ μ a d∧Tj ρ μ l ds
 |_,_=>False
theorem asO.mono{ρ:Nat→Int}{μ μ':Mu}(hm:μ.le μ'){a:Xu}{d:Deferred}(h:asO ρ μ a d):asO ρ μ' a d:=by
 cases a with
 |fn f args=>obtain⟨ws,h1,h2⟩:=h;exact⟨ws,h1,h2.mono hm⟩
 |coll b=>obtain⟨l,h1,h2⟩:=h;exact⟨l,hm.l _ _ h1,h2⟩
theorem Tj.mono{ρ:Nat→Int}{μ μ':Mu}(hm:μ.le μ'):∀{a:List Xu} {d:List Deferred},Tj ρ μ a d→Tj ρ μ' a d
 | [],[],_=>trivial
 |_ ::_,_ ::_,h=>⟨h.1.mono hm,Tj.mono hm h.2⟩
 | [],_ ::_,h=>h.elim
 |_ ::_,[],h=>h.elim
def aCM(μ:Mu):Option Key→Option Nat→Prop
 |none,none=>True
 |some k,some r=>∃l,μ k=some l∧r=l.c
 |_,_=>False
structure Cn(P:Program)(ρ:Nat→Int)(μ:Mu)(nt:Nat)(af:mB)(fr:Frame):Prop where
 fn:fr.fn=af.fn
 fnr:ald P af.fn nt af.res
 dfs:Tj ρ μ af.dfs fr.defers
 kind:fr.kind=if af.GG then .deferred else .normal
 vm:aCM μ af.vm fr.roundOf
 rd:af.vm≠none→af.GG=false
theorem Cn.mono{P:Program}{ρ:Nat→Int}{μ μ':Mu}(hm:μ.le μ'){nt:Nat}{af:mB}{fr:Frame}(h:Cn P ρ μ nt af fr):Cn P ρ μ' nt af fr:=by
 refine⟨h.fn,h.fnr,h.dfs.mono hm,h.kind,?_,h.rd⟩;have:=h.vm;cases h1:af.vm<;>cases h2:fr.roundOf<;>rw[h1,h2]at this
 ·trivial
 ·exact this.elim
 ·exact this.elim
 ·obtain⟨l,e1,e2⟩:=this;exact⟨l,hm.l _ _ e1,e2⟩
def NJ(ops:Array Oper)(jm:List Key):Prop:=∀j t,nz ops j=some t→∃k∈jm,k.toNat=t
inductive ZQ(P:Program)(ρ:Nat→Int)(orc:iV)(μ:Mu)(G:Key→Option ah)(H:T ah)(nx:Key)(nt:Nat):List de→T AV→List Item→Array Value→Prop
 |plain (k:List de) (K:List Item) (tm:T AV) (tmps:Array Value) (h:nf P μ nt k K) (ht:kI ρ μ nt tm tmps):ZQ P ρ orc μ G H nx nt k tm K tmps
 |ready (ops:Array Oper) (pl:List aC) (bf:List Nat) (g:Gh) (xy:List IIt) (items:List aN) (jm:SD) (av:List (Nat×Key×ah)) (k:List de) (K:List Item) (tm:T AV) (tmps:Array Value) (rest:List Nat)
   (hf:xy.mapM (Gl pl)=some items) (hc:BH ops pl bf g.L xy=true) (hd:NJ ops jm.ds∧Cj bf jm.jK=true) (h:nf P μ nt k K) (S:gW P ρ orc nt ops pl bf μ G H nx g (fun _=>False) av tm tmps rest) :
   ZQ P ρ orc μ G H nx nt (.staged items jm av ::k) tm (.inRegion ops rest ::K) tmps
 |back (ops:Array Oper) (pl:List aC) (bf:List Nat) (g:Gh) (os:List (Nat×aC)) (xy:List IIt) (items:List aN) (jm:SD) (av:List (Nat×Key×ah)) (k:List de) (K:List Item) (tm:T AV) (tmps:Array Value) (rest:List Nat)
   (hf:xy.mapM (Gl pl)=some items) (hc:BH ops pl bf g.L xy=true) (hd:NJ ops jm.ds∧Cj bf jm.jK=true) (h:nf P μ nt k K)
   (NH:∀i po,(i,po)∈os→pl[i]?=some po∧Gj ops bf i=true∧tR pl i=0) (Kv:∀i,hasB g.L i=true→g.D i=false→gU pl i=true→∃po,(i,po)∈os)
   (S:gW P ρ orc nt ops pl bf μ G H nx g (fun i=>gU pl i=true) av tm tmps rest) :
   ZQ P ρ orc μ G H nx nt (.staged (.R os ::items) jm av ::k) tm (.inRegion ops rest ::K) tmps
inductive LP(P:Program)(ρ:Nat→Int)(orc:iV)(μ:Mu)(G:Key→Option ah)(H:T ah)(nx:Key)(nt:Nat):List de→T AV→List Item→Array Value→Prop
 |ops (o:aC) (l:List aC) (ops:Array Oper) (i:Nat) (rest:List Nat) (k:List de) (K:List Item) (tm:T AV) (tmps:Array Value) (hp:lY P nt ops (i ::rest)=some (o ::l)) (h:nf P μ nt k K) (ht:kI ρ μ nt tm tmps) :
   LP P ρ orc μ G H nx nt (.ops (o ::l) ::k) tm (.inRegion ops (i ::rest) ::K) tmps
 |staged (ops:Array Oper) (pl:List aC) (bf:List Nat) (g:Gh) (i:Nat) (po:aC) (ad:List Nat) (os:List (Nat×aC)) (xy:List IIt) (items:List aN) (jm:SD) (av:List (Nat×Key×ah)) (k:List de) (K:List Item) (tm:T AV) (tmps:Array Value) (rest:List Nat)
   (xz:pl[i]?=some po) (hf:xy.mapM (Gl pl)=some items) (hc:BH ops pl bf (Gm g.L i) xy=true) (hL:hasB g.L i=false) (We:∀j,j<ops.size→hasB (cW bf i) j=true→hasB g.L j=true) (hd:NJ ops jm.ds∧Cj bf jm.jK=true) (h:nf P μ nt k K)
   (NH:∀i po,(i,po)∈os→pl[i]?=some po∧Gj ops bf i=true∧tR pl i=0) (Kv:∀j,hasB g.L j=true→gU pl j=true→hasB (cW bf i) j=true∨∃po,(j,po)∈os)
   (S:gW P ρ orc nt ops pl bf μ G H nx g (fun i=>gU pl i=true) av tm tmps (i ::rest)) :
   LP P ρ orc μ G H nx nt (.staged (.H i po ad ::.R os ::items) jm av ::k) tm (.inRegion ops (i ::rest) ::K) tmps
 |rf (key:Key) (l:Loc) (k:List de) (K:List Item) (tm:T AV) (tmps:Array Value) (hk:μ key=some l) (h:nf P μ nt k K) (ht:kI ρ μ nt tm tmps):LP P ρ orc μ G H nx nt (.inRF key ::k) tm (.inRangeFunc l.c ::K) tmps
inductive Cur(P:Program)(ρ:Nat→Int)(orc:iV)(μ:Mu)(G:Key→Option ah)(H:T ah)(nx:Key)(af:mB)(fr:Frame):Prop
 |run (nt:Nat) (hb:Cn P ρ μ nt af fr) (h1:af.mode=.run) (h2:fr.mode=.run) (h:ZQ P ρ orc μ G H nx nt af.todo af.tm fr.todo fr.tmps):Cur P ρ orc μ G H nx af fr
 |ret (nt:Nat) (hb:Cn P ρ μ nt af fr) (h1:af.mode=.ret) (h2:fr.mode=.returning) (h3:af.todo=[]∨∃k,af.todo=.code .ret ::k) (h:kI ρ μ nt af.tm fr.tmps):Cur P ρ orc μ G H nx af fr
 |pan (nt:Nat) (hb:Cn P ρ μ nt af fr) (v:AV) (u:Value) (r:Bool) (h1:af.mode=.pan v r) (h2:fr.mode=.panicking [{v:=u,recovered:=r}]) (hv:aX ρ μ v u) (h3:af.todo=[]) (h:kI ρ μ nt af.tm fr.tmps):Cur P ρ orc μ G H nx af fr
inductive Sus(P:Program)(ρ:Nat→Int)(orc:iV)(μ:Mu)(G:Key→Option ah)(H:T ah)(nx:Key)(af:mB)(fr:Frame):Prop
 |wait (nt:Nat) (hb:Cn P ρ μ nt af fr) (h1:af.mode=.run) (h2:fr.mode=.run) (h:LP P ρ orc μ G H nx nt af.todo af.tm fr.todo fr.tmps):Sus P ρ orc μ G H nx af fr
 |unw (h:Cur P ρ orc μ G H nx af fr) (hm:af.mode≠.run):Sus P ρ orc μ G H nx af fr
def dR(P:Program)(ρ:Nat→Int)(orc:iV)(μ:Mu)(G:Key→Option ah)(H:T ah)(nx:Key):List mB→List Frame→Prop
 | [],[]=>True
 |a ::l,f ::fs=>Sus P ρ orc μ G H nx a f∧dR P ρ orc μ G H nx l fs
 |_,_=>False
def pk(af:mB):List Nat:=match af.todo with
 |.staged _ _ p ::_=>p.map (·.2.1.toNat)
 |_=>[]
def bL:List mB→List Nat
 | []=>[]
 |a ::l=>pk a++bL l
structure BN(P:Program)(ρ:Nat→Int)(orc:iV)(w0:W0)(μ0:Mu)(am:AM)(fr:Frame)(cs:List Frame)(w:World):Prop where
 ex:∃μ G,μ0.le μ∧bB P ρ w0 μ G am.nx.toNat w∧HSub am.h G∧Cur P ρ orc μ G am.h am.nx am.fr fr∧dR P ρ orc μ G am.h am.nx am.cs cs∧(bL (am.fr ::am.cs)).Nodup
section
variable{P:Program}{ρ:Nat→Int}{orc:iV}{μ μ':Mu}{G G':Key→Option ah}{H H':T ah}{nx nx':Key}
theorem LP.cv(hm:μ.le μ')(hn:nx.toNat≤nx'.toNat){nt:Nat}{k:List de}{tm:T AV}{K:List Item}{tmps:Array Value}(h:LP P ρ orc μ G H nx nt k tm K tmps)
  (hk:∀b:Key,(∀i d p k',k=.staged i d p ::k'→b.toNat∈p.map (·.2.1.toNat))→(∃i d p k',k=.staged i d p ::k')→ag b H=none→b.toNat<nx.toNat→μ' b=μ b∧G' b=G b∧ag b H'=none):LP P ρ orc μ' G' H' nx' nt k tm K tmps:=by
 cases h with
 |ops o l ops i rest k K tm tmps hp h ht=>exact .ops o l ops i rest k K tm tmps hp (h.mono hm) (ht.mono hm)
 |rf key l k K tm tmps axZ h ht=>exact .rf key l k K tm tmps (hm.l _ _ axZ) (h.mono hm) (ht.mono hm)
 |staged ops pl bf g i po ad os xy items jm av k K tm tmps rest xz hf hc hL We hd h NH Kv S=>refine .staged ops pl bf g i po ad os xy items jm av k K tm tmps rest xz hf hc hL We hd (h.mono hm) NH Kv (S.cv hm hn fun x hx=>?_);obtain⟨_,_,_,p4,p5⟩:=S.pe x hx;refine hk x.2.1 ?_ ⟨_,_,_,_,rfl⟩ p4 p5;intro i d p k' e;cases e;exact NI.2 ⟨x,hx,rfl⟩
theorem Sus.cv(hm:μ.le μ')(hn:nx.toNat≤nx'.toNat){af:mB}{fr:Frame}(h:Sus P ρ orc μ G H nx af fr)
  (hk:∀b:Key,b.toNat∈pk af→ag b H=none→b.toNat<nx.toNat→μ' b=μ b∧G' b=G b∧ag b H'=none):Sus P ρ orc μ' G' H' nx' af fr:=by
 cases h with
 |wait nt hb h1 h2 h=>refine .wait nt (hb.mono hm) h1 h2 (h.cv hm hn fun b h3 ⟨i,d,p,k',e⟩ h4 h5=>hk b ?_ h4 h5);unfold pk;rw[e];exact h3 i d p k' e
 |unw h CR=>
  refine .unw ?_ CR;cases h with
  |run nt hb h1=>exact absurd h1 CR
  |ret nt hb h1 h2 h3 h=>exact .ret nt (hb.mono hm) h1 h2 h3 (h.mono hm)
  |pan nt hb v u r h1 h2 hv h3 h=>exact .pan nt (hb.mono hm) v u r h1 h2 (hv.mono hm) h3 (h.mono hm)
theorem dR.cv(hm:μ.le μ')(hn:nx.toNat≤nx'.toNat):∀{l:List mB} {fs:List Frame},dR P ρ orc μ G H nx l fs→
  (∀b:Key,b.toNat∈bL l→ag b H=none→b.toNat<nx.toNat→μ' b=μ b∧G' b=G b∧ag b H'=none)→dR P ρ orc μ' G' H' nx' l fs
 | [],[],_,_=>trivial
 |_ ::_,_ ::_,h,hk=>⟨h.1.cv hm hn fun b hb=>hk b (by simp[bL,hb]),dR.cv hm hn h.2 fun b hb=>hk b (by simp[bL,hb])⟩
 | [],_ ::_,h,_=>h.elim
 |_ ::_,[],h,_=>h.elim
end
section
variable{P:Program}{ρ:Nat→Int}{orc:iV}{nt:Nat}{w0:W0}{cs:List Frame}{K:List Item}{ops:Array Oper}
theorem kI.put{μ:Mu}{tm:T AV}{tmps:Array Value}(h:kI ρ μ nt tm tmps){o:Oper}{po:aC}(hd:(o.dst=none∧po.dst=none)∨∃k,o.dst=some k.toNat∧po.dst=some k∧k.toNat<nt){a:AV}{v:Value}(hv:aX ρ μ a v) :
  kI ρ μ nt (bV po.dst a tm) (IQ o.dst v tmps):=by
 rcases hd with⟨e1,e2⟩|⟨k,e1,e2,cQ⟩
 ·rw[e1,e2];exact h
 ·rw[e1,e2];refine⟨by simp[IQ];exact h.1,fun q b hb=>?_⟩;simp only[bV]at hb;simp only[IQ];by_cases hq:q=k
  ·subst hq;rw[gTSm]at hb;cases hb;have:q.toNat<tmps.size:=O5 cQ h.1;exact⟨v,by simp[this],hv⟩
  ·rw[aP _ _ _ _ hq]at hb;obtain⟨u,hu,hr⟩:=h.2 q b hb;refine⟨u,?_,hr⟩;rw[zqn]
   ·exact hu
   ·intro e;exact hq (Key.toNat_inj e.symm)
theorem aj9{o:Oper}{op:Lr}(hp:jJ P nt o=some op)(hd:fO o.op=true):∃v l,op=.dfr v l:=by
 obtain⟨dst,Ir,ty,pos,after,guard⟩:=o;cases Ir<;>first|(cases hd;done)|skip
 rename_i c;simp only[jJ]at hp;split at hp
 ·split at hp
  ·simp only[dP]at hp;exact⟨_,_,hp.symm⟩
  ·cases hp
 ·cases hp
theorem Cp{o:Oper}{op:Lr}(hp:jJ P nt o=some op){tm:T AV}{H:T ah}{nx:Key}(h1:∀f l,aOp orc op tm H nx≠.dfr f l)(h2:∀n,aOp orc op tm H nx≠.bad n):fO o.op=false:=by
 cases hd:fO o.op with
 |false=>rfl
 |true=>
  obtain⟨v,l,rfl⟩:=aj9 hp hd;exfalso;have key:(∃f l',aOp orc (.dfr v l) tm H nx=.dfr f l')∨∃n,aOp orc (.dfr v l) tm H nx=.bad n:=by
   simp only[aOp];split
   ·exact .inl ⟨_,_,rfl⟩
   ·exact .inr ⟨_,rfl⟩
  rcases key with⟨f,l',e⟩|⟨n,e⟩
  ·exact h1 _ _ e
  ·exact h2 _ e
def aoe(P:Program)(ρ:Nat→Int)(orc:iV)(nt:Nat)(w0:W0)(cs:List Frame)(K:List Item)(ops:Array Oper)(fr:Frame)(w:World)(μ:Mu)(G:Key→Option ah)(H:T ah)(nx:Key):RR→Prop
 |.fin aD h' nx'=>∃dT w' μ' G',Steps P (lone fr cs w) (lone {fr with tmps:=dT,todo:=K} cs w')∧μ.le μ'∧bB P ρ w0 μ' G' nx'.toNat w'∧HSub h' G'∧kI ρ μ' nt aD dT∧Kept H h' nx nx' μ μ' G G'
 |.ev r l' aD h' nx'=>(∃n,r=.bad n)∨∃dT w' μ' G' i kZ po ll o,Steps P (lone fr cs w) (lone {fr with tmps:=dT,todo:=.inRegion ops (i ::kZ) ::K} cs w')∧μ.le μ'∧bB P ρ w0 μ' G' nx'.toNat w'∧HSub h' G'∧
   kI ρ μ' nt aD dT∧Kept H h' nx nx' μ μ' G G'∧l'=po ::ll∧lY P nt ops (i ::kZ)=some l'∧ops[i]?=some o∧OQ P nt ops o=some po∧Region.wanted o (yielded ops dT)=true∧aOp orc po.op aD h' nx'=r∧¬DE r
theorem qs(orc:iV)(o:aC)(rest:List aC)(tm:T AV)(h:T ah)(nx:Key):kJ orc (o ::rest) tm h nx=(match cD o.guard tm with
   |none=>.ev (.bad 30) (o ::rest) tm h nx
   |some false=>zi o.dst (some (.tuple [])) tm fun tm=>kJ orc rest tm h nx
   |some true=>match aOp orc o.op tm h nx with
    |.val v h nx=>zi o.dst (some v) tm fun tm=>kJ orc rest tm h nx
    |r=>.ev r (o ::rest) tm h nx):=rfl
theorem LR(ho:fk ρ orc):∀(l:List aC) (rest:List Nat) (fr:Frame) (w:World) (μ:Mu) (G:Key→Option ah) (H:T ah) (nx:Key) (tm:T AV),lY P nt ops rest=some l→bB P ρ w0 μ G nx.toNat w→HSub H G→kI ρ μ nt tm fr.tmps→
  fr.mode=.run→fr.todo=.inRegion ops rest ::K→aoe P ρ orc nt w0 cs K ops fr w μ G H nx (kJ orc l tm H nx)
 | [],rest,fr,w,μ,G,H,nx,tm,hp,hM,hH,hT,hm,ht=>by
  cases rest with
  |cons i r=>simp only[lY]at hp;split at hp;cases hp;split at hp<;>cases hp
  |nil=>exact⟨fr.tmps,w,μ,G,.one (JU hm ht),μ.le_refl,hM,hH,hT,Kept.refl _ _ _ _⟩
 |po ::l,rest,fr,w,μ,G,H,nx,tm,hp,hM,hH,hT,hm,ht=>by
  cases rest with
  |nil=>simp only[lY,dP]at hp;cases hp
  |cons i r=>
  have hp0:=hp;simp only[lY]at hp;split at hp
  ·cases hp
  ·rename_i o PH;split at hp
   ·rename_i Vq l' h1 h2;simp only[dP,List.cons.injEq]at hp;obtain⟨rfl,rfl⟩:=hp;obtain⟨lf,Xs,DF⟩:=iU h1;have hs:∀(k:Key) a,k.toNat∈lZ ops o→ag k tm=some a→∃v,fr.tmps[k.toNat]?=some v∧aX ρ μ a v:=fun k a _ hg=>hT.2 k a hg;have hE:=Ib (P:=P) (nt:=nt) (o:=o) hM hs;rw[qs];have go:∀(tm2:T AV) (tmps2:Array Value) (w2:World) (μ2:Mu) (G2:Key→Option ah) (H2:T ah) (bu:Key),step P (lone fr cs w)=.next (lone {fr with tmps:=tmps2,todo:=.inRegion ops r ::K} cs w2)→μ.le μ2→bB P ρ w0 μ2 G2 bu.toNat w2→HSub H2 G2→kI ρ μ2 nt tm2 tmps2→Kept H H2 nx bu μ μ2 G G2→
      aoe P ρ orc nt w0 cs K ops fr w μ G H nx (kJ orc l' tm2 H2 bu):=by
     intro tm2 tmps2 w2 μ2 G2 H2 bu fj hle hM2 hH2 hT2 hK2;have ih:=LR ho l' r {fr with tmps:=tmps2,todo:=.inRegion ops r ::K} w2 μ2 G2 H2 bu tm2 h2 hM2 hH2 hT2 hm rfl;cases Qa:kJ orc l' tm2 H2 bu with
     |fin aD h' nx'=>rw[Qa]at ih;obtain⟨dT,w',μ',G',s1,s2,s3,s4,s5,s6⟩:=ih;exact⟨dT,w',μ',G',.head fj s1,Mu.le_trans hle s2,s3,s4,s5,hK2.trans s6⟩
     |ev rr ll aD h' nx'=>
      rw[Qa]at ih;rcases ih with hb|⟨dT,w',μ',G',i',kZ,Vq,ll',o',s1,s2,s3,s4,s5,s6,s7,s8,s9,s10,s11,s12,s13⟩
      ·exact .inl hb
      ·exact .inr ⟨dT,w',μ',G',i',kZ,Vq,ll',o',.head fj s1,Mu.le_trans hle s2,s3,s4,s5,hK2.trans s6,s7,s8,s9,s10,s11,s12,s13⟩
    cases hw:cD Vq.guard tm with
    |none=>exact .inl ⟨_,rfl⟩
    |some b=>
     have sm:=CY Xs hs hw;cases b with
     |false=>simp only[fp];have fj:=KY (P:=P) (cs:=cs) (w:=w) hm ht PH sm;rw[cT ht PH]at fj;exact go _ _ w μ G H nx fj μ.le_refl hM hH (hT.put DF (.tuple _ _ .nil)) (Kept.refl _ _ _ _)
     |true=>
      cases ha:aOp orc Vq.op tm H nx with
      |val a H2 bu=>
       simp only[fp];obtain⟨n,w2,μ2,G2,r1,r2,r3,r4,r5,r6⟩:=W7 hM hH ho lf hE ha;have Ge:fr.roundOf=none∨fO o.op=false:=.inr (Cp lf (by rw[ha];intro f l e;cases e) (by rw[ha];intro n e;cases e));cases n with
       |value v=>have fj:=Yw (P:=P) (cs:=cs) hm ht PH sm Ge r1;rw[cT ht PH]at fj;exact go _ _ w2 μ2 G2 H2 bu fj r3 r4 r5 ((hT.mono r3).put DF r2) r6
       |skip=>have r2:a=.tuple []:=r2;subst r2;have fj:=ahW (P:=P) (cs:=cs) hm ht PH sm Ge r1;rw[cT ht PH]at fj;exact go _ _ w2 μ2 G2 H2 bu fj r3 r4 r5 ((hT.mono r3).put DF (.tuple _ _ .nil)) r6
       |_=>exact r2.elim
      |bad n=>exact .inl ⟨_,rfl⟩
      |call f args=>exact .inr ⟨fr.tmps,w,μ,G,i,r,Vq,l',o,by rw[←ht];exact Steps.refl _ _,μ.le_refl,hM,hH,hT,Kept.refl _ _ _ _,rfl,hp0,PH,h1,sm,ha,by rintro(⟨_,_,_,e⟩|⟨_,e⟩)<;>cases e⟩
      |yld k args=>exact .inr ⟨fr.tmps,w,μ,G,i,r,Vq,l',o,by rw[←ht];exact Steps.refl _ _,μ.le_refl,hM,hH,hT,Kept.refl _ _ _ _,rfl,hp0,PH,h1,sm,ha,by rintro(⟨_,_,_,e⟩|⟨_,e⟩)<;>cases e⟩
      |pan v=>exact .inr ⟨fr.tmps,w,μ,G,i,r,Vq,l',o,by rw[←ht];exact Steps.refl _ _,μ.le_refl,hM,hH,hT,Kept.refl _ _ _ _,rfl,hp0,PH,h1,sm,ha,by rintro(⟨_,_,_,e⟩|⟨_,e⟩)<;>cases e⟩
      |dfr f args=>exact .inr ⟨fr.tmps,w,μ,G,i,r,Vq,l',o,by rw[←ht];exact Steps.refl _ _,μ.le_refl,hM,hH,hT,Kept.refl _ _ _ _,rfl,hp0,PH,h1,sm,ha,by rintro(⟨_,_,_,e⟩|⟨_,e⟩)<;>cases e⟩
      |recover=>exact .inr ⟨fr.tmps,w,μ,G,i,r,Vq,l',o,by rw[←ht];exact Steps.refl _ _,μ.le_refl,hM,hH,hT,Kept.refl _ _ _ _,rfl,hp0,PH,h1,sm,ha,by rintro(⟨_,_,_,e⟩|⟨_,e⟩)<;>cases e⟩
   ·cases hp
end
structure Ew(E:List Nat)(H H':T ah)(nx nx':Key)(μ μ':Mu)(G G':Key→Option ah):Prop where
 k:∀b:Key,b.toNat∉E→ag b H=none→b.toNat<nx.toNat→μ' b=μ b∧G' b=G b∧ag b H'=none
 n:nx.toNat≤nx'.toNat
theorem Ew.refl(E:List Nat)(H:T ah)(nx:Key)(μ:Mu)(G:Key→Option ah):Ew E H H nx nx μ μ G G:=⟨fun _ _ h _=>⟨rfl,rfl,h⟩,fE _⟩
theorem Ew.trans{E E2:List Nat}{H1 H2 H3:T ah}{n1 n2 n3:Key}{m1 m2 m3:Mu}{G1 G2 G3:Key→Option ah}(a:Ew E H1 H2 n1 n2 m1 m2 G1 G2)(b:Ew E2 H2 H3 n2 n3 m2 m3 G2 G3)(hE:∀x∈E2,x∈E∨n1.toNat≤x):Ew E H1 H3 n1 n3 m1 m3 G1 G3:=by
 refine⟨fun k hk hg hl=>?_,Nat.le_trans a.n b.n⟩;obtain⟨a1,a2,a3⟩:=a.k k hk hg hl;have ZF:k.toNat∉E2:=by
  intro h;rcases hE _ h with h|h
  ·exact hk h
  ·omega
 obtain⟨b1,b2,b3⟩:=b.k k ZF a3 (O5 hl a.n);exact⟨b1.trans a1,b2.trans a2,b3⟩
theorem Kept.toE{H H':T ah}{nx nx':Key}{μ μ':Mu}{G G':Key→Option ah}(h:Kept H H' nx nx' μ μ' G G')(E:List Nat):Ew E H H' nx nx' μ μ' G G':=
 ⟨fun b _ hg hl=>⟨h.m b hl,h.g b hg hl,h.h b hg hl⟩,h.n⟩
section
variable{P:Program}{ρ:Nat→Int}{orc:iV}{nt:Nat}{ops:Array Oper}{pl:List aC}{bf:List Nat}{w0:W0}{w:World}{μ μ':Mu}{G G':Key→Option ah}{H H':T ah}{nx nx':Key}{g:Gh}{EZ aCV:Nat→Prop}{av pend':List (Nat×Key×ah)}{tm:T AV}{tmps:Array Value}{rest:List Nat}{fr:Frame}{cs:List Frame}{K:List Item}{i:Nat}
theorem gW.auR(S:gW P ρ orc nt ops pl bf μ G H nx g EZ av tm tmps (i ::rest)){po:aC}(xz:pl[i]?=some po)(hL:hasB g.L i=false)(hb:∀j,j<ops.size→hasB (cW bf i) j=true→hasB g.L j=true)
  {o:Oper} (ho:ops[i]?=some o) {a:AV} {v:Value} (hv:aX ρ μ a v) :
  gW P ρ orc nt ops pl bf μ G H nx {L:=Gm g.L i,D:=fun j=>g.D j||j==i,a0:=g.a0,val:=AJ g.val i (some a)} EZ av (bV po.dst a tm) (IQ o.dst v tmps) rest:=by
 obtain⟨hi,hDi,Gg⟩:=S.ready;obtain⟨o',Vq,ZT,Xr,IT⟩:=S.UH.at hi;rw[xz]at IT;cases IT;rw[ho]at ZT;cases ZT;obtain⟨lf,Xs,DF⟩:=iU Xr;have hdi:nz ops i=o.dst:=by simp[nz,ho]
 have axp:∀x,o.dst=some x→x<tmps.size:=by
  intro x hx;rcases DF with⟨h,_⟩|⟨k,h,_,cQ⟩
  ·rw[h]at hx;cases hx
  ·rw[h]at hx;cases hx;exact O5 cQ S.sz
 have FV:=fun t=>ahK (v:=v) t axp;have anz:(IQ o.dst v tmps).size=tmps.size:=by cases o.dst<;>simp[IQ]
 have hD':∀j,((g.D j||j==i)=true)↔(g.D j=true∨j=i):=by intro j;simp
 have OI:∀j,hasB (Gm g.L i) j=true↔(hasB g.L j=true∨j=i):=by intro j;rw[GI,Bool.or_eq_true,decide_eq_true_eq];exact⟨fun h=>h.imp id Eq.symm,fun h=>h.imp id Eq.symm⟩
 have OV:∀p,hasB g.L p=true→hasB (cW bf p) i=false:=by
  intro p hp;cases h:hasB (cW bf p) i with
  |false=>rfl
  |true=>have:=S.lcl p hp i hi h;rw[hL]at this;cases this
 refine⟨S.UH,S.ord.2.2.2,?_,?_,?_,?_,?_,?_,by rw[anz];exact S.sz,?_,?_,?_,?_,S.nk,S.ni⟩
 ·exact S.cl.step S.ord.2.2.1
 ·intro j hj;rcases (hD' j).1 hj with h|h
  ·exact(OI j).2 (.inl (S.sub j h))
  ·exact(OI j).2 (.inr h)
 ·intro j hj;rcases (OI j).1 hj with h|h
  ·exact S.KV j h
  ·subst h;exact hi
 ·intro j hj q hq hbq;rcases (OI j).1 hj with h|h
  ·exact(OI q).2 (.inl (S.lcl j h q hq hbq))
  ·subst h;exact(OI q).2 (.inl (hb q hq hbq))
 ·intro k j hj hd;rcases DF with⟨e1,e2⟩|⟨kd,e1,e2,_⟩
  ·rcases (OI j).1 hj with h|h
   ·have bW:j≠i:=by intro e;subst e;rw[hL]at h;cases h
    rw[e2];simp only[bV,AJ,bW,if_false];exact S.a1 k j h hd
   ·subst h;rw[hdi,e1]at hd;cases hd
  ·rw[e2];simp only[bV];rcases (OI j).1 hj with h|h
   ·have bW:j≠i:=by intro e;subst e;rw[hL]at h;cases h
    have hk:k≠kd:=by intro e;subst e;exact bW (S.UH.Q3 hd (hdi.trans e1))
    rw[aP _ _ _ _ hk];simp only[AJ,bW,if_false];exact S.a1 k j h hd
   ·subst h;rw[hdi,e1]at hd;have hk:k=kd:=Key.toNat_inj (by simpa using hd.symm);subst hk;rw[gTSm];simp[AJ]
 ·intro k AB;rcases DF with⟨e1,e2⟩|⟨kd,e1,e2,_⟩
  ·rw[e2];exact S.a2 k fun j hj=>AB j ((OI j).2 (.inl hj))
  ·rw[e2];simp only[bV];have hk:k≠kd:=by intro e;subst e;exact AB i ((OI i).2 (.inr rfl)) (hdi.trans e1)
   rw[aP _ _ _ _ hk];exact S.a2 k fun j hj=>AB j ((OI j).2 (.inl hj))
 ·intro k j b hj hjd hjv;rw[FV];rcases (hD' j).1 hj with h|h
  ·have bW:j≠i:=by intro e;subst e;rw[hDi]at h;cases h
   by_cases e:o.dst=some k.toNat
   ·exact absurd (S.UH.Q3 (hdi.trans e) hjd).symm bW
   ·rw[if_neg e];exact S.c1 k j b h hjd (by simpa[AJ,bW]using hjv)
  ·subst h;rw[hdi]at hjd;rw[if_pos hjd];have hjv:b=a:=by simpa[AJ]using hjv.symm
   subst hjv;exact⟨v,rfl,hv⟩
 ·intro k b AB ha;rw[FV];have XU:o.dst≠some k.toNat:=by intro e;exact AB i ((hD' i).2 (.inr rfl)) (hdi.trans e)
  rw[if_neg XU];exact S.c2 k b (fun j hj=>AB j ((hD' j).2 (.inl hj))) ha
 ·intro j hj hjD;have hjD:(g.D j||j==i)=false:=hjD;rw[Bool.or_eq_false_iff]at hjD;have bW:j≠i:=by simpa using hjD.2
  have hjL:=((OI j).1 hj).resolve_right bW;exact(S.pd j hjL hjD.1).kn (OV j hjL) bW (fun _ h=>h) (fun _ h=>.inl h)
 ·intro x hx;obtain⟨p1,p2,p3,p4,p5⟩:=S.pe x hx;have bW:x.1≠i:=by intro e;rw[e,hL]at p1;cases p1
  refine⟨(OI _).2 (.inl p1),fun h=>p2 (((hD' _).1 h).resolve_right bW),fun h=>p3 ?_,p4,p5⟩;have h:(g.D x.1||x.1==i)=false:=h;rw[Bool.or_eq_false_iff]at h;exact h.1
theorem gW.Rv(S:gW P ρ orc nt ops pl bf μ G H nx g EZ av tm tmps (i ::rest))(hL:hasB g.L i=false)(hb:∀j,j<ops.size→hasB (cW bf i) j=true→hasB g.L j=true){o:Oper}(ho:ops[i]?=some o) :
  ∀(k:Key) a,k.toNat∈lZ ops o→ag k tm=some a→∃v,tmps[k.toNat]?=some v∧aX ρ μ a v:=
 S.MT (S.ape S.ready.1 hL hb) ho
theorem Lc:∀{p:List (Nat×Key×ah)} {h:T ah},HSub h G→(∀x∈p,G x.2.1=some x.2.2)→HSub (dq p h) G
 | [],h,hs,_=>hs
 |x ::p,h,hs,hp=>by
  refine Lc (p:=p) ?_ (fun y hy=>hp y (by simp[hy]));intro b B hb;by_cases e:b=x.2.1
  ·subst e;rw[gTSm]at hb;cases hb;exact hp x (by simp)
  ·rw[aP _ _ _ _ e]at hb;exact hs b B hb
theorem BD:∀{p:List (Nat×Key×ah)} {h:T ah} {b:Key},ag b h=none→(∀x∈p,x.2.1.toNat≠b.toNat)→ag b (dq p h)=none
 | [],h,b,hb,_=>hb
 |x ::p,h,b,hb,hp=>by refine BD (p:=p) ?_ (fun y hy=>hp y (by simp[hy]));rw[aP _ _ _ _ (fun e=>hp x (by simp) (by rw[e]))];exact hb
end
end Go.Sx
