/- A part of the proof. No condition. -/
import Derived.Test.YtecbfpngkfdkoaaGreatP3
import Derived.Orders
import Derived.Recover
set_option linter.unusedSimpArgs false
set_option linter.unusedVariables false
set_option linter.unusedSectionVars false
namespace Go.Sx
open Go.RowKit
section
variable{P:Program}{ρ:Nat→Int}{w0:W0}{w:World}{μ:Mu}{G:Key→Option ai}{nx:Key}{orc:jK}{nt:Nat}{tm:T AV}{H:T ai}{ev:Operand→Value}
theorem Vr{op:KR}{r:OR}(h:aOp orc op tm H nx=r)(hl:aOp orc op tm H nx=okV H nx (lightOp orc op tm H)):(∃a H' nx',r=.val a H' nx')∨∃n,r=.bad n:=by
 rw[hl]at h;subst h;cases lightOp orc op tm H with
 |none=>exact .inr ⟨_,rfl⟩
 |some v=>exact .inl ⟨_,_,_,rfl⟩
def CX(r:OR):Prop:=(∃a H' nx',r=.val a H' nx')∨∃n,r=.bad n
def aw7:KR→Bool
 |.callF _ _|.callV _ _|.dfr _ _|.panic _|.recover=>true
 |_=>false
theorem ahJ{α:Type}{vs:List α}{off:Nat}{l:List α}{bad:OR}{c:List α→OR}(hb:CX bad)(hc:∀l,CX (c l)):CX (aaw vs off l bad c):=by
 rw[putC_eq];split
 ·exact hc _
 ·exact hb
theorem SY{α:Type}{n:Nat}{l:List α}{bad:OR}{c:List α→OR}(hb:CX bad)(hc:∀l,CX (c l)):CX (Af n l bad c):=by
 rw[takeC_eq];split
 ·exact hc _
 ·exact hb
theorem du(n:Nat):CX (.bad n):=.inr ⟨n,rfl⟩
theorem qV(a:AV)(H:T ai)(nx:Key):CX (.val a H nx):=.inl ⟨_,_,_,rfl⟩
theorem SZ(f:Key→AV)(B:ai):CX (newB f B H nx):=by simp only[newB,sTCe];exact qV _ _ _
theorem mn{b:Bool}{x y:OR}(hx:CX x)(hy:CX y):CX (bif b then x else y):=by cases b<;>assumption
theorem xS(sz:Nat)(s:AV)(new:List AV)(m:Nat):CX (appendTo sz s new m H nx):=by
 unfold appendTo;split
 ·refine mn (qV _ _ _) (mn ?_ (du _));rw[sTCe];exact qV _ _ _
 ·refine mn (qV _ _ _) (mn ?_ (du _));split
  ·exact du _
  ·split
   ·rw[appC_eq,sTCe,sTCe];exact qV _ _ _
   ·exact du _
 ·refine mn ?_ (du _);split
  ·refine mn (ahJ (du _) fun _=>by rw[sTCe];exact qV _ _ _) (SY (du _) fun _=>?_);rw[xK (FC 9999),appC_eq,sTCe];exact qV _ _ _
  ·refine mn (du _) (SY (du _) fun _=>?_);rw[xK (FC 9999),appC_eq,sTCe];exact qV _ _ _
  ·refine mn (qV _ _ _) (mn (mn ?_ ?_) (du _))<;>(rw[appC_eq,sTCe,sTCe];exact qV _ _ _)
  ·exact du _
 ·exact du _
theorem aw8{op:KR}(he:aw7 op=false):CX (aOp orc op tm H nx):=by
 cases op with
 |callF f' ps=>cases he
 |callV pv ps=>cases he
 |dfr v l=>cases he
 |panic x=>cases he
 |recover=>cases he
 |strb x=>
  simp only[aOp];split
  ·exact qV _ _ _
  ·exact du _
 |store n pa pv=>
  simp only[aOp];split
  ·refine mn ?_ (du _);split
   ·exact du _
   ·exact du _
   ·exact ahJ (du _) fun _=>by rw[sTCe];exact qV _ _ _
   ·exact du _
  ·exact du _
 |mapupd sk pm pk pv=>
  simp only[aOp];split
  ·split
   ·split
    ·rw[sTCe];exact qV _ _ _
    ·exact du _
   ·exact du _
  ·exact du _
 |append sz ps px=>
  simp only[aOp];split
  ·exact xS _ _ _ _
  ·refine mn ?_ (du _);split
   ·exact SY (du _) fun _=>by rw[xK (FC 9999)];exact xS _ _ _ _
   ·exact du _
  ·exact mn (xS _ _ _ _) (du _)
  ·exact mn (xS _ _ _ _) (du _)
  ·exact du _
 |new zs=>simp only[aOp];split;exact SZ _ _;exact du _
 |box x=>simp only[aOp];split;exact SZ _ _;exact du _
 |bslice sz len zs ps=>simp only[aOp];split;exact SZ _ _;exact du _
 |mkmap=>simp only[aOp];split;exact SZ _ _;exact du _
 |mkslice sz zs l c=>simp only[aOp];split;exact SZ _ _;exact du _
 |_=>exact Vr rfl rfl
theorem LY{op:KR}{r:OR}(h:aOp orc op tm H nx=r)(hr:¬CX r):aw7 op=true:=by
 cases he:aw7 op with
 |true=>rfl
 |false=>exact absurd (h ▸ aw8 (orc:=orc) (tm:=tm) (H:=H) (nx:=nx) he) hr
theorem ahK{f:Nat}{first cap:List AV}{v:Value}(h:aU ρ μ (.fn f first cap) v):∃vs ws,v=.func (.func f) vs ws∧ax ρ μ first vs.toList∧ax ρ μ cap ws.toList:=by cases h with|fn _ _ _ vs ws h h'=>exact⟨vs,ws,rfl,h,h'⟩
theorem rL {f : Nat} {fn : Func} (hf : P.funcs[f]? = some fn) (hb : fn.body.isSome = true) (hn : fn.name ≠ "runtime.NumGoroutine") (args : Array Value) : (callFunc f args).run P w = .ok (.enter f args) w := by
 have h1:fn.body.isNone=false:=by cases h:fn.body<;>simp_all
 have h2 : (fn.name == "runtime.NumGoroutine") = false := by simpa using hn
 simp only[callFunc,sN,run_program,pY,hf,h2,h1,WA,if_false,wY]
theorem adO{o:Oper}{op:KR}(hp:kb P nt o=some op)(hE:BH P ρ μ nt o.op.operands.toList tm ev){f:Nat}{l:List AV}(h:aOp orc op tm H nx=.call f l)
  {fn : Func} (hf : P.funcs[f]? = some fn) (hb : fn.body.isSome = true) (hn : fn.name ≠ "runtime.NumGoroutine") :
  ∃args,(Go.execOp ev o).run P w=.ok (.enter f args) w∧ax ρ μ l args.toList:=by
 have he:=LY h (by rintro(⟨_,_,_,e⟩|⟨_,e⟩)<;>cases e);obtain⟨dst,Ic,ty,pos,after,guard⟩:=o;cases op<;>first|(cases he;done)|skip
 ·rename_i f' ps;obtain⟨c,fn',e0,hc,eu,_⟩:=lz hp;obtain⟨callee,args,argTypes⟩:=c;simp only at e0 hc eu;subst e0 hc;simp only[aOp]at h;split at h
  ·rename_i l' Rx;simp only[OR.call.injEq]at h;obtain⟨rfl,rfl⟩:=h;have hv:aU ρ μ (.fn f' [] []) (ev (.func f')):=hE (.func f') (by simp[Op.operands,Call.operands]) _ _ rfl rfl;obtain⟨vs,ws,e1,h1,h2⟩:=ahK hv;have hvs:vs=#[]:=by apply Array.ext';generalize vs.toList=x at h1;cases h1;rfl
   have hws:ws=#[]:=by apply Array.ext';generalize ws.toList=x at h2;cases h2;rfl
   subst hvs hws;refine⟨args.map ev,?_,?_⟩
   ·simp[Go.execOp,resolve,e1,Deferred.ofValue,invoke,rL hf hb hn]
   ·have:=mY (ev:=ev) eu Rx (hE.sub fun y hy=>by simp[Op.operands,Call.operands]at hy ⊢;exact .inr hy);simpa using this
  ·cases h
 ·rename_i pv ps;obtain⟨c,x,e0,hc,hx,eu⟩:=lz hp;obtain⟨callee,args,argTypes⟩:=c;simp only at e0 hc eu;subst e0 hc;simp only[aOp]at h;split at h
  ·rename_i f' first cap l' XK Rx
   simp only[OR.call.injEq]at h;obtain⟨rfl,rfl⟩:=h;have hv:=hE x (by simp[Op.operands,Call.operands]) pv _ hx XK;obtain⟨vs,ws,e1,h1,h2⟩:=ahK hv;refine⟨vs++args.map ev++ws,?_,?_⟩
   ·simp[Go.execOp,resolve,e1,Deferred.ofValue,invoke,rL hf hb hn]
   ·have:=mY (ev:=ev) eu Rx (hE.sub fun y hy=>by simp[Op.operands,Call.operands]at hy ⊢;exact .inr hy);have h3:ax ρ μ l' (args.map ev).toList:=by simpa using this
    simpa using(h1.append h3).append h2
  ·cases h
  ·cases h
 ·rename_i v l';simp only[aOp]at h;split at h<;>cases h
 ·rename_i x;simp only[aOp]at h;split at h<;>cases h
 ·cases h
theorem aiQ{o:Oper}{op:KR}(hp:kb P nt o=some op)(hE:BH P ρ μ nt o.op.operands.toList tm ev){k:Key}{l:List AV}(h:aOp orc op tm H nx=.yld k l) :
  ∃args lc,μ k=some lc∧(Go.execOp ev o).run P w=(Instr.yield lc.c args).run P w∧ax ρ μ l args.toList:=by
 have he:=LY h (by rintro(⟨_,_,_,e⟩|⟨_,e⟩)<;>cases e);obtain⟨dst,Ic,ty,pos,after,guard⟩:=o;cases op<;>first|(cases he;done)|skip
 ·simp only[aOp]at h;split at h<;>cases h
 ·rename_i pv ps;obtain⟨c,x,e0,hc,hx,eu⟩:=lz hp;obtain⟨callee,args,argTypes⟩:=c;simp only at e0 hc eu;subst e0 hc;simp only[aOp]at h;split at h
  ·cases h
  ·rename_i k' l' XK Rx;simp only[OR.yld.injEq]at h;obtain⟨rfl,rfl⟩:=h;have hv:=hE x (by simp[Op.operands,Call.operands]) pv _ hx XK;generalize qa:ev x=xx at hv;cases hv with|yld _ lc r hm hr=>
   subst hr;refine⟨args.map ev,lc,hm,?_,?_⟩
   ·simp[Go.execOp,resolve,qa,Deferred.ofValue,invoke]
   ·have:=mY (ev:=ev) eu Rx (hE.sub fun y hy=>by simp[Op.operands,Call.operands]at hy ⊢;exact .inr hy);simpa using this
  ·cases h
 ·simp only[aOp]at h;split at h<;>cases h
 ·simp only[aOp]at h;split at h<;>cases h
 ·cases h
theorem aiR{o:Oper}{op:KR}(hp:kb P nt o=some op)(hE:BH P ρ μ nt o.op.operands.toList tm ev){a:AV}(h:aOp orc op tm H nx=.pan a) :
  ∃v,(Go.execOp ev o).run P w=.halt (.panic v) w∧aU ρ μ a v:=by
 have he:=LY h (by rintro(⟨_,_,_,e⟩|⟨_,e⟩)<;>cases e);obtain⟨dst,Ic,ty,pos,after,guard⟩:=o;cases op<;>first|(cases he;done)|skip
 ·simp only[aOp]at h;split at h<;>cases h
 ·simp only[aOp]at h;split at h<;>cases h
 ·simp only[aOp]at h;split at h<;>cases h
 ·rename_i px;obtain⟨x,e0,hx⟩:=lz hp;simp only at e0;subst e0;simp only[aOp]at h;split at h
  ·rename_i t u hu;simp only[OR.pan.injEq]at h;subst h;have hv:=hE x (by simp[Op.operands]) px _ hx hu;refine⟨ev x,?_,hv⟩;generalize qa:ev x=xx at hv;cases hv;simp[Go.execOp,qa,Instr.panic]
  ·cases h
 ·cases h
theorem aiS{o:Oper}{op:KR}(hp:kb P nt o=some op)(hE:BH P ρ μ nt o.op.operands.toList tm ev){f:Nat}{l:List AV}(h:aOp orc op tm H nx=.dfr f l) :
  ∃c ws vs,o.op=.defer c∧(resolve ev c o.type).run P w=.ok ⟨.fn (.func f) ws,vs⟩ w∧(Go.execOp ev o).run P w=.ok (.defer ⟨.fn (.func f) ws,vs⟩) w∧ax ρ μ l (vs++ws).toList:=by
 have he:=LY h (by rintro(⟨_,_,_,e⟩|⟨_,e⟩)<;>cases e);obtain⟨dst,Ic,ty,pos,after,guard⟩:=o;cases op<;>first|(cases he;done)|skip
 ·simp only[aOp]at h;split at h<;>cases h
 ·simp only[aOp]at h;split at h<;>cases h
 ·rename_i pv ps;obtain⟨c,x,e0,hc,hx,eu⟩:=lz hp;obtain⟨callee,args,argTypes⟩:=c;simp only at e0 hc eu;subst e0 hc;simp only[aOp]at h;split at h
  ·rename_i f' first cap l' XK Rx
   simp only[OR.dfr.injEq]at h;obtain⟨rfl,rfl⟩:=h;have hv:=hE x (by simp[Op.operands,Call.operands]) pv _ hx XK;obtain⟨vs,ws,e1,h1,h2⟩:=ahK hv;refine⟨_,ws,vs++args.map ev,rfl,?_,?_,?_⟩
   ·simp[resolve,e1,Deferred.ofValue]
   ·simp[Go.execOp,resolve,e1,Deferred.ofValue]
   ·have:=mY (ev:=ev) eu Rx (hE.sub fun y hy=>by simp[Op.operands,Call.operands]at hy ⊢;exact .inr hy);have h3:ax ρ μ l' (args.map ev).toList:=by simpa using this
    simpa using(h1.append h3).append h2
  ·cases h
 ·simp only[aOp]at h;split at h<;>cases h
 ·cases h
theorem UU{o:Oper}{op:KR}(hp:kb P nt o=some op)(h:aOp orc op tm H nx=.recover):(Go.execOp ev o).run P w=.ok .recover w:=by
 have he:=LY h (by rintro(⟨_,_,_,e⟩|⟨_,e⟩)<;>cases e);obtain⟨dst,Ic,ty,pos,after,guard⟩:=o;cases op<;>first|(cases he;done)|skip
 ·simp only[aOp]at h;split at h<;>cases h
 ·simp only[aOp]at h;split at h<;>cases h
 ·simp only[aOp]at h;split at h<;>cases h
 ·simp only[aOp]at h;split at h<;>cases h
 ·obtain⟨c,e0,hc,eu⟩:=lz hp;obtain⟨callee,args,argTypes⟩:=c;simp only at e0 hc eu;subst e0 hc eu;simp[Go.execOp,resolve,invoke,Go.builtin]
end
def UZ(ops:Array Oper):(Nat→Bool)→List Nat→Prop
 |D,[]=>∀i,i<ops.size→D i=true
 |D,i ::r=>i<ops.size∧D i=false∧(∀o,ops[i]?=some o→∀e∈o.after.toList,Region.binds .any e=true→D e.on=true)∧UZ ops (fun j=>D j||j==i) r
theorem UZ.congr{ops:Array Oper}:∀{l:List Nat} {D D':Nat→Bool},(∀i,i<ops.size→D i=D' i)→(∀(i:Nat) (o:Oper),ops[i]?=some o→∀e∈o.after.toList,Region.binds .any e=true→e.on<ops.size)→UZ ops D l→UZ ops D' l
 | [],D,D',h,_,hv=>fun i hi=>by rw[←h i hi];exact hv i hi
 |i ::r,D,D',h,he,hv=>by obtain⟨h1,h2,h3,h4⟩:=hv;refine⟨h1,by rw[←h i h1];exact h2,fun o ho e hm hb=>?_,UZ.congr (fun j hj=>by rw[h j hj]) he h4⟩;rw[←h e.on (he i o ho e hm hb)];exact h3 o ho e hm hb
def M6(ops:Array Oper):Prop:=∀(i:Nat) (o:Oper),ops[i]?=some o→∀e∈o.after.toList,Region.binds .any e=true→e.on<i
def unl(n:Nat)(listed:Array Bool):Nat:=(List.range n).countP fun i=>!listed.getD i true
theorem aiM{n:Nat}{listed:Array Bool}(hs:listed.size=n){i:Nat}(hi:i<n)(hf:listed.getD i true=false):unl n listed=unl n (listed.setIfInBounds i true)+1:=by
 unfold unl;have key:∀(l:List Nat),l.Nodup→(∀j∈l,j<n)→l.countP (fun j=>!listed.getD j true)=l.countP (fun j=>!(listed.setIfInBounds i true).getD j true)+(if i∈l then 1 else 0):=by
  intro l
  induction l with
  |nil=>intro _ _;simp
  |cons x l ih=>
   intro QD dn;have aEv:=List.nodup_cons.1 QD;rw[List.countP_cons,List.countP_cons,ih aEv.2 (fun j hj=>dn j (by simp[hj]))];by_cases hx:x=i
   ·subst hx;have h1:(listed.setIfInBounds x true).getD x true=true:=by simp[Array.getD,hs,hi]
    simp only[hf,h1,aEv.1,if_false,CR,true_or,if_true];simp
   ·have h1:(listed.setIfInBounds i true).getD x true=listed.getD x true:=by simp only[Array.getD_eq_getD_getElem?];rw[zqn (fun e=>hx e.symm)]
    have h2:(i∈x ::l)↔i∈l:=by simp[Ne.symm hx]
    simp only[h1,h2];omega
 rw[key _ List.nodup_range (fun j hj=>by simpa using hj),if_pos (by simpa using hi)]
theorem atC{n:Nat}{listed:Array Bool}(h:0<unl n listed):∃i,i<n∧listed.getD i true=false∧∀j,j<i→listed.getD j true=true:=by
 unfold unl at h;rw[List.countP_pos_iff]at h;obtain⟨a,ha,hb⟩:=h;have ha:a<n:=by simpa using ha
 have hb:listed.getD a true=false:=by simpa using hb
 induction a using Nat.strongRecOn with
 |_ a ih=>
  by_cases J9:∀j,j<a→listed.getD j true=true
  ·exact⟨a,ha,hb,J9⟩
  ·simp only[Classical.not_forall]at J9;obtain⟨j,hj,hjf⟩:=J9;exact ih j hj (by simpa using Nat.lt_trans hj ha) (by simpa using hjf) (Nat.lt_trans hj ha) (by simpa using hjf)
theorem MN{ops:Array Oper}(hd:M6 ops):∀(fuel t:Nat) (listed:Array Bool) (acc:List Nat),listed.size=ops.size→unl ops.size listed=fuel→
  ∃r,Region.linearise.go .any ops fuel t listed acc=acc.reverse++r∧UZ ops (fun i=>listed.getD i true) r
 |0,t,listed,acc,hs,hu=>by
  refine⟨[],by simp[Region.linearise.go],fun i hi=>?_⟩;show listed.getD i true=true;cases h:listed.getD i true with
  |true=>rfl
  |false=>have:=aiM hs hi h;omega
 |fuel+1,t,listed,acc,hs,hu=>by
  obtain⟨i0,hi0,hf0,aNq⟩:=atC (n:=ops.size) (listed:=listed) (by omega);simp only[Region.linearise.go];generalize hrs:(List.range ops.size).filter (fun i=>!listed.getD i true&&((ops[i]?).map (·.after.all fun e=>!Region.binds .any e||listed.getD e.on false)).getD false)=rs;have IE:∀i,i∈rs↔i<ops.size∧listed.getD i true=false∧∀o,ops[i]?=some o→∀e∈o.after.toList,Region.binds .any e=true→listed.getD e.on false=true:=by
   intro i;rw[←hrs,List.mem_filter];constructor
   ·rintro⟨h1,h2⟩;have hi:i<ops.size:=by simpa using h1
    simp only[kW,Bool.not_eq_true']at h2;refine⟨hi,h2.1,fun o ho e he hb=>?_⟩;have h3:=h2.2;rw[ho]at h3;simp only[Option.map_some,Option.getD_some,Array.all_eq_true_iff_forall_mem]at h3;have:=h3 e (by simpa using he);simpa[hb]using this
   ·rintro⟨hi,h1,h2⟩;refine⟨by simpa using hi,?_⟩;simp only[kW,Bool.not_eq_true'];refine⟨h1,?_⟩;have ho:ops[i]?=some ops[i]:=by simp[hi]
    rw[ho];simp only[Option.map_some,Option.getD_some,Array.all_eq_true_iff_forall_mem];intro e he;cases hb:Region.binds .any e with
    |false=>rfl
    |true=>simpa using h2 _ ho e (by simpa using he) hb
  have cp:i0∈rs:=by
   rw[IE];refine⟨hi0,hf0,fun o ho e he hb=>?_⟩;have dn:=hd i0 o ho e he hb;have h1:=aNq e.on dn;have:e.on<listed.size:=by omega
   simp only[Array.getD_eq_getD_getElem?,this,getElem?_pos,Option.getD_some]at h1 ⊢;exact h1
  have hlen:0<rs.length:=List.length_pos_of_mem cp;have dn:t%rs.length<rs.length:=Nat.mod_lt _ hlen;have EY:rs[t%rs.length]?=some rs[t%rs.length]:=by simp[dn]
  rw[EY];have Th:rs[t%rs.length]∈rs:=UG dn;generalize rs[t%rs.length]=i at Th;obtain⟨hi,hf,aNr⟩:=(IE i).1 Th;have hun:=aiM hs hi hf;obtain⟨r,hr,hv⟩:=MN hd fuel (t / rs.length) (listed.setIfInBounds i true) (i ::acc) (by simp[hs]) (by omega);refine⟨i ::r,?_,hi,hf,fun o ho e he hb=>?_,?_⟩
  ·show Region.linearise.go _ _ _ _ _ _=_;rw[hr];simp
  ·have h1:=aNr o ho e he hb;have dn:=hd i o ho e he hb;have:e.on<listed.size:=by omega
   simp only[Array.getD_eq_getD_getElem?,this,getElem?_pos,Option.getD_some]at h1 ⊢;exact h1
  ·refine UZ.congr ?_ (fun j o ho e he hb=>?_) hv
   ·intro j hj;by_cases PF:j=i
    ·subst PF;have:j<listed.size:=by omega
     simp[Array.getD,this]
    ·simp only[Array.getD_eq_getD_getElem?];rw[zqn (fun e=>PF e.symm)];simp[PF]
   ·have h1:=hd j o ho e he hb;have:j<ops.size:=by
     rcases HS j ops.size with h'|h'
     ·exact h'
     ·rw[Z8 h']at ho;cases ho
    omega
theorem UE{ops:Array Oper}(hd:M6 ops)(t:Nat):UZ ops (fun _=>false) (Region.schedule true ops t):=by
 have hu:unl ops.size (Array.replicate ops.size false)=ops.size:=by
  unfold unl;rw[List.countP_eq_length.2 (fun a ha=>by
   have:a<ops.size:=by simpa using ha
   simp[Array.getD,this])]
  simp
 obtain⟨r,hr,hv⟩:=MN hd ops.size t (Array.replicate ops.size false) [] (by simp) hu;have:Region.schedule true ops t=r:=by simp[Region.schedule,Region.linearise,hr]
 rw[this];refine UZ.congr (fun i hi=>by simp[Array.getD,hi]) (fun j o ho e he hb=>?_) hv;have h1:=hd j o ho e he hb;have:j<ops.size:=by
  rcases HS j ops.size with h'|h'
  ·exact h'
  ·rw[Z8 h']at ho;cases ho
 omega
section
variable{P:Program}{fr:Frame}{cs:List Frame}{w w':World}{k:List Item}
def G1(fr:Frame)(cs:List Frame):Goroutine:={frame:=fr,callers:=cs,status:=.running,dying:=none}
theorem ajT(hm:fr.mode=.run):stepG P true (G1 fr cs) w=stepG.exec P true true fr cs none w:=by simp[stepG,G1,hm]
theorem YX(hm:fr.mode≠.run):stepG P true (G1 fr cs) w=unwind P true fr cs none w:=by
 cases h:fr.mode with
 |run=>exact absurd h hm
 |returning=>simp[stepG,G1,h]
 |panicking c=>simp[stepG,G1,h]
theorem dX{fY:Frame}{xJ:List Frame}(hm:fr.mode=.run)(h:(stepG.exec P true true fr cs none w).bare=.go (G1 fY xJ) w'):step P (lone fr cs w)=.next (lone fY xJ w'):=
 step_lone_go (by have:=ajT (P:=P) (cs:=cs) (w:=w) hm;simp only[G1]at this h;rw[this];exact h)
theorem NY{fY:Frame}{xJ:List Frame}(hm:fr.mode≠.run)(h:(unwind P true fr cs none w).bare=.go (G1 fY xJ) w'):step P (lone fr cs w)=.next (lone fY xJ w'):=
 step_lone_go (by have:=YX (P:=P) (cs:=cs) (w:=w) hm;simp only[G1]at this h;rw[this];exact h)
theorem asC(hm:fr.mode=.run)(ht:fr.todo=.code .skip ::k):step P (lone fr cs w)=.next (lone {fr with todo:=k} cs w):=
 dX hm (by simp[stepG.exec,ht,G1])
theorem ayH{a b:Code}(hm:fr.mode=.run)(ht:fr.todo=.code (.seq a b) ::k):step P (lone fr cs w)=.next (lone {fr with todo:=.code a ::.code b ::k} cs w):=
 dX hm (by simp[stepG.exec,ht,G1])
theorem ah6{c:Operand}{a b:Code}{t:Bool}(hm:fr.mode=.run)(ht:fr.todo=.code (.cond c a b) ::k)(hc:fr.eval c=.bool t) :
  step P (lone fr cs w)=.next (lone {fr with todo:=.code (if t then a else b) ::k} cs w):=
 dX hm (by simp[stepG.exec,ht,G1,hc])
theorem aoi{id:Nat}{c:Code}(hm:fr.mode=.run)(ht:fr.todo=.code (.block id c) ::k):step P (lone fr cs w)=.next (lone {fr with todo:=.code c ::.inBlock id ::k} cs w):=
 dX hm (by simp[stepG.exec,ht,G1])
theorem aeu{id:Nat}(hm:fr.mode=.run)(ht:fr.todo=.inBlock id ::k):step P (lone fr cs w)=.next (lone {fr with todo:=k} cs w):=
 dX hm (by simp[stepG.exec,ht,G1])
theorem aoj{c:Code}(hm:fr.mode=.run)(ht:fr.todo=.code (.scope c) ::k):step P (lone fr cs w)=.next (lone {fr with todo:=.code c ::.inScope c ::k} cs w):=
 dX hm (by simp[stepG.exec,ht,G1])
theorem aok{i:Nat}(hm:fr.mode=.run)(ht:fr.todo=.code (.label i) ::k):step P (lone fr cs w)=.next (lone {fr with todo:=k} cs w):=
 dX hm (by simp[stepG.exec,ht,G1])
theorem aev{c:Code}(hm:fr.mode=.run)(ht:fr.todo=.inScope c ::k):step P (lone fr cs w)=.next (lone {fr with todo:=k} cs w):=
 dX hm (by simp[stepG.exec,ht,G1])
theorem asD{c:Code}(hm:fr.mode=.run)(ht:fr.todo=.code (.loop c) ::k):step P (lone fr cs w)=.next (lone {fr with todo:=.code c ::.inLoop c ::k} cs w):=
 dX hm (by simp[stepG.exec,ht,G1])
theorem ajz{c:Code}(hm:fr.mode=.run)(ht:fr.todo=.inLoop c ::k):step P (lone fr cs w)=.next (lone {fr with todo:=.code c ::.inLoop c ::k} cs w):=
 dX hm (by simp[stepG.exec,ht,G1])
theorem asE{id:Nat}{k':List Item}(hm:fr.mode=.run)(ht:fr.todo=.code (.exit id) ::k)(he:exitTo id k=some k'):step P (lone fr cs w)=.next (lone {fr with todo:=k'} cs w):=
 dX hm (by simp[stepG.exec,ht,G1,he])
theorem ajU{id:Nat}{ops:Array Oper}(hm:fr.mode=.run)(ht:fr.todo=.code (.region id ops false) ::k) :
  step P (lone fr cs w)=.next (lone {fr with todo:=.inRegion ops (List.range ops.size) ::k} cs w):=
 dX hm (by simp[stepG.exec,ht,G1])
theorem asF{id:Nat}{ops:Array Oper}(hm:fr.mode=.run)(ht:fr.todo=.code (.region id ops true) ::k) :
  ∃t,step P (lone fr cs w)=.next (lone {fr with todo:=.inRegion ops (Region.schedule (P.follows .mixedOrders) ops t) ::k} cs {w with drawn:=w.drawn+1}):=
 ⟨w.tape w.drawn (.order fr.fn id),dX hm (by simp[stepG.exec,ht,G1,choose,Sem.run,Question.forced,Question.cut])⟩
theorem Ju{ops:Array Oper}(hm:fr.mode=.run)(ht:fr.todo=.inRegion ops [] ::k):step P (lone fr cs w)=.next (lone {fr with todo:=k} cs w):=
 dX hm (by simp[stepG.exec,ht,G1])
theorem ayI(hm:fr.mode=.run)(ht:fr.todo=[])(hr:fr.roundOf=none):step P (lone fr cs w)=.next (lone {fr with mode:=.returning} cs w):=
 dX hm (by simp[stepG.exec,ht,G1,hr])
theorem ayJ(hm:fr.mode=.run)(ht:fr.todo=.code .ret ::k)(hr:fr.roundOf=none):step P (lone fr cs w)=.next (lone {fr with mode:=.returning} cs w):=
 dX hm (by simp[stepG.exec,ht,G1,hr])
variable{ops:Array Oper}{i:Nat}{rest:List Nat}{o:Oper}
theorem Kr(hm:fr.mode=.run)(ht:fr.todo=.inRegion ops (i ::rest) ::k)(ho:ops[i]?=some o)(hw:Region.wanted o (yielded ops fr.tmps)=false) :
  step P (lone fr cs w)=.next (lone (fr.finish undef) cs w):=
 dX hm (by simp[stepG.exec,ht,G1,ho,hw])
def fV:Op→Bool
 |.defer _=>true
 |_=>false
theorem AI(ht:fr.todo=.inRegion ops (i ::rest) ::k)(ho:ops[i]?=some o)(hw:Region.wanted o (yielded ops fr.tmps)=true)(hd:fr.roundOf=none∨fV o.op=false) :
  stepG.exec P true true fr cs none w=stepG.apply P true fr cs none (Go.execOp fr.eval o) w:=by
 simp only[stepG.exec,ht,ho,Option.map_some,Option.getD_some,hw,if_true,stepG.oper,Frame.oper?];cases hr:fr.roundOf with
 |none=>rfl
 |some l=>rw[hr]at hd;have hd:fV o.op=false:=hd.resolve_left (by simp);cases pE:o.op<;>first|rfl|(rw[pE]at hd;cases hd)
theorem YR{v:Value}(hm:fr.mode=.run)(ht:fr.todo=.inRegion ops (i ::rest) ::k)(ho:ops[i]?=some o)(hw:Region.wanted o (yielded ops fr.tmps)=true)(hd:fr.roundOf=none∨fV o.op=false)
  (h:(Go.execOp fr.eval o).run P w=.ok (.value v) w'):step P (lone fr cs w)=.next (lone (fr.finish v) cs w'):=
 dX hm (by rw[AI ht ho hw hd];simp[stepG.apply,h,G1])
theorem ah7(hm:fr.mode=.run)(ht:fr.todo=.inRegion ops (i ::rest) ::k)(ho:ops[i]?=some o)(hw:Region.wanted o (yielded ops fr.tmps)=true)(hd:fr.roundOf=none∨fV o.op=false)
  (h:(Go.execOp fr.eval o).run P w=.ok .skip w'):step P (lone fr cs w)=.next (lone (fr.finish undef) cs w'):=
 dX hm (by rw[AI ht ho hw hd];simp[stepG.apply,h,G1])
theorem ak7{f:FuncId}{args:Array Value}(hm:fr.mode=.run)(ht:fr.todo=.inRegion ops (i ::rest) ::k)(ho:ops[i]?=some o)(hw:Region.wanted o (yielded ops fr.tmps)=true)(hd:fr.roundOf=none∨fV o.op=false)
  (h:(Go.execOp fr.eval o).run P w=.ok (.enter f args) w'):step P (lone fr cs w)=.next (lone (Frame.enter P f args .normal) (fr ::cs) w'):=
 dX hm (by rw[AI ht ho hw hd];simp[stepG.apply,h,G1,ht])
theorem ak8{l:Nat}{f:FuncId}{tmps:Array Value}{as bd:Code}(hm:fr.mode=.run)(ht:fr.todo=.inRegion ops (i ::rest) ::k)(ho:ops[i]?=some o)(hw:Region.wanted o (yielded ops fr.tmps)=true)(hd:fr.roundOf=none∨fV o.op=false)
  (h:(Go.execOp fr.eval o).run P w=.ok (.round l f tmps as bd) w'):step P (lone fr cs w)=.next (lone (Frame.round l f tmps as bd .normal) (fr ::cs) w'):=
 dX hm (by rw[AI ht ho hw hd];simp[stepG.apply,h,G1])
theorem ak9{v:Value}(hm:fr.mode=.run)(ht:fr.todo=.inRegion ops (i ::rest) ::k)(ho:ops[i]?=some o)(hw:Region.wanted o (yielded ops fr.tmps)=true)(hd:fr.roundOf=none∨fV o.op=false)
  (h:(Go.execOp fr.eval o).run P w=.halt (.panic v) w'):step P (lone fr cs w)=.next (lone {fr with mode:=.panicking [{v,recovered:=false}]} cs w'):=
 dX hm (by rw[AI ht ho hw hd];simp[stepG.apply,h,G1,Frame.raise,hm])
theorem ala{d:Deferred}(hm:fr.mode=.run)(ht:fr.todo=.inRegion ops (i ::rest) ::k)(ho:ops[i]?=some o)(hw:Region.wanted o (yielded ops fr.tmps)=true)(hd:fr.roundOf=none∨fV o.op=false)
  (h:(Go.execOp fr.eval o).run P w=.ok (.defer d) w'):step P (lone fr cs w)=.next (lone ({fr with defers:=d ::fr.defers}.finish undef) cs w'):=
 dX hm (by rw[AI ht ho hw hd];simp[stepG.apply,h,G1])
theorem PA{v:Value}{xJ:List Frame}(hm:fr.mode=.run)(ht:fr.todo=.inRegion ops (i ::rest) ::k)(ho:ops[i]?=some o)(hw:Region.wanted o (yielded ops fr.tmps)=true)(hr:fr.roundOf=none)
  (h:(Go.execOp fr.eval o).run P w=.ok .recover w') (adQ:tryRecover fr cs=some (v,xJ)):step P (lone fr cs w)=.next (lone (fr.finish v) xJ w'):=
 dX hm (by rw[AI ht ho hw (.inl hr)];simp[stepG.apply,h,G1,hr,adQ])
theorem PB(hm:fr.mode=.run)(ht:fr.todo=.inRegion ops (i ::rest) ::k)(ho:ops[i]?=some o)(hw:Region.wanted o (yielded ops fr.tmps)=true)(hr:fr.roundOf=none)
  (h:(Go.execOp fr.eval o).run P w=.ok .recover w') (adQ:tryRecover fr cs=none):step P (lone fr cs w)=.next (lone (fr.finish .nilIface) cs w'):=
 dX hm (by rw[AI ht ho hw (.inl hr)];simp[stepG.apply,h,G1,hr,adQ])
end
section
variable{P:Program}{fr c:Frame}{cs:List Frame}{w w':World}{k:List Item}{fn:Func}
theorem ajA{v:Value}(hm:fr.mode=.returning)(hd:fr.defers=[])(hk:fr.kind=.normal)(hf:P.funcs[fr.fn]?=some fn)(hr:(results fn fr.tmps).run P w=.ok v w) :
  step P (lone fr (c ::cs) w)=.next (lone (c.finish v) cs w):=
 NY (by simp[hm]) (by simp[unwind,hd,hm,hf,hr,doReturn,hk,G1])
theorem Kl{v:Value}(hm:fr.mode=.returning)(hd:fr.defers=[])(hk:fr.kind=.deferred)(hf:P.funcs[fr.fn]?=some fn)(hr:(results fn fr.tmps).run P w=.ok v w) :
  step P (lone fr (c ::cs) w)=.next (lone {c with mode:=settle c.mode} cs w):=
 step_going_returned (fr:=fr) hk ⟨hm,hd,fn,hf,hr⟩
theorem abk{chain:List PanicEntry}(hm:fr.mode=.panicking chain)(hd:fr.defers=[])(hf:P.funcs[fr.fn]?=some fn) :
  step P (lone fr (c ::cs) w)=.next (lone (c.raise chain) cs w):=
 NY (by simp[hm]) (by simp[unwind,hd,hm,Frame.catches,hf,G1])
theorem abi{d:Deferred}{ds:List Deferred}{fv:Fn}{cap args:Array Value}{f:FuncId}(hm:fr.mode≠.run)(hd:fr.defers=d ::ds)(ht:d.target=.fn fv cap)
  (hi:(invoke d.target d.args).run P w=.ok (.enter f args) w):step P (lone fr cs w)=.next (lone (Frame.enter P f args .deferred) ({fr with defers:=ds} ::cs) w):=
 step_defer hm hd ht hi
theorem YJ{b:Nat}{ds BB:List Deferred}(hm:fr.mode≠.run)(hd:fr.defers=⟨.collected b,#[]⟩ ::ds)(h:(Instr.takeDeferred b).run P w=.ok BB w') :
  step P (lone fr cs w)=.next (lone {fr with defers:=BB++ds} cs w'):=
 NY hm (by simp[unwind,hd,h,G1])
theorem TU{l:Nat}{v:Value}(hm:fr.mode=.run)(ht:fr.todo=[])(hr:fr.roundOf=some l)(hk:fr.kind=.normal)(h:(Instr.endRound l none).run P w=.ok v w') :
  step P (lone fr (c ::cs) w)=.next (lone (c.finish v) cs w'):=
 dX hm (by simp[stepG.exec,ht,hr,h,doReturn,hk,G1])
theorem Zb{l:Nat}{v:Value}(hm:fr.mode=.run)(ht:fr.todo=.code .ret ::k)(hr:fr.roundOf=some l)(hk:fr.kind=.normal)(h:(Instr.endRound l (some .ret)).run P w=.ok v w') :
  step P (lone fr (c ::cs) w)=.next (lone (c.finish v) cs w'):=
 dX hm (by simp[stepG.exec,ht,hr,h,doReturn,hk,G1])
theorem VM{l id:Nat}{v:Value}(hm:fr.mode=.run)(ht:fr.todo=.code (.exit id) ::k)(he:exitTo id k=none)(hr:fr.roundOf=some l)(hk:fr.kind=.normal)(h:(Instr.endRound l (some (.exit id))).run P w=.ok v w') :
  step P (lone fr (c ::cs) w)=.next (lone (c.finish v) cs w'):=
 dX hm (by simp[stepG.exec,ht,he,hr,h,doReturn,hk,G1])
theorem Vt{l:Nat}(hm:fr.mode=.run)(ht:fr.todo=.beginRound ::k)(hr:fr.roundOf=some l)(h:(Instr.beginRound l).run P w=.ok () w') :
  step P (lone fr cs w)=.next (lone {fr with todo:=k} cs w'):=
 dX hm (by simp[stepG.exec,ht,hr,stepG.apply,h,G1,Frame.finish])
theorem anu{l:Nat}{j:Option Code}(hm:fr.mode=.run)(ht:fr.todo=.endRangeFunc l ::k)(h:(Instr.endLoop l).run P w=.ok j w') :
  step P (lone fr cs w)=.next (lone {fr with todo:=(j.map Item.code).toList++k} cs w'):=
 dX hm (by simp[stepG.exec,ht,h,G1])
theorem as3 (ev : Operand → Value) {f : Operand} {g : FuncId} {first cap : Array Value} (hev : ev f = .func (.func g) first cap) {y : Value} (hy : ev (.const y) = y) {fn' : Func} (hf : P.funcs[g]? = some fn') (hb : fn'.body.isSome = true) (hn : fn'.name ≠ "runtime.NumGoroutine") :
  (do let d ←resolve ev {callee:=.value f,args:=#[.const y],argTypes:=#[]} 0;invoke d.target d.args:Sem Next).run P w=.ok (.enter g (first ++ #[y]++cap)) w:=by
 simp[resolve,hev,Deferred.ofValue,invoke,hy,rL hf hb hn]
theorem Zc{f:Operand}{params:Array Tmp}{as bd:Code}{l:Nat}{mk:List Deferred}{w1:World}{g:FuncId}{first cap:Array Value}{fn':Func}(hm:fr.mode=.run)(ht:fr.todo=.code (.rangeFunc f params as bd) ::k)(hr:fr.roundOf=none)
  (h:(Instr.enterLoop fr.fn fr.tmps params as bd none).run P w=.ok (l,mk) w1) (hev:fr.eval f=.func (.func g) first cap)
  (hf : P.funcs[g]? = some fn') (hb : fn'.body.isSome = true) (hn : fn'.name ≠ "runtime.NumGoroutine") :
  step P (lone fr cs w)=.next (lone (Frame.enter P g (first ++ #[.func (.yield l) #[] #[]]++cap) .normal) ({fr with todo:=.inRangeFunc l ::k,defers:=mk++fr.defers} ::cs) w1):=by
 obtain⟨fn0,avv,aQF,aip,aQG,avw,aLZ⟩:=fr;simp only at hm ht hr h hev;subst hm ht hr;refine dX rfl ?_;have aL0:({fn:=fn0,tmps:=avv,todo:=Item.inRangeFunc l ::k,defers:=mk++aip,mode:=.run,kind:=avw}:Frame).eval f=.func (.func g) first cap:=by rw[←hev];cases f<;>rfl
 have JV:=as3 (w:=w1) ({fn:=fn0,tmps:=avv,todo:=Item.inRangeFunc l ::k,defers:=mk++aip,mode:=.run,kind:=avw}:Frame).eval aL0 (y:=.func (.yield l) #[] #[]) rfl hf hb hn;simp only[stepG.exec,Sem.runT_eq,h,GStep.bare_after];simp only[stepG.apply,Sem.runT_eq,JV,GStep.bare_after];simp[G1]
end
structure Reg(P:Program)(nt:Nat)(ops:Array Oper)(pl:List ay)(bf:List Nat):Prop where
 uX:mJ P nt ops (List.range ops.size)=some pl
 aBe:XD ops bf=true
section
variable{P:Program}{ρ:Nat→Int}{nt:Nat}{ops:Array Oper}{pl:List ay}{bf:List Nat}
theorem J1:∀{l:List Nat} {pl:List ay},mJ P nt ops l=some pl→pl.length=l.length∧∀(q i:Nat),l[q]?=some i→∃o po,ops[i]?=some o∧Oh P nt ops o=some po∧pl[q]?=some po
 | [],pl,h=>by simp only[mJ,dS]at h;subst h;exact⟨rfl,fun q i hq=>by simp at hq⟩
 |j ::l,pl,h=>by
  simp only[mJ]at h;split at h
  ·cases h
  ·rename_i o ho;split at h
   ·rename_i a r h1 h2;cases h;obtain⟨e1,e2⟩:=J1 h2;refine⟨by simp[e1],fun q i hq=>?_⟩;cases q with
    |zero=>simp at hq;subst hq;exact⟨o,a,ho,h1,by simp⟩
    |succ q=>simpa using e2 q i (by simpa using hq)
   ·cases h
theorem Reg.at(R:Reg P nt ops pl bf){i:Nat}(hi:i<ops.size):∃o po,ops[i]?=some o∧Oh P nt ops o=some po∧pl[i]?=some po:=by obtain⟨_,h⟩:=J1 R.uX;exact h i i (by simp[hi])
theorem Reg.at'(R:Reg P nt ops pl bf){i:Nat}{po:ay}(h:pl[i]?=some po):i<ops.size:=by
 obtain⟨h1,_⟩:=J1 R.uX;rcases HS i ops.size with h'|h'
 ·exact h'
 ·rw[zqo (by rw[h1];simpa using h')]at h;cases h
structure Edg(ops:Array Oper)(bf:List Nat):Prop where
 atV:KX ops bf=true
theorem Edg.aBf(R:Edg ops bf){i:Nat}{o:Oper}(ho:ops[i]?=some o){e:Edge}(he:e∈o.after.toList)(hb:Region.binds .any e=true):e.on<i∧hasB (cQ bf i) e.on=true:=by
 have hi:i<ops.size:=by
  rcases HS i ops.size with h'|h'
  ·exact h'
  ·rw[Z8 h']at ho;cases ho
 have h:=R.atV;unfold KX at h;rw[xM]at h;have h:=h i (by simpa using hi);rw[ho]at h;simp only[kW,xM]at h;have h:=h.1 e he;simp only[hb,Bool.not_true,Bool.false_or,kW,bltN_eq,decide_eq_true_eq]at h;exact h
theorem Edg.down(R:Edg ops bf):M6 ops:=fun _ _ ho _ he hb=>(R.aBf ho he hb).1
theorem Edg.pred(R:Edg ops bf){i:Nat}{o:Oper}(ho:ops[i]?=some o){j:Nat}(hj:j<ops.size)(hb:hasB (cQ bf i) j=true) :
  ∃e∈o.after.toList,Region.binds .any e=true∧(e.on=j∨hasB (cQ bf e.on) j=true):=by
 have hi:i<ops.size:=by
  rcases HS i ops.size with h'|h'
  ·exact h'
  ·rw[Z8 h']at ho;cases ho
 have h:=R.atV;unfold KX at h;rw[xM]at h;have h:=h i (by simpa using hi);rw[ho]at h;simp only[kW,xM]at h;have h:=h.2 j (by simpa using hj);simp only[hb,Bool.not_true,Bool.false_or,List.any_eq_true,kW,Bool.or_eq_true,beqN_eq,decide_eq_true_eq]at h;exact h
def adT(ops:Array Oper)(D:Nat→Bool):Prop:=∀(i:Nat) (o:Oper),D i=true→ops[i]?=some o→∀e∈o.after.toList,Region.binds .any e=true→D e.on=true
theorem Edg.closed(R:Edg ops bf){D:Nat→Bool}(hD:adT ops D):∀(i:Nat) (o:Oper),ops[i]?=some o→(∀e∈o.after.toList,Region.binds .any e=true→D e.on=true)→∀j,j<ops.size→hasB (cQ bf i) j=true→D j=true:=by
 intro i
 induction i using Nat.strongRecOn with
 |_ i ih=>
  intro o ho hp j hj hb;obtain⟨e,he,heb,hor⟩:=R.pred ho hj hb;have dn:=(R.aBf ho he heb).1;have hi:i<ops.size:=by
   rcases HS i ops.size with h'|h'
   ·exact h'
   ·rw[Z8 h']at ho;cases ho
  rcases hor with h|h
  ·rw[←h];exact hp e he heb
  ·have Z9:ops[e.on]?=some ops[e.on]:=by
    have:e.on<ops.size:=by omega
    simp[this]
   exact ih e.on dn _ Z9 (fun e' he' gA=>hD e.on _ (hp e he heb) Z9 e' he' gA) j hj h
theorem Reg.slot(R:Reg P nt ops pl bf){i j t:Nat}{o:Oper}(ho:ops[i]?=some o)(hj:oY ops j=some t) :
  (i=j→t∉mK ops o)∧(i≠j→o.dst≠some t∧(t∈mK ops o→hasB (cQ bf i) j=true∨hasB (cQ bf j) i=true)):=by
 have hi:i<ops.size:=by
  rcases HS i ops.size with h'|h'
  ·exact h'
  ·rw[Z8 h']at ho;cases ho
 have fu:j<ops.size:=by
  rcases HS j ops.size with h'|h'
  ·exact h'
  ·simp[oY,Z8 h']at hj
 have h:=R.aBe;unfold XD at h;rw[xM]at h;have h:=h i (by simpa using hi);rw[ho]at h;simp only[xM]at h;have h:=h j (by simpa using fu);rw[hj]at h;simp only[beqN_eq]at h;constructor
 ·rintro rfl;simpa using h
 ·intro cp;simp only[cp,decide_false,cond_false,kW,Bool.not_eq_true',Bool.or_eq_true]at h;refine⟨by simpa using h.1,fun hm=>?_⟩;have h2:=h.2;have hc:(mK ops o).contains t=true:=by simpa using hm
  rw[hc]at h2;simpa using h2
theorem alj{j t:Nat}(hj:oY ops j=some t):∃o,ops[j]?=some o∧o.dst=some t:=by
 unfold oY at hj;cases h:ops[j]? with
 |none=>rw[h]at hj;cases hj
 |some o=>rw[h]at hj;exact⟨o,rfl,by simpa using hj⟩
theorem Reg.QF(R:Reg P nt ops pl bf){i j t:Nat}(hi:oY ops i=some t)(hj:oY ops j=some t):i=j:=by
 rcases Nat.decEq i j with cp|h
 ·obtain⟨o,ho,hd⟩:=alj hi;exact absurd hd ((R.slot ho hj).2 cp).1
 ·exact h
end
def sM(n:Nat)(bf:List Nat):(Nat→Bool)→List Nat→Prop
 |D,[]=>∀i,i<n→D i=true
 |D,i ::r=>i<n∧D i=false∧(∀j,j<n→hasB (cQ bf i) j=true→D j=true)∧sM n bf (fun j=>D j||j==i) r
def HT(n:Nat)(bf:List Nat)(D:Nat→Bool):Prop:=∀i,D i=true→∀j,j<n→hasB (cQ bf i) j=true→D j=true
theorem HT.step{n:Nat}{bf:List Nat}{D:Nat→Bool}{i:Nat}(h:HT n bf D)(hi:∀j,j<n→hasB (cQ bf i) j=true→D j=true):HT n bf (fun j=>D j||j==i):=by
 intro q hq j hj hb;have hq:(D q||q==i)=true:=hq;show(D j||j==i)=true;rw[Bool.or_eq_true]at hq ⊢;rcases hq with hq|hq
 ·exact .inl (h q hq j hj hb)
 ·have:q=i:=by simpa using hq
  subst this;exact .inl (hi j hj hb)
theorem Edg.ord{ops:Array Oper}{bf:List Nat}(R:Edg ops bf):∀{l:List Nat} {D:Nat→Bool},adT ops D→UZ ops D l→sM ops.size bf D l
 | [],D,_,h=>h
 |i ::r,D,hc,h=>by
  obtain⟨h1,h2,h3,h4⟩:=h;have ho:ops[i]?=some ops[i]:=by simp[h1]
  refine⟨h1,h2,fun j hj hb=>R.closed hc i _ ho (fun e he wc=>h3 _ ho e he wc) j hj hb,R.ord ?_ h4⟩;intro q oq hq hoq e he wc;have hq:(D q||q==i)=true:=hq;show(D e.on||e.on==i)=true;rw[Bool.or_eq_true]at hq ⊢;rcases hq with hq|hq
  ·exact .inl (hc q oq hq hoq e he wc)
  ·have:q=i:=by simpa using hq
   subst this;exact .inl (h3 oq hoq e he wc)
theorem FG(m i j:Nat):hasB (Fp m i) j=(hasB m j||decide (i=j)):=by unfold hasB Fp;rw[Nat.testBit_or,Nat.testBit_two_pow]
theorem HU(j:Nat):hasB 0 j=false:=by simp[hasB]
theorem HV{n a b:Nat}:adL n a b=true↔∀j,j<n→hasB a j=true→hasB b j=true:=by
 unfold adL;rw[xM];constructor
 ·intro h j hj ha;have:=h j (by simpa using hj);simpa[ha]using this
 ·intro h j hj;have hj:j<n:=by simpa using hj
  cases ha:hasB a j with
  |false=>rfl
  |true=>simpa using h j hj ha
theorem BJ{n:Nat}{bf:List Nat}{a b i j:Nat}(hi:i<n):hasB (cQ (MX n bf a b) i) j=(hasB (cQ bf i) j||((decide (i=b)||hasB (cQ bf i) b)&&(hasB (cQ bf a) j||decide (a=j)))):=by
 have e:cQ (MX n bf a b) i=bif Nat.beq i b||hasB (cQ bf i) b then cQ bf i ||| Fp (cQ bf a) a else cQ bf i:=by show((MX n bf a b)[i]?).getD 0=_;unfold MX;rw[List.getElem?_map,List.getElem?_range hi];rfl
 have e2:Nat.beq i b=decide (i=b):=by rw[beqN_eq]
 rw[e,e2];cases hc:(decide (i=b)||hasB (cQ bf i) b)with
 |false=>simp
 |true=>rw[cond_true];show Nat.testBit (_ ||| _) j=_;rw[Nat.testBit_or];show(hasB _ j||hasB (Fp _ a) j)=_;rw[FG,Bool.true_and]
theorem sM.add{n:Nat}{bf:List Nat}{a b:Nat}:∀{l:List Nat} {D:Nat→Bool},D a=true→HT n bf D→sM n bf D l→sM n (MX n bf a b) D l
 | [],D,_,_,h=>h
 |i ::r,D,ha,hc,h=>by
  obtain⟨h1,h2,h3,h4⟩:=h;refine⟨h1,h2,fun j hj hb=>?_,sM.add (by show(D a||_)=true;rw[ha];rfl) (hc.step h3) h4⟩;rw[BJ h1,Bool.or_eq_true,kW,Bool.or_eq_true,Bool.or_eq_true]at hb;rcases hb with hb|⟨_,hb|hb⟩
  ·exact h3 j hj hb
  ·exact hc a ha j hj hb
  ·have:a=j:=by simpa using hb
   rw[←this];exact ha
theorem sM.two{n:Nat}{bf:List Nat}{a b:Nat}(han:a<n)(cp:a≠b):∀{l:List Nat} {D:Nat→Bool},D a=false→D b=false→HT n bf D→b<n→sM n bf D l→sM n (MX n bf a b) D l∨sM n (MX n bf b a) D l
 | [],D,ha,_,_,_,h=>by rw[h a han]at ha;cases ha
 |i ::r,D,ha,hb,hc,tM,h=>by
  obtain⟨h1,h2,h3,h4⟩:=h;have na:hasB (cQ bf i) a=false:=by
   cases e:hasB (cQ bf i) a with
   |false=>rfl
   |true=>rw[h3 a han e]at ha;cases ha
  have nb:hasB (cQ bf i) b=false:=by
   cases e:hasB (cQ bf i) b with
   |false=>rfl
   |true=>rw[h3 b tM e]at hb;cases hb
  have hc':=hc.step h3;by_cases ia:i=a
  ·subst ia;refine .inl ⟨h1,h2,fun j hj hq=>?_,sM.add (by show(D i||_)=true;simp) hc' h4⟩;rw[BJ h1,nb,decide_eq_false cp]at hq;exact h3 j hj (by simpa using hq)
  ·by_cases ib:i=b
   ·subst ib;refine .inr ⟨h1,h2,fun j hj hq=>?_,sM.add (by show(D i||_)=true;simp) hc' h4⟩;rw[BJ h1,na,decide_eq_false ia]at hq;exact h3 j hj (by simpa using hq)
   ·have ea:(fun j=>D j||j==i) a=false:=by show(D a||a==i)=false;rw[ha,Bool.false_or];simpa using Ne.symm ia
    have eb:(fun j=>D j||j==i) b=false:=by show(D b||b==i)=false;rw[hb,Bool.false_or];simpa using Ne.symm ib
    rcases sM.two han cp ea eb hc' tM h4 with q|q
    ·refine .inl ⟨h1,h2,fun j hj hq=>?_,q⟩;rw[BJ h1,nb,decide_eq_false ib]at hq;exact h3 j hj (by simpa using hq)
    ·refine .inr ⟨h1,h2,fun j hj hq=>?_,q⟩;rw[BJ h1,na,decide_eq_false ia]at hq;exact h3 j hj (by simpa using hq)
theorem qq{nt i:Nat}{k:Key}(h:IQ nt i=some k):k.toNat=i∧i<nt:=by unfold IQ at h;replace h:=aT h;obtain⟨hc,h⟩:=h;simp only[dS]at h;subst h;simp only[kW,bltN_eq,decide_eq_true_eq]at hc;exact⟨pZ hc.2,hc.1⟩
theorem jv{P:Program}{nt:Nat}{ops:Array Oper}{o:Oper}{po:ay}(h:Oh P nt ops o=some po) :
  kb P nt o=some po.op∧Q2 nt ops o.guard=some po.guard∧((o.dst=none∧po.dst=none)∨∃k,o.dst=some k.toNat∧po.dst=some k∧k.toNat<nt):=by
 unfold Oh at h;split at h
 ·rename_i op g h1 h2;split at h
  ·rename_i hd;cases h;exact⟨h1,h2,.inl ⟨hd,rfl⟩⟩
  ·rename_i d hd;split at h
   ·rename_i k hk;cases h;obtain⟨e,dn⟩:=qq hk;exact⟨h1,h2,.inr ⟨k,by rw[e];exact hd,rfl,by omega⟩⟩
   ·cases h
 ·cases h
noncomputable def di(p:List (Nat×Key×ai))(h:T ai):T ai:=p.foldl (fun h x=>au x.2.1 (some x.2.2) h) h
theorem HG{R:Type}:∀(p:List (Nat×Key×ai)) (h:T ai) (c:T ai→R),FU p h c=c (di p h)
 | [],h,c=>rfl
 |x ::p,h,c=>by show x0 x.2.1 (some x.2.2) h (fun h=>FU p h c)=_;rw[sTCe,HG p];rfl
theorem yY{R:Type}(l:List Nat):∀(p:List (Nat×Key×ai)) (h:T ai) (c:List (Nat×Key×ai)→T ai→R),Fm l p h c=c (p.filter fun x=>!(memN x.1 l)) (di (p.filter fun x=>memN x.1 l) h)
 | [],h,c=>rfl
 |x ::p,h,c=>by
  show(bif memN x.1 l then x0 x.2.1 (some x.2.2) h (fun h=>Fm l p h c)else Fm l p h fun p h=>c (x ::p) h)=_;cases hm:memN x.1 l with
  |true=>simp only[cond_true,sTCe,yY l p,List.filter_cons,hm,Bool.not_true,WA,if_false,if_true];rfl
  |false=>simp only[cond_false,yY l p,List.filter_cons,hm,Bool.not_false,WA,if_false,if_true]
theorem MD{i:Nat}:∀{l:List Nat},memN i l=true→i∈l
 | [],h=>by cases h
 |j ::l,h=>by
  simp only[memN]at h;cases hb:Nat.beq i j with
  |true=>have:=pZ hb;simp[this]
  |false=>rw[hb]at h;exact List.mem_cons_of_mem _ (MD h)
theorem Ul:∀{p:List (Nat×Key×ai)} {h:T ai} {b:Key} {B:ai},ag b (di p h)=some B→ag b h=some B∨∃x∈p,x.2.1=b∧x.2.2=B
 | [],_,_,_,e=>.inl e
 |x ::p,h,b,B,e=>by
  rcases Ul (p:=p) e with h1|⟨y,h1,h2⟩
  ·by_cases hb:b=x.2.1
   ·subst hb;rw[gTSm]at h1;cases h1;exact .inr ⟨x,by simp,rfl,rfl⟩
   ·rw[aD _ _ _ _ hb]at h1;exact .inl h1
  ·exact .inr ⟨y,List.mem_cons_of_mem _ h1,h2⟩
theorem akx{l:List Nat}{pend:List (Nat×Key×ai)}{h:T ai}{b:Key}{B:ai}(e:ag b (yx l pend h)=some B):ag b h=some B∨∃j,(j,b,B)∈pend∧j∈l:=by
 unfold yx at e;split at e
 ·exact .inl e
 ·rw[yY]at e;rcases Ul e with h1|⟨⟨j,k,B'⟩,h1,h2,h3⟩
  ·exact .inl h1
  ·obtain⟨h4,h5⟩:=List.mem_filter.1 h1;simp only at h2 h3;subst h2 h3;exact .inr ⟨j,h4,MD h5⟩
theorem adi{bf:List Nat}:∀{ke:List (Nat×List Nat)},BE bf ke=true→∀i j,j∈ES i ke→hasB (cQ bf i) j=true
 | [],_,i,j,h=>by cases h
 |(q,l) ::r,ha,i,j,h=>by
  simp only[BE,kW,xM]at ha;simp only[ES]at h;cases hb:Nat.beq i q with
  |true=>rw[hb]at h;have:=pZ hb;subst this;exact ha.1 j h
  |false=>rw[hb]at h;exact adi ha.2 i j h
def VOk(bf:List Nat)(H:T ai)(pend:List (Nat×Key×ai))(i:Nat)(V:T ai):Prop:=∀b B,ag b V=some B→ag b H=some B∨∃j,(j,b,B)∈pend∧hasB (cQ bf i) j=true
theorem VOk.refl(bf:List Nat)(H:T ai)(pend:List (Nat×Key×ai))(i:Nat):VOk bf H pend i H:=fun _ _ h=>.inl h
theorem VOk.view{bf:List Nat}{ke:List (Nat×List Nat)}(ha:BE bf ke=true)(H:T ai)(pend:List (Nat×Key×ai))(i:Nat):VOk bf H pend i (yx (ES i ke) pend H):=by
 intro b B e;rcases akx e with h|⟨j,h1,h2⟩
 ·exact .inl h
 ·exact .inr ⟨j,h1,adi ha i j h2⟩
structure Gh where
 L:Nat
 D:Nat→Bool
 a0:Key→Option AV
 val:Nat→Option AV
section
variable(P:Program)(ρ:Nat→Int)(orc:jK)(nt:Nat)(ops:Array Oper)(pl:List ay)(bf:List Nat)
def Zx(g:Gh)(i:Nat)(k:Key)(a:AV):Prop:=
 (∃j,oY ops j=some k.toNat∧hasB (cQ bf i) j=true∧g.val j=some a)∨((∀j,oY ops j=some k.toNat→hasB (cQ bf j) i=true)∧g.a0 k=some a)
def abz(g:Gh)(i:Nat)(nU:T AV):Prop:=∀o,ops[i]?=some o→∀(k:Key) a,k.toNat∈mK ops o→ag k nU=some a→Zx ops bf g i k a
inductive yV(H:T ai)(g:Gh)(pend:List (Nat×Key×ai))(Ea:Nat→Prop)(i:Nat):Prop
 |skip (po:ay) (nU:T AV) (h1:pl[i]?=some po) (h2:abz ops bf g i nU) (h3:cz po.guard nU=some false) (h4:g.val i=some (.tuple [])) (h5:∀x∈pend,x.1≠i):yV H g pend Ea i
 |light (po:ay) (nU:T AV) (v:AV) (h1:pl[i]?=some po) (h2:abz ops bf g i nU) (h3:cz po.guard nU=some true) (hk:tL pl i=0) (h4:¬Ea i→∃V,lightOp orc po.op nU V=some v∧VOk bf H pend i V) (h5:g.val i=some v)
   (h6:∀x∈pend,x.1≠i):yV H g pend Ea i
 |alloc (po:ay) (nU:T AV) (f:Key→AV) (B:ai) (k:Key) (h1:pl[i]?=some po) (h2:abz ops bf g i nU) (h3:cz po.guard nU=some true) (hk:tL pl i=1) (h4:allocOp po.op nU=some (f,B))
   (h5:g.val i=some (f k)) (h6:(i,k,B)∈pend):yV H g pend Ea i
structure ic(μ:Mu)(G:Key→Option ai)(H:T ai)(nx:Key)(g:Gh)(Ea:Nat→Prop)(pend:List (Nat×Key×ai))(tm:T AV)(tmps:Array Value)(rest:List Nat):Prop where
 US:Reg P nt ops pl bf
 ord:sM ops.size bf g.D rest
 cl:HT ops.size bf g.D
 sub:∀i,g.D i=true→hasB g.L i=true
 Km:∀i,hasB g.L i=true→i<ops.size
 lcl:∀i,hasB g.L i=true→∀j,j<ops.size→hasB (cQ bf i) j=true→hasB g.L j=true
 a1:∀(k:Key) j,hasB g.L j=true→oY ops j=some k.toNat→ag k tm=g.val j
 a2:∀(k:Key),(∀j,hasB g.L j=true→oY ops j≠some k.toNat)→ag k tm=g.a0 k
 sz:nt≤tmps.size
 c1:∀(k:Key) j a,g.D j=true→oY ops j=some k.toNat→g.val j=some a→∃v,tmps[k.toNat]?=some v∧aU ρ μ a v
 c2:∀(k:Key) a,(∀j,g.D j=true→oY ops j≠some k.toNat)→g.a0 k=some a→∃v,tmps[k.toNat]?=some v∧aU ρ μ a v
 pd:∀i,hasB g.L i=true→g.D i=false→yV orc ops pl bf H g pend Ea i
 pe:∀x∈pend,hasB g.L x.1=true∧(g.D x.1=true→G x.2.1=some x.2.2)∧(g.D x.1=false→μ x.2.1=none∧G x.2.1=none)∧ag x.2.1 H=none∧x.2.1.toNat<nx.toNat
 nk:(pend.map (·.2.1.toNat)).Nodup
 ni:(pend.map (·.1)).Nodup
end
section
variable{P:Program}{ρ:Nat→Int}{orc:jK}{nt:Nat}{ops:Array Oper}{pl:List ay}{bf:List Nat}{w0:W0}{w:World}{μ:Mu}{G:Key→Option ai}{H:T ai}{nx:Key}{g:Gh}{Ea:Nat→Prop}{pend:List (Nat×Key×ai)}{tm:T AV}{rest:List Nat}{fr:Frame}{cs:List Frame}{K:List Item}
theorem aiI(hM:bB P ρ w0 μ G nx.toNat w){x:Operand}{px:PX}{a:AV}{nU:T AV}(hp:pX P nt x=some px)(ha:px.at nU=some a)
  (ht:∀t k,x=.tmp t→k.toNat=t→ag k nU=some a→∃v,fr.tmps[t]?=some v∧aU ρ μ a v):aU ρ μ a (fr.eval x):=by
 cases x with
 |tmp t=>
  simp only[pX]at hp;split at hp
  ·rename_i k hk;cases hp;obtain⟨v,hv,hr⟩:=ht t k rfl (qq hk).1 ha;have:fr.eval (.tmp t)=v:=by simp[Frame.eval,Array.getD_eq_getD_getElem?,hv]
   rw[this];exact hr
  ·cases hp
 |const v=>
  simp only[pX]at hp;split at hp
  ·rename_i b hb;cases hp;simp only[PX.at,dS]at ha;subst ha;exact jd _ _ _ hb
  ·cases hp
 |global gl=>
  simp only[pX]at hp;split at hp
  ·rename_i k hk;cases hp;simp only[PX.at,dS]at ha;subst ha;obtain⟨e,dn⟩:=qq hk;obtain⟨ext,he⟩:=hM.PT k (by omega);exact .ptr _ _ _ _ he (by simp[e])
  ·cases hp
 |func f=>simp only[pX,dS]at hp;subst hp;simp only[PX.at,dS]at ha;subst ha;exact .fn _ _ _ _ _ .nil .nil
theorem HQ(hM:bB P ρ w0 μ G nx.toNat w){o:Oper}{nU:T AV}(ht:∀(k:Key) a,k.toNat∈mK ops o→ag k nU=some a→∃v,fr.tmps[k.toNat]?=some v∧aU ρ μ a v) :
  BH P ρ μ nt o.op.operands.toList nU fr.eval:=by
 intro x hx px a hp ha;refine aiI hM hp ha fun t k hxt hkt hg=>?_;subst hxt;rw[←hkt];refine ht k a ?_ hg;unfold mK;rw[List.mem_append,List.mem_filterMap];exact .inl ⟨_,hx,by rw[hkt]⟩
theorem Ck{o:Oper}{gd:Option (Key×Bool)}(hg:Q2 nt ops o.guard=some gd){nU:T AV}{tmps:Array Value}(ht:∀(k:Key) a,k.toNat∈mK ops o→ag k nU=some a→∃v,tmps[k.toNat]?=some v∧aU ρ μ a v)
  {b:Bool} (hw:cz gd nU=some b):Region.wanted o (yielded ops tmps)=b:=by
 cases XH:o.guard with
 |none=>rw[XH]at hg;simp only[Q2,dS]at hg;subst hg;simp only[cz,dS]at hw;simp[Region.wanted,XH,hw]
 |some p=>
  obtain⟨j,want⟩:=p;rw[XH]at hg;simp only[Q2]at hg;split at hg
  ·rename_i oj hoj;split at hg
   ·rename_i d hd;split at hg
    ·rename_i k hk;cases hg;obtain⟨e,_⟩:=qq hk;have IE:k.toNat∈mK ops o:=by unfold mK;rw[List.mem_append,XH,e];right;simp[hoj,hd]
     simp only[cz]at hw;split at hw
     ·rename_i b' gA;cases hw;obtain⟨v,hv,hr⟩:=ht k _ IE gA;cases hr;rw[e]at hv;simp only[Region.wanted,XH,yielded,hoj,Option.bind_some,hd,hv];cases b'<;>cases want<;>rfl
     ·rename_i gA;cases hw;obtain⟨v,hv,hr⟩:=ht k _ IE gA;cases hr with|tuple _ vs hvs=>
      rw[e]at hv;simp only[Region.wanted,XH,yielded,hoj,Option.bind_some,hd,hv];cases want<;>rfl
     ·cases hw
    ·cases hg
   ·cases hg
  ·cases hg
end
section
variable{P:Program}{ρ:Nat→Int}{orc:jK}{nt:Nat}{ops:Array Oper}{pl:List ay}{bf:List Nat}{w0:W0}{w:World}{μ μ':Mu}{G G':Key→Option ai}{H:T ai}{nx:Key}{g:Gh}{Ea:Nat→Prop}{pend:List (Nat×Key×ai)}{tm:T AV}{tmps:Array Value}{rest:List Nat}{fr:Frame}{cs:List Frame}{K:List Item}{i:Nat}
theorem ic.ready(S:ic P ρ orc nt ops pl bf μ G H nx g Ea pend tm tmps (i ::rest)) :
  i<ops.size∧g.D i=false∧(∀j,j<ops.size→hasB (cQ bf i) j=true→g.D j=true):=by
 obtain⟨h1,h2,h3,_⟩:=S.ord;exact⟨h1,h2,h3⟩
theorem NU{j t:Nat}(h:oY ops j=some t):j<ops.size:=by
 obtain⟨o,ho,_⟩:=alj h;rcases HS j ops.size with h'|h'
 ·exact h'
 ·rw[Z8 h']at ho;cases ho
theorem ic.Mj(S:ic P ρ orc nt ops pl bf μ G H nx g Ea pend tm tmps (i ::rest)){nU:T AV}(ht:abz ops bf g i nU){o:Oper}(ho:ops[i]?=some o) :
  ∀(k:Key) a,k.toNat∈mK ops o→ag k nU=some a→∃v,tmps[k.toNat]?=some v∧aU ρ μ a v:=by
 intro k a hk hg;obtain⟨h1,h2,h3⟩:=S.ready;rcases ht o ho k a hk hg with⟨j,hj,hb,hv⟩|⟨J9,ha⟩
 ·exact S.c1 k j a (h3 j (NU hj) hb) hj hv
 ·refine S.c2 k a (fun j hD hj=>?_) ha;have hb:=J9 j hj;have:=S.cl j hD i h1 hb;rw[h2]at this;cases this
def ID(d:Option Nat)(v:Value)(tmps:Array Value):Array Value:=match d with
 |some d=>tmps.setIfInBounds d v
 |none=>tmps
theorem cH{o:Oper}(ht:fr.todo=.inRegion ops (i ::rest) ::K)(ho:ops[i]?=some o)(v:Value) :
  fr.finish v={fr with tmps:=ID o.dst v fr.tmps,todo:=.inRegion ops rest ::K}:=by
 simp only[Frame.finish,ht,ho,Option.bind_some,ID];cases o.dst<;>rfl
theorem Hd{o:Oper}{op:KR}(hp:kb P nt o=some op)(hd:fV o.op=true):KT op=true:=by
 obtain⟨dst,Ic,ty,pos,after,guard⟩:=o;cases Ic<;>first|(cases hd;done)|skip
 rename_i c;simp only[kb]at hp;split at hp
 ·split at hp
  ·cases hp;rfl
  ·cases hp
 ·cases hp
theorem Xm{po:ay}(h:pl[i]?=some po):tL pl i=(bif KT po.op then 2 else bif QA po.op then 1 else 0):=by simp[tL,h]
theorem ahS{tmps:Array Value}{d:Option Nat}{v:Value}(t:Nat)(h:∀x,d=some x→x<tmps.size) :
  (ID d v tmps)[t]?=if d=some t then some v else tmps[t]?:=by
 cases d with
 |none=>simp[ID]
 |some x=>
  have:=h x rfl;simp only[ID];by_cases e:x=t
  ·subst e;simp[this]
  ·rw[if_neg (by simpa using e),zqn e]
theorem ic.done(S:ic P ρ orc nt ops pl bf μ G H nx g Ea pend tm tmps (i ::rest))(hm:μ.le μ'){o:Oper}(ho:ops[i]?=some o){a:AV}{v:Value}(hL:hasB g.L i=true)(P8:g.val i=some a)(hv:aU ρ μ' a v)
  (Z0:∀x∈pend,(x.1=i→G' x.2.1=some x.2.2)∧(x.1≠i→μ' x.2.1=μ x.2.1∧G' x.2.1=G x.2.1)) :
  ic P ρ orc nt ops pl bf μ' G' H nx {g with D:=fun j=>g.D j||j==i} Ea pend tm (ID o.dst v tmps) rest:=by
 obtain⟨hi,hDi,Iu⟩:=S.ready;obtain⟨o',po,Z9,XG,uX⟩:=S.US.at hi;rw[ho]at Z9;cases Z9;obtain⟨pE,XH,CY⟩:=jv XG;have ayB:∀x,o.dst=some x→x<tmps.size:=by
  intro x hx;rcases CY with⟨h,_⟩|⟨k,h,_,dn⟩
  ·rw[h]at hx;cases hx
  ·rw[h]at hx;cases hx;exact Ou dn S.sz
 have hdi:oY ops i=o.dst:=by simp[oY,ho]
 have EY:=fun t=>ahS (v:=v) t ayB;have aob:(ID o.dst v tmps).size=tmps.size:=by cases o.dst<;>simp[ID]
 have hD':∀j,((g.D j||j==i)=true)↔(g.D j=true∨j=i):=by intro j;simp
 refine⟨S.US,S.ord.2.2.2,?_,?_,S.Km,S.lcl,S.a1,S.a2,by rw[aob];exact S.sz,?_,?_,?_,?_,S.nk,S.ni⟩
 ·exact S.cl.step S.ord.2.2.1
 ·intro j hj;rcases (hD' j).1 hj with h|h
  ·exact S.sub j h
  ·subst h;exact hL
 ·intro k j b hj hjd hjv;rw[EY];rcases (hD' j).1 hj with h|h
  ·by_cases e:o.dst=some k.toNat
   ·have:i=j:=S.US.QF (hdi.trans e) hjd;subst this;rw[hDi]at h;cases h
   ·rw[if_neg e];obtain⟨u,hu,hr⟩:=S.c1 k j b h hjd hjv;exact⟨u,hu,hr.mono hm⟩
  ·subst h;rw[hdi]at hjd;rw[if_pos hjd];have hjv:g.val j=some b:=hjv;rw[P8]at hjv;cases hjv;exact⟨v,rfl,hv⟩
 ·intro k b BA ha;rw[EY];have hni:o.dst≠some k.toNat:=by intro e;exact BA i ((hD' i).2 (.inr rfl)) (hdi.trans e)
  rw[if_neg hni];obtain⟨u,hu,hr⟩:=S.c2 k b (fun j hj=>BA j ((hD' j).2 (.inl hj))) ha;exact⟨u,hu,hr.mono hm⟩
 ·intro j hj hjD;have hjD:(g.D j||j==i)=false:=hjD;rw[Bool.or_eq_false_iff]at hjD;cases S.pd j hj hjD.1 with
  |skip po nU h1 h2 h3 h4 h5=>exact .skip po nU h1 h2 h3 h4 h5
  |light po nU v h1 h2 h3 hk h4 h5 h6=>exact .light po nU v h1 h2 h3 hk h4 h5 h6
  |alloc po nU f B k h1 h2 h3 hk h4 h5 h6=>exact .alloc po nU f B k h1 h2 h3 hk h4 h5 h6
 ·intro x hx;obtain⟨p1,p2,p3,p4,p5⟩:=S.pe x hx;obtain⟨q1,q2⟩:=Z0 x hx;refine⟨p1,fun h=>?_,fun h=>?_,p4,p5⟩
  ·by_cases e:x.1=i
   ·exact q1 e
   ·rw[(q2 e).2];exact p2 (((hD' _).1 h).resolve_right e)
  ·have h:(g.D x.1||x.1==i)=false:=h;rw[Bool.or_eq_false_iff]at h;have e:x.1≠i:=by simpa using h.2
   rw[(q2 e).1,(q2 e).2];exact p3 h.1
theorem YQ(hM:bB P ρ w0 μ G nx.toNat w)(hH:HSub H G)(ho:fA ρ orc)(S:ic P ρ orc nt ops pl bf μ G H nx g Ea pend tm fr.tmps (i ::rest))(hL:hasB g.L i=true)(hu:¬Ea i)
  (hm:fr.mode=.run) (ht:fr.todo=.inRegion ops (i ::rest) ::K) :
  ∃dZ w' μ' G',step P (lone fr cs w)=.next (lone {fr with tmps:=dZ,todo:=.inRegion ops rest ::K} cs w')∧μ.le μ'∧bB P ρ w0 μ' G' nx.toNat w'∧HSub H G'∧
   ic P ρ orc nt ops pl bf μ' G' H nx {g with D:=fun j=>g.D j||j==i} Ea pend tm dZ rest∧(∀b,(∀x∈pend,x.2.1≠b)→μ' b=μ b∧G' b=G b):=by
 obtain⟨hi,hDi,Iu⟩:=S.ready;obtain⟨o,po,pE,XG,uX⟩:=S.US.at hi;obtain⟨hp,XH,CY⟩:=jv XG;cases S.pd i hL hDi with
 |skip VB nU h1 h2 h3 h4 h5=>rw[uX]at h1;cases h1;have hs:=S.Mj h2 pE;have hw:=Ck XH hs h3;have Jt:=Kr (P:=P) (cs:=cs) (w:=w) hm ht pE hw;rw[cH ht pE]at Jt;refine⟨_,w,μ,G,Jt,μ.le_refl,hM,hH,?_,fun b _=>⟨rfl,rfl⟩⟩;refine S.done μ.le_refl pE hL h4 (v:=undef) (.tuple _ _ .nil) ?_;intro x hx;exact⟨fun e=>absurd e (h5 x hx),fun _=>⟨rfl,rfl⟩⟩
 |light VB nU v h1 h2 h3 hk h4 h5 h6=>
  rw[uX]at h1;cases h1;have hs:=S.Mj h2 pE;have hw:=Ck XH hs h3;obtain⟨V,hlV,hV⟩:=h4 hu;have hVG:HSub V G:=by
   intro b B hb;rcases hV b B hb with h|⟨j,h1,h2⟩
   ·exact hH b B h
   ·obtain⟨p1,p2,_⟩:=S.pe _ h1;exact p2 (Iu j (S.Km j p1) h2)
  obtain⟨u,gD,hr⟩:=O0 hM hVG ho hp (HQ hM hs) hlV;have QD:fV o.op=false:=by
   cases hd:fV o.op with
   |false=>rfl
   |true=>rw[Xm uX,Hd hp hd]at hk;cases hk
  have Jt:=YR (P:=P) (cs:=cs) hm ht pE hw (.inr QD) gD;rw[cH ht pE]at Jt;refine⟨_,w,μ,G,Jt,μ.le_refl,hM,hH,?_,fun b _=>⟨rfl,rfl⟩⟩;refine S.done μ.le_refl pE hL h5 hr ?_;intro x hx;exact⟨fun e=>absurd e (h6 x hx),fun _=>⟨rfl,rfl⟩⟩
 |alloc VB nU f B k h1 h2 h3 hk h4 h5 h6=>
  rw[uX]at h1;cases h1;have hs:=S.Mj h2 pE;have hw:=Ck XH hs h3;obtain⟨_,_,p3,p4,p5⟩:=S.pe _ h6;obtain⟨hmk,hgk⟩:=p3 hDi;obtain⟨u,w',l,gD,hle,hM',hr⟩:=O1 hM hp (HQ hM hs) h4 hmk (nx':=nx.toNat) (gi _) p5;have QD:fV o.op=false:=by
   cases hd:fV o.op with
   |false=>rfl
   |true=>rw[Xm uX,Hd hp hd]at hk;cases hk
  have Jt:=YR (P:=P) (cs:=cs) hm ht pE hw (.inr QD) gD;rw[cH ht pE]at Jt;refine⟨_,w',_,_,Jt,hle,hM',?_,?_,?_⟩
  ·intro b B' hb;have:b≠k:=by intro e;subst e;rw[p4]at hb;cases hb
   rw[bN _ _ this];exact hH b B' hb
  ·refine S.done hle pE hL h5 hr ?_;intro x hx;constructor
   ·intro e;have:x=(i,k,B):=by
     have hni:=S.ni;have:=List.pairwise_iff_getElem.1 hni;obtain⟨p,hp',hpx⟩:=List.getElem_of_mem hx;obtain⟨q,hq,hqx⟩:=List.getElem_of_mem h6;rcases Nat.lt_trichotomy p q with hpq|hpq|hpq
     ·have:=this p q (by simpa using hp') (by simpa using hq) hpq;simp[hpx,hqx,e]at this
     ·subst hpq;rw[←hpx,←hqx]
     ·have:=this q p (by simpa using hq) (by simpa using hp') hpq;simp[hpx,hqx,e]at this
    subst this;exact fK _ _ _
   ·intro e;have cp:x.2.1≠k:=by
     intro Ib;have hnk:=S.nk;have:=List.pairwise_iff_getElem.1 hnk;obtain⟨p,hp',hpx⟩:=List.getElem_of_mem hx;obtain⟨q,hq,hqx⟩:=List.getElem_of_mem h6;rcases Nat.lt_trichotomy p q with hpq|hpq|hpq
     ·have:=this p q (by simpa using hp') (by simpa using hq) hpq;simp[hpx,hqx,Ib]at this
     ·subst hpq;rw[hpx]at hqx;subst hqx;exact e rfl
     ·have:=this q p (by simpa using hq) (by simpa using hp') hpq;simp[hpx,hqx,Ib]at this
    exact⟨bN _ _ cp,bN _ _ cp⟩
  ·intro b hb;have:b≠k:=fun e=>hb _ h6 e.symm;exact⟨bN _ _ this,bN _ _ this⟩
end
theorem MA(orc:jK)(op:KR)(tm:T AV)(H H':T ai)(h:MW op=false):lightOp orc op tm H=lightOp orc op tm H':=by cases op<;>first|(cases h;done)|rfl
section
variable{P:Program}{ρ:Nat→Int}{orc:jK}{nt:Nat}{ops:Array Oper}{pl:List ay}{bf:List Nat}{w0:W0}{w:World}{μ μ':Mu}{G G':Key→Option ai}{H H':T ai}{nx nx':Key}{g:Gh}{Ea aEe:Nat→Prop}{pend pend':List (Nat×Key×ai)}{tm:T AV}{tmps:Array Value}{rest:List Nat}{fr:Frame}{cs:List Frame}{K:List Item}{i:Nat}
theorem ic.apM(S:ic P ρ orc nt ops pl bf μ G H nx g Ea pend tm tmps rest)(hi:i<ops.size)(hL:hasB g.L i=false)(hb:∀j,j<ops.size→hasB (cQ bf i) j=true→hasB g.L j=true):abz ops bf g i tm:=by
 intro o ho k a hk ha;by_cases h:∃j,hasB g.L j=true∧oY ops j=some k.toNat
 ·obtain⟨j,hj,hd⟩:=h;left;refine⟨j,hd,?_,by rw[←S.a1 k j hj hd];exact ha⟩;have cp:i≠j:=by intro e;subst e;rw[hL]at hj;cases hj
  rcases ((S.US.slot ho hd).2 cp).2 hk with h|h
  ·exact h
  ·have:=S.lcl j hj i hi h;rw[hL]at this;cases this
 ·right;have h:∀j,hasB g.L j=true→oY ops j≠some k.toNat:=fun j hj hd=>h ⟨j,hj,hd⟩;refine⟨fun j hd=>?_,by rw[←S.a2 k h];exact ha⟩;by_cases cp:i=j
  ·subst cp;exact absurd hk ((S.US.slot ho hd).1 rfl)
  ·rcases ((S.US.slot ho hd).2 cp).2 hk with gA|gA
   ·exact absurd hd (h j (hb j (NU hd) gA))
   ·exact gA
def zQ(f:Nat→Option AV)(i:Nat)(x:Option AV):Nat→Option AV:=fun j=>if j=i then x else f j
theorem adg{x:Option AV}{L':Nat}{D':Nat→Bool}{p:Nat}{k:Key}{a:AV}(hp:hasB (cQ bf p) i=false)(h:Zx ops bf g p k a):Zx ops bf {L:=L',D:=D',a0:=g.a0,val:=zQ g.val i x} p k a:=by
 rcases h with⟨j,h1,h2,h3⟩|⟨h1,h2⟩
 ·left;refine⟨j,h1,h2,?_⟩;have:j≠i:=by intro e;subst e;rw[hp]at h2;cases h2
  simpa[zQ,this]using h3
 ·exact .inr ⟨h1,h2⟩
theorem zz{x:Option AV}{L':Nat}{D':Nat→Bool}{p:Nat}{nU:T AV}(hp:hasB (cQ bf p) i=false)(h:abz ops bf g p nU):abz ops bf {L:=L',D:=D',a0:=g.a0,val:=zQ g.val i x} p nU:=
 fun o ho k a hk hg=>adg hp (h o ho k a hk hg)
theorem yV.qU{x:Option AV}{L':Nat}{D':Nat→Bool}{p:Nat}(hp:hasB (cQ bf p) i=false)(cp:p≠i)(Uk:∀y∈pend,y∈pend')(Zy:∀y∈pend',y∈pend∨y.1=i)(h:yV orc ops pl bf H g pend Ea p) :
  yV orc ops pl bf H {L:=L',D:=D',a0:=g.a0,val:=zQ g.val i x} pend' Ea p:=by
 have hv:∀v,g.val p=some v→zQ g.val i x p=some v:=by intro v hv;simpa[zQ,cp]using hv
 have hq:(∀y∈pend,y.1≠p)→∀y∈pend',y.1≠p:=by
  intro hh y hy;rcases Zy y hy with h|h
  ·exact hh y h
  ·rw[h];exact fun e=>cp e.symm
 cases h with
 |skip po nU h1 h2 h3 h4 h5=>exact .skip po nU h1 (zz hp h2) h3 (hv _ h4) (hq h5)
 |light po nU v h1 h2 h3 hk h4 h5 h6=>
  refine .light po nU v h1 (zz hp h2) h3 hk (fun hu=>?_) (hv _ h5) (hq h6);obtain⟨V,a1,a2⟩:=h4 hu;refine⟨V,a1,fun b B hb=>?_⟩;rcases a2 b B hb with h|⟨j,h,h'⟩
  ·exact .inl h
  ·exact .inr ⟨j,Uk _ h,h'⟩
 |alloc po nU f B k h1 h2 h3 hk h4 h5 h6=>exact .alloc po nU f B k h1 (zz hp h2) h3 hk h4 (hv _ h5) (Uk _ h6)
noncomputable def bT(d:Option Key)(v:AV)(tm:T AV):T AV:=match d with
 |none=>tm
 |some k=>au k (some v) tm
theorem fF{R:Type}(d:Option Key)(v:AV)(tm:T AV)(c:T AV→R):yw d (some v) tm c=c (bT d v tm):=by
 cases d with
 |none=>rfl
 |some k=>simp only[yw,bT,sTCe]
theorem ic.add(S:ic P ρ orc nt ops pl bf μ G H nx g Ea pend tm tmps rest){po:ay}(uX:pl[i]?=some po)(hL:hasB g.L i=false)(hb:∀j,j<ops.size→hasB (cQ bf i) j=true→hasB g.L j=true)
  {v:AV} (Uk:∀y∈pend,y∈pend') (Zy:∀y∈pend',y∈pend∨y.1=i)
  (ym:yV orc ops pl bf H {L:=Fp g.L i,D:=g.D,a0:=g.a0,val:=zQ g.val i (some v)} pend' Ea i)
  (Z0:∀y∈pend',y∉pend→μ y.2.1=none∧G y.2.1=none∧ag y.2.1 H=none∧y.2.1.toNat<nx'.toNat) (hn:nx.toNat≤nx'.toNat)
  (hnk:(pend'.map (·.2.1.toNat)).Nodup) (hni:(pend'.map (·.1)).Nodup) :
  ic P ρ orc nt ops pl bf μ G H nx' {L:=Fp g.L i,D:=g.D,a0:=g.a0,val:=zQ g.val i (some v)} Ea pend' (bT po.dst v tm) tmps rest:=by
 have hi:=S.US.at' uX;obtain⟨o,VB,ho,XG,IF⟩:=S.US.at hi;rw[uX]at IF;cases IF;obtain⟨pE,XH,CY⟩:=jv XG;have hdi:oY ops i=o.dst:=by simp[oY,ho]
 have hDi:g.D i=false:=by
  cases h:g.D i with
  |false=>rfl
  |true=>have:=S.sub i h;rw[hL]at this;cases this
 have N9:∀j,hasB (Fp g.L i) j=true↔(hasB g.L j=true∨j=i):=by intro j;rw[FG,Bool.or_eq_true,decide_eq_true_eq];exact⟨fun h=>h.imp id Eq.symm,fun h=>h.imp id Eq.symm⟩
 have hnb:∀p,hasB g.L p=true→hasB (cQ bf p) i=false:=by
  intro p hp;cases h:hasB (cQ bf p) i with
  |false=>rfl
  |true=>have:=S.lcl p hp i hi h;rw[hL]at this;cases this
 refine⟨S.US,S.ord,S.cl,?_,?_,?_,?_,?_,S.sz,?_,S.c2,?_,?_,hnk,hni⟩
 ·intro j hj;exact(N9 j).2 (.inl (S.sub j hj))
 ·intro j hj;rcases (N9 j).1 hj with h|h
  ·exact S.Km j h
  ·subst h;exact hi
 ·intro j hj q hq hbq;rcases (N9 j).1 hj with h|h
  ·exact(N9 q).2 (.inl (S.lcl j h q hq hbq))
  ·subst h;exact(N9 q).2 (.inl (hb q hq hbq))
 ·intro k j hj hd;rcases CY with⟨e1,e2⟩|⟨kd,e1,e2,_⟩
  ·rcases (N9 j).1 hj with h|h
   ·have cp:j≠i:=by intro e;subst e;rw[hL]at h;cases h
    rw[e2];simp only[bT,zQ,cp,if_false];exact S.a1 k j h hd
   ·subst h;rw[hdi,e1]at hd;cases hd
  ·rw[e2];simp only[bT];rcases (N9 j).1 hj with h|h
   ·have cp:j≠i:=by intro e;subst e;rw[hL]at h;cases h
    have hk:k≠kd:=by intro e;subst e;exact cp (S.US.QF hd (hdi.trans e1))
    rw[aD _ _ _ _ hk];simp only[zQ,cp,if_false];exact S.a1 k j h hd
   ·subst h;rw[hdi,e1]at hd;have hk:k=kd:=Key.toNat_inj (by simpa using hd.symm);subst hk;rw[gTSm];simp[zQ]
 ·intro k BA;rcases CY with⟨e1,e2⟩|⟨kd,e1,e2,_⟩
  ·rw[e2];exact S.a2 k fun j hj=>BA j ((N9 j).2 (.inl hj))
  ·rw[e2];simp only[bT];have hk:k≠kd:=by intro e;subst e;exact BA i ((N9 i).2 (.inr rfl)) (hdi.trans e1)
   rw[aD _ _ _ _ hk];exact S.a2 k fun j hj=>BA j ((N9 j).2 (.inl hj))
 ·intro k j a hj hd hv;have cp:j≠i:=by intro e;subst e;rw[hDi]at hj;cases hj
  exact S.c1 k j a hj hd (by simpa[zQ,cp]using hv)
 ·intro j hj hjD;rcases (N9 j).1 hj with h|h
  ·have cp:j≠i:=by intro e;subst e;rw[hL]at h;cases h
   exact(S.pd j h hjD).qU (hnb j h) cp Uk Zy
  ·subst h;exact ym
 ·intro y hy;by_cases Th:y∈pend
  ·obtain⟨p1,p2,p3,p4,p5⟩:=S.pe y Th;exact⟨(N9 _).2 (.inl p1),p2,p3,p4,Ou p5 hn⟩
  ·obtain⟨q1,q2,q3,q4⟩:=Z0 y hy Th;have e:=(Zy y hy).resolve_left Th;refine⟨(N9 _).2 (.inr e),fun h=>?_,fun _=>⟨q1,q2⟩,q3,q4⟩;rw[e]at h;have h:g.D i=true:=h;rw[hDi]at h;cases h
theorem ic.keep(S:ic P ρ orc nt ops pl bf μ G H nx g (fun i=>hZ pl i=true) pend tm tmps rest)(hm:μ.le μ')(hn:nx.toNat≤nx'.toNat)
  (hk:∀x∈pend,μ' x.2.1=μ x.2.1∧G' x.2.1=G x.2.1∧ag x.2.1 H'=none):ic P ρ orc nt ops pl bf μ' G' H' nx' g (fun i=>hZ pl i=true) pend tm tmps rest:=by
 refine⟨S.US,S.ord,S.cl,S.sub,S.Km,S.lcl,S.a1,S.a2,S.sz,?_,?_,?_,?_,S.nk,S.ni⟩
 ·intro k j a h1 h2 h3;obtain⟨v,hv,hr⟩:=S.c1 k j a h1 h2 h3;exact⟨v,hv,hr.mono hm⟩
 ·intro k a h1 h2;obtain⟨v,hv,hr⟩:=S.c2 k a h1 h2;exact⟨v,hv,hr.mono hm⟩
 ·intro i hi hD;cases S.pd i hi hD with
  |skip po nU h1 h2 h3 h4 h5=>exact .skip po nU h1 h2 h3 h4 h5
  |light po nU v h1 h2 h3 EU h4 h5 h6=>
   refine .light po nU v h1 h2 h3 EU (fun hu=>?_) h5 h6;obtain⟨V,a1,_⟩:=h4 hu;refine⟨H',?_,VOk.refl _ _ _ _⟩;rw[←a1];apply MA;have:hZ pl i=MW po.op:=by simp[hZ,h1]
   rw[this]at hu;simpa using hu
  |alloc po nU f B k h1 h2 h3 EU h4 h5 h6=>exact .alloc po nU f B k h1 h2 h3 EU h4 h5 h6
 ·intro x hx;obtain⟨p1,p2,p3,p4,p5⟩:=S.pe x hx;obtain⟨q1,q2,q3⟩:=hk x hx;refine⟨p1,fun h=>by rw[q2];exact p2 h,fun h=>by rw[q1,q2];exact p3 h,q3,Ou p5 hn⟩
end
section
variable{P:Program}{ρ:Nat→Int}{orc:jK}{nt:Nat}{ops:Array Oper}{pl:List ay}{bf:List Nat}{w0:W0}{w:World}{μ μ':Mu}{G G':Key→Option ai}{H H':T ai}{nx nx':Key}{g:Gh}{Ea aEe:Nat→Prop}{pend pend':List (Nat×Key×ai)}{tm:T AV}{tmps:Array Value}{rest:List Nat}{fr:Frame}{cs:List Frame}{K:List Item}{i:Nat}
def azD(P:Program)(ρ:Nat→Int)(orc:jK)(nt:Nat)(ops:Array Oper)(pl:List ay)(bf:List Nat)(w0:W0)(H:T ai)(nx:Key)(g:Gh)(pend:List (Nat×Key×ai))(tm:T AV)(K:List Item)
  (fr:Frame) (cs:List Frame) (w:World) (μ:Mu) (G:Key→Option ai) (Rr:List Nat→Prop):Prop:=
 ∃dZ w' μ' G' D' lW,Steps P (lone fr cs w) (lone {fr with tmps:=dZ,todo:=.inRegion ops lW ::K} cs w')∧μ.le μ'∧bB P ρ w0 μ' G' nx.toNat w'∧HSub H G'∧
  ic P ρ orc nt ops pl bf μ' G' H nx {g with D:=D'} (fun _=>False) pend tm dZ lW∧(∀b,(∀x∈pend,x.2.1≠b)→μ' b=μ b∧G' b=G b)∧Rr lW
theorem ap6(Rr:List Nat→Prop)(ho:fA ρ orc)
  (hgo:∀(D:Nat→Bool) (rest:List Nat),(∀i,D i=true→hasB g.L i=true)→sM ops.size bf D rest→Rr rest∨∃q r,rest=q ::r∧((∀j,j<ops.size→hasB (cQ bf q) j=true→D j=true)→hasB g.L q=true)) :
  ∀(rest:List Nat) (D:Nat→Bool) (fr:Frame) (w:World) (μ:Mu) (G:Key→Option ai),bB P ρ w0 μ G nx.toNat w→HSub H G→ic P ρ orc nt ops pl bf μ G H nx {g with D:=D} (fun _=>False) pend tm fr.tmps rest→
   fr.mode=.run→fr.todo=.inRegion ops rest ::K→azD P ρ orc nt ops pl bf w0 H nx g pend tm K fr cs w μ G Rr:=by
 intro rest
 induction rest with
 |nil=>
  intro D fr w μ G hM hH S hm ht;rcases hgo D [] S.sub S.ord with h|⟨q,r,h,_⟩
  ·refine⟨fr.tmps,w,μ,G,D,[],?_,μ.le_refl,hM,hH,S,fun _ _=>⟨rfl,rfl⟩,h⟩;rw[←ht];exact Steps.refl _ _
  ·cases h
 |cons q r ih=>
  intro D fr w μ G hM hH S hm ht;rcases hgo D (q ::r) S.sub S.ord with h|⟨q',r',h,hq⟩
  ·refine⟨fr.tmps,w,μ,G,D,q ::r,?_,μ.le_refl,hM,hH,S,fun _ _=>⟨rfl,rfl⟩,h⟩;rw[←ht];exact Steps.refl _ _
  ·cases h;have hL:=hq S.ready.2.2;obtain⟨dZ,w',μ',G',h1,h2,h3,h4,h5,h6⟩:=YQ (cs:=cs) hM hH ho S hL (fun h=>h) hm ht;obtain⟨tmps2,w2,μ2,G2,D2,rest2,k1,k2,k3,k4,k5,k6,k7⟩:=ih _ {fr with tmps:=dZ,todo:=.inRegion ops r ::K} w' μ' G' h3 h4 h5 hm rfl;exact⟨tmps2,w2,μ2,G2,D2,rest2,.head h1 k1,Mu.le_trans h2 k2,k3,k4,k5,fun b hb=>⟨(k6 b hb).1.trans (h6 b hb).1,(k6 b hb).2.trans (h6 b hb).2⟩,k7⟩
theorem Zz(hM:bB P ρ w0 μ G nx.toNat w)(hH:HSub H G)(ho:fA ρ orc)(S:ic P ρ orc nt ops pl bf μ G H nx g (fun _=>False) pend tm fr.tmps rest){h:Nat}(dn:h<ops.size)(hh:hasB g.L h=false)
  (ade:∀j,j<ops.size→hasB g.L j=true∨j=h∨∃q,q<ops.size∧hasB (cQ bf j) q=true∧hasB g.L q=false) (hm:fr.mode=.run) (ht:fr.todo=.inRegion ops rest ::K) :
  azD P ρ orc nt ops pl bf w0 H nx g pend tm K fr cs w μ G (fun r=>∃r',r=h ::r'):=by
 refine ap6 _ ho ?_ rest g.D fr w μ G hM hH S hm ht;intro D rest azE atH;cases rest with
 |nil=>have:=azE h (atH h dn);rw[hh]at this;cases this
 |cons q r=>
  by_cases e:q=h
  ·subst e;exact .inl ⟨r,rfl⟩
  ·refine .inr ⟨q,r,rfl,fun hb=>?_⟩;rcases ade q atH.1 with h1|h1|⟨p,hp,hpb,hpL⟩
   ·exact h1
   ·exact absurd h1 e
   ·have:=azE p (hb p hp hpb);rw[hpL]at this;cases this
theorem agO(hM:bB P ρ w0 μ G nx.toNat w)(hH:HSub H G)(ho:fA ρ orc)(S:ic P ρ orc nt ops pl bf μ G H nx g (fun _=>False) pend tm fr.tmps rest)
  (J9:∀j,j<ops.size→hasB g.L j=true) (hm:fr.mode=.run) (ht:fr.todo=.inRegion ops rest ::K) :
  azD P ρ orc nt ops pl bf w0 H nx g pend tm K fr cs w μ G (fun r=>r=[]):=by
 refine ap6 _ ho ?_ rest g.D fr w μ G hM hH S hm ht;intro D rest azE atH;cases rest with
 |nil=>exact .inl rfl
 |cons q r=>exact .inr ⟨q,r,rfl,fun _=>J9 q atH.1⟩
theorem HN{ke:List (Nat×List Nat)}:∀{os:List (Nat×ay)},recheck orc ke pend tm H os=true→∀i po,(i,po)∈os→
  ∃d,po.dst=some d∧((cz po.guard tm=some false∧ag d tm=some (.tuple []))∨(cz po.guard tm=some true∧∃v,ag d tm=some v∧lightOp orc po.op tm (yx (ES i ke) pend H)=some v))
 | [],_,_,_,h=>by simp at h
 |(q,o) ::os,hr,i,po,hm=>by
  simp only[recheck]at hr;split at hr
  ·rename_i hw;split at hr
   ·cases hr
   ·rename_i d hd;split at hr
    ·rename_i hg;rcases CR.1 hm with h|h
     ·cases h;exact⟨d,hd,.inl ⟨hw,hg⟩⟩
     ·exact HN hr i po h
    ·cases hr
  ·rename_i hw;split at hr
   ·cases hr
   ·rename_i d hd;split at hr
    ·rename_i v u hg hl;cases hb:AV.beq v u with
     |false=>rw[hb]at hr;cases hr
     |true=>
      rw[hb]at hr;simp only[cond_true]at hr;have:=AV.eq_of_beq v u hb;subst this;rcases CR.1 hm with h|h
      ·cases h;exact⟨d,hd,.inr ⟨hw,v,hg,hl⟩⟩
      ·exact HN hr i po h
    ·cases hr
  ·cases hr
theorem ado{i:Nat}{o:Oper}(h:Fl ops bf i=true)(ho:ops[i]?=some o){j t:Nat}(hj:oY ops j=some t)(ht:t∈mK ops o):hasB (cQ bf i) j=true:=by
 unfold Fl at h;rw[ho]at h;simp only[xM]at h;have h:=h j (by simpa using NU hj);rw[hj]at h;have hc:(mK ops o).contains t=true:=by simpa using ht
 simp only[hc,Bool.not_true,Bool.false_or]at h;exact h
theorem ic.Xi(S:ic P ρ orc nt ops pl bf μ G H nx g Ea pend tm tmps rest){os:List (Nat×ay)}{ke:List (Nat×List Nat)}(adj:BE bf ke=true)(hr:recheck orc ke pend tm H os=true)
  (hos:∀i po,(i,po)∈os→pl[i]?=some po∧Fl ops bf i=true∧tL pl i=0) (JW:∀i,hasB g.L i=true→g.D i=false→Ea i→∃po,(i,po)∈os) :
  ic P ρ orc nt ops pl bf μ G H nx g (fun _=>False) pend tm tmps rest:=by
 refine⟨S.US,S.ord,S.cl,S.sub,S.Km,S.lcl,S.a1,S.a2,S.sz,S.c1,S.c2,?_,S.pe,S.nk,S.ni⟩;intro i hi hD;by_cases hu:Ea i
 ·obtain⟨po,hm⟩:=JW i hi hD hu;obtain⟨uX,K7,hk⟩:=hos i po hm;obtain⟨d,hd,aca⟩:=HN hr i po hm;have aNA:=S.Km i hi;obtain⟨o,VB,ho,XG,IF⟩:=S.US.at aNA;rw[uX]at IF;cases IF;obtain⟨_,_,CY⟩:=jv XG;have hdd:oY ops i=some d.toNat:=by
   rcases CY with⟨_,e2⟩|⟨k,e1,e2,_⟩
   ·rw[e2]at hd;cases hd
   ·rw[e2]at hd;cases hd;simp[oY,ho,e1]
  have P8:=S.a1 d i hi hdd;have htm:abz ops bf g i tm:=by
   intro o' Z9 k a UJ hg;rw[ho]at Z9;cases Z9;by_cases hex:∃j,oY ops j=some k.toNat
   ·obtain⟨j,hj⟩:=hex;have hb:=ado K7 ho hj UJ;exact .inl ⟨j,hj,hb,by rw[←S.a1 k j (S.lcl i hi j (NU hj) hb) hj];exact hg⟩
   ·have BA:∀j,oY ops j≠some k.toNat:=fun j hj=>hex ⟨j,hj⟩;exact .inr ⟨fun j hj=>absurd hj (BA j),by rw[←S.a2 k fun j _=>BA j];exact hg⟩
  have Uk:∀x∈pend,x.1≠i:=by
   cases S.pd i hi hD with
   |skip po nU h1 h2 h3 h4 h5=>exact h5
   |light po nU v h1 h2 h3 EU h4 h5 h6=>exact h6
   |alloc po nU f B k h1 h2 h3 EU h4 h5 h6=>rw[hk]at EU;cases EU
  rcases aca with⟨hw,hg⟩|⟨hw,v,hg,hl⟩
  ·exact .skip po tm uX htm hw (by rw[←P8];exact hg) Uk
  ·exact .light po tm v uX htm hw hk (fun _=>⟨_,hl,VOk.view adj _ _ _⟩) (by rw[←P8];exact hg) Uk
 ·cases S.pd i hi hD with
  |skip po nU h1 h2 h3 h4 h5=>exact .skip po nU h1 h2 h3 h4 h5
  |light po nU v h1 h2 h3 EU h4 h5 h6=>exact .light po nU v h1 h2 h3 EU (fun _=>h4 hu) h5 h6
  |alloc po nU f B k h1 h2 h3 EU h4 h5 h6=>exact .alloc po nU f B k h1 h2 h3 EU h4 h5 h6
end
inductive Qp(P:Program)(μ:Mu)(nt:Nat):db→Item→Prop
 |code (pc:aK) (c:Code) (h:iL P nt c=some pc):Qp P μ nt (.code pc) (.code c)
 |inBlock (id:Nat):Qp P μ nt (.inBlock id) (.inBlock id)
 |inLoop (pc:aK) (c:Code) (h:iL P nt c=some pc):Qp P μ nt (.inLoop pc) (.inLoop c)
 |ops (l:List ay) (ops:Array Oper) (rest:List Nat) (h:mJ P nt ops rest=some l):Qp P μ nt (.ops l) (.inRegion ops rest)
 |inRF (k:Key) (l:Loc) (r:Nat) (h:μ k=some l) (hr:r=l.c):Qp P μ nt (.inRF k) (.inRangeFunc r)
 |endRF (k:Key) (l:Loc) (r:Nat) (h:μ k=some l) (hr:r=l.c):Qp P μ nt (.endRF k) (.endRangeFunc r)
 |beginRound:Qp P μ nt .beginRound .beginRound
 |scope (c:Code):Qp P μ nt (.code .skip) (.inScope c)
inductive oe(P:Program)(μ:Mu)(nt:Nat):List db→List Item→Prop
 |nil:oe P μ nt [] []
 |cons (a:db) (x:Item) (l:List db) (k:List Item) (h:Qp P μ nt a x) (h':oe P μ nt l k):oe P μ nt (a ::l) (x ::k)
theorem Qp.mono{P:Program}{μ μ':Mu}(hm:μ.le μ'){nt:Nat}{a:db}{x:Item}(h:Qp P μ nt a x):Qp P μ' nt a x:=by
 cases h with
 |code pc c h=>exact .code pc c h
 |inBlock id=>exact .inBlock id
 |inLoop pc c h=>exact .inLoop pc c h
 |ops l ops rest h=>exact .ops l ops rest h
 |inRF k l r h hr=>exact .inRF k l r (hm.l _ _ h) hr
 |endRF k l r h hr=>exact .endRF k l r (hm.l _ _ h) hr
 |beginRound=>exact .beginRound
 |scope c=>exact .scope c
theorem oe.mono{P:Program}{μ μ':Mu}(hm:μ.le μ'){nt:Nat}{a:List db}{x:List Item}(h:oe P μ nt a x):oe P μ' nt a x:=by
 induction h with
 |nil=>exact .nil
 |cons a x l k h h' ih=>exact .cons _ _ _ _ (h.mono hm) ih
def atn(ρ:Nat→Int)(μ:Mu):XJ→Deferred→Prop
 |.fn f args,d=>∃ws,d.target=.fn (.func f) ws∧ax ρ μ args (d.args++ws).toList
 |.coll b,d=>∃l,μ b=some l∧d=⟨.collected l.c,#[]⟩
def Tl(ρ:Nat→Int)(μ:Mu):List XJ→List Deferred→Prop
 | [],[]=>True
 |a ::l,d ::ds=>atn ρ μ a d∧Tl ρ μ l ds
 |_,_=>False
theorem atn.mono{ρ:Nat→Int}{μ μ':Mu}(hm:μ.le μ'){a:XJ}{d:Deferred}(h:atn ρ μ a d):atn ρ μ' a d:=by
 cases a with
 |fn f args=>obtain⟨ws,h1,h2⟩:=h;exact⟨ws,h1,h2.mono hm⟩
 |coll b=>obtain⟨l,h1,h2⟩:=h;exact⟨l,hm.l _ _ h1,h2⟩
theorem Tl.mono{ρ:Nat→Int}{μ μ':Mu}(hm:μ.le μ'):∀{a:List XJ} {d:List Deferred},Tl ρ μ a d→Tl ρ μ' a d
 | [],[],_=>trivial
 |_ ::_,_ ::_,h=>⟨h.1.mono hm,Tl.mono hm h.2⟩
 | [],_ ::_,h=>h.elim
 |_ ::_,[],h=>h.elim
def aD7(μ:Mu):Option Key→Option Nat→Prop
 |none,none=>True
 |some k,some r=>∃l,μ k=some l∧r=l.c
 |_,_=>False
structure BG(P:Program)(ρ:Nat→Int)(μ:Mu)(nt:Nat)(af:nG)(fr:Frame):Prop where
 fn:fr.fn=af.fn
 fnr:ak5 P af.fn nt af.res
 dfs:Tl ρ μ af.dfs fr.defers
 kind:fr.kind=if af.FE then .deferred else .normal
 uW:aD7 μ af.uW fr.roundOf
 rd:af.uW≠none→af.FE=false
theorem BG.mono{P:Program}{ρ:Nat→Int}{μ μ':Mu}(hm:μ.le μ'){nt:Nat}{af:nG}{fr:Frame}(h:BG P ρ μ nt af fr):BG P ρ μ' nt af fr:=by
 refine⟨h.fn,h.fnr,h.dfs.mono hm,h.kind,?_,h.rd⟩;have:=h.uW;cases h1:af.uW<;>cases h2:fr.roundOf<;>rw[h1,h2]at this
 ·trivial
 ·exact this.elim
 ·exact this.elim
 ·obtain⟨l,e1,e2⟩:=this;exact⟨l,hm.l _ _ e1,e2⟩
def M5(ops:Array Oper)(jN:List Key):Prop:=∀j t,oY ops j=some t→∃k∈jN,k.toNat=t
inductive Z5(P:Program)(ρ:Nat→Int)(orc:jK)(μ:Mu)(G:Key→Option ai)(H:T ai)(nx:Key)(nt:Nat):List db→T AV→List Item→Array Value→Prop
 |plain (k:List db) (K:List Item) (tm:T AV) (tmps:Array Value) (h:oe P μ nt k K) (ht:lB ρ μ nt tm tmps):Z5 P ρ orc μ G H nx nt k tm K tmps
 |ready (ops:Array Oper) (pl:List ay) (bf:List Nat) (g:Gh) (wW:List IIt) (items:List aH) (jN:SD) (pend:List (Nat×Key×ai)) (k:List db) (K:List Item) (tm:T AV) (tmps:Array Value) (rest:List Nat)
   (hf:wW.mapM (Fo pl)=some items) (hc:A7 ops pl bf g.L wW=true) (hd:M5 ops jN.ds∧BE bf jN.ke=true) (h:oe P μ nt k K) (S:ic P ρ orc nt ops pl bf μ G H nx g (fun _=>False) pend tm tmps rest) :
   Z5 P ρ orc μ G H nx nt (.staged items jN pend ::k) tm (.inRegion ops rest ::K) tmps
 |back (ops:Array Oper) (pl:List ay) (bf:List Nat) (g:Gh) (os:List (Nat×ay)) (wW:List IIt) (items:List aH) (jN:SD) (pend:List (Nat×Key×ai)) (k:List db) (K:List Item) (tm:T AV) (tmps:Array Value) (rest:List Nat)
   (hf:wW.mapM (Fo pl)=some items) (hc:A7 ops pl bf g.L wW=true) (hd:M5 ops jN.ds∧BE bf jN.ke=true) (h:oe P μ nt k K)
   (hos:∀i po,(i,po)∈os→pl[i]?=some po∧Fl ops bf i=true∧tL pl i=0) (JW:∀i,hasB g.L i=true→g.D i=false→hZ pl i=true→∃po,(i,po)∈os)
   (S:ic P ρ orc nt ops pl bf μ G H nx g (fun i=>hZ pl i=true) pend tm tmps rest) :
   Z5 P ρ orc μ G H nx nt (.staged (.R os ::items) jN pend ::k) tm (.inRegion ops rest ::K) tmps
inductive K6(P:Program)(ρ:Nat→Int)(orc:jK)(μ:Mu)(G:Key→Option ai)(H:T ai)(nx:Key)(nt:Nat):List db→T AV→List Item→Array Value→Prop
 |ops (o:ay) (l:List ay) (ops:Array Oper) (i:Nat) (rest:List Nat) (k:List db) (K:List Item) (tm:T AV) (tmps:Array Value) (hp:mJ P nt ops (i ::rest)=some (o ::l)) (h:oe P μ nt k K) (ht:lB ρ μ nt tm tmps) :
   K6 P ρ orc μ G H nx nt (.ops (o ::l) ::k) tm (.inRegion ops (i ::rest) ::K) tmps
 |staged (ops:Array Oper) (pl:List ay) (bf:List Nat) (g:Gh) (i:Nat) (po:ay) (ad:List Nat) (os:List (Nat×ay)) (wW:List IIt) (items:List aH) (jN:SD) (pend:List (Nat×Key×ai)) (k:List db) (K:List Item) (tm:T AV) (tmps:Array Value) (rest:List Nat)
   (uX:pl[i]?=some po) (hf:wW.mapM (Fo pl)=some items) (hc:A7 ops pl bf (Fp g.L i) wW=true) (hL:hasB g.L i=false) (Wv:∀j,j<ops.size→hasB (cQ bf i) j=true→hasB g.L j=true) (hd:M5 ops jN.ds∧BE bf jN.ke=true) (h:oe P μ nt k K)
   (hos:∀i po,(i,po)∈os→pl[i]?=some po∧Fl ops bf i=true∧tL pl i=0) (JW:∀j,hasB g.L j=true→hZ pl j=true→hasB (cQ bf i) j=true∨∃po,(j,po)∈os)
   (S:ic P ρ orc nt ops pl bf μ G H nx g (fun i=>hZ pl i=true) pend tm tmps (i ::rest)) :
   K6 P ρ orc μ G H nx nt (.staged (.H i po ad ::.R os ::items) jN pend ::k) tm (.inRegion ops (i ::rest) ::K) tmps
 |rf (key:Key) (l:Loc) (k:List db) (K:List Item) (tm:T AV) (tmps:Array Value) (hk:μ key=some l) (h:oe P μ nt k K) (ht:lB ρ μ nt tm tmps):K6 P ρ orc μ G H nx nt (.inRF key ::k) tm (.inRangeFunc l.c ::K) tmps
inductive Cur(P:Program)(ρ:Nat→Int)(orc:jK)(μ:Mu)(G:Key→Option ai)(H:T ai)(nx:Key)(af:nG)(fr:Frame):Prop
 |run (nt:Nat) (hb:BG P ρ μ nt af fr) (h1:af.mode=.run) (h2:fr.mode=.run) (h:Z5 P ρ orc μ G H nx nt af.todo af.tm fr.todo fr.tmps):Cur P ρ orc μ G H nx af fr
 |ret (nt:Nat) (hb:BG P ρ μ nt af fr) (h1:af.mode=.ret) (h2:fr.mode=.returning) (h3:af.todo=[]∨∃k,af.todo=.code .ret ::k) (h:lB ρ μ nt af.tm fr.tmps):Cur P ρ orc μ G H nx af fr
 |pan (nt:Nat) (hb:BG P ρ μ nt af fr) (v:AV) (u:Value) (r:Bool) (h1:af.mode=.pan v r) (h2:fr.mode=.panicking [{v:=u,recovered:=r}]) (hv:aU ρ μ v u) (h3:af.todo=[]) (h:lB ρ μ nt af.tm fr.tmps):Cur P ρ orc μ G H nx af fr
inductive Sus(P:Program)(ρ:Nat→Int)(orc:jK)(μ:Mu)(G:Key→Option ai)(H:T ai)(nx:Key)(af:nG)(fr:Frame):Prop
 |wait (nt:Nat) (hb:BG P ρ μ nt af fr) (h1:af.mode=.run) (h2:fr.mode=.run) (h:K6 P ρ orc μ G H nx nt af.todo af.tm fr.todo fr.tmps):Sus P ρ orc μ G H nx af fr
 |unw (h:Cur P ρ orc μ G H nx af fr) (hm:af.mode≠.run):Sus P ρ orc μ G H nx af fr
def dV(P:Program)(ρ:Nat→Int)(orc:jK)(μ:Mu)(G:Key→Option ai)(H:T ai)(nx:Key):List nG→List Frame→Prop
 | [],[]=>True
 |a ::l,f ::fs=>Sus P ρ orc μ G H nx a f∧dV P ρ orc μ G H nx l fs
 |_,_=>False
def pk(af:nG):List Nat:=match af.todo with
 |.staged _ _ p ::_=>p.map (·.2.1.toNat)
 |_=>[]
def bJ:List nG→List Nat
 | []=>[]
 |a ::l=>pk a++bJ l
structure A8(P:Program)(ρ:Nat→Int)(orc:jK)(w0:W0)(μ0:Mu)(am:AM)(fr:Frame)(cs:List Frame)(w:World):Prop where
 ex:∃μ G,μ0.le μ∧bB P ρ w0 μ G am.nx.toNat w∧HSub am.h G∧Cur P ρ orc μ G am.h am.nx am.fr fr∧dV P ρ orc μ G am.h am.nx am.cs cs∧(bJ (am.fr ::am.cs)).Nodup
section
variable{P:Program}{ρ:Nat→Int}{orc:jK}{μ μ':Mu}{G G':Key→Option ai}{H H':T ai}{nx nx':Key}
theorem K6.keep(hm:μ.le μ')(hn:nx.toNat≤nx'.toNat){nt:Nat}{k:List db}{tm:T AV}{K:List Item}{tmps:Array Value}(h:K6 P ρ orc μ G H nx nt k tm K tmps)
  (hk:∀b:Key,(∀i d p k',k=.staged i d p ::k'→b.toNat∈p.map (·.2.1.toNat))→(∃i d p k',k=.staged i d p ::k')→ag b H=none→b.toNat<nx.toNat→μ' b=μ b∧G' b=G b∧ag b H'=none):K6 P ρ orc μ' G' H' nx' nt k tm K tmps:=by
 cases h with
 |ops o l ops i rest k K tm tmps hp h ht=>exact .ops o l ops i rest k K tm tmps hp (h.mono hm) (ht.mono hm)
 |rf key l k K tm tmps ay6 h ht=>exact .rf key l k K tm tmps (hm.l _ _ ay6) (h.mono hm) (ht.mono hm)
 |staged ops pl bf g i po ad os wW items jN pend k K tm tmps rest uX hf hc hL Wv hd h hos JW S=>refine .staged ops pl bf g i po ad os wW items jN pend k K tm tmps rest uX hf hc hL Wv hd (h.mono hm) hos JW (S.keep hm hn fun x hx=>?_);obtain⟨_,_,_,p4,p5⟩:=S.pe x hx;refine hk x.2.1 ?_ ⟨_,_,_,_,rfl⟩ p4 p5;intro i d p k' e;cases e;exact M4.2 ⟨x,hx,rfl⟩
theorem Sus.keep(hm:μ.le μ')(hn:nx.toNat≤nx'.toNat){af:nG}{fr:Frame}(h:Sus P ρ orc μ G H nx af fr)
  (hk:∀b:Key,b.toNat∈pk af→ag b H=none→b.toNat<nx.toNat→μ' b=μ b∧G' b=G b∧ag b H'=none):Sus P ρ orc μ' G' H' nx' af fr:=by
 cases h with
 |wait nt hb h1 h2 h=>refine .wait nt (hb.mono hm) h1 h2 (h.keep hm hn fun b h3 ⟨i,d,p,k',e⟩ h4 h5=>hk b ?_ h4 h5);unfold pk;rw[e];exact h3 i d p k' e
 |unw h Cg=>
  refine .unw ?_ Cg;cases h with
  |run nt hb h1=>exact absurd h1 Cg
  |ret nt hb h1 h2 h3 h=>exact .ret nt (hb.mono hm) h1 h2 h3 (h.mono hm)
  |pan nt hb v u r h1 h2 hv h3 h=>exact .pan nt (hb.mono hm) v u r h1 h2 (hv.mono hm) h3 (h.mono hm)
theorem dV.keep(hm:μ.le μ')(hn:nx.toNat≤nx'.toNat):∀{l:List nG} {fs:List Frame},dV P ρ orc μ G H nx l fs→
  (∀b:Key,b.toNat∈bJ l→ag b H=none→b.toNat<nx.toNat→μ' b=μ b∧G' b=G b∧ag b H'=none)→dV P ρ orc μ' G' H' nx' l fs
 | [],[],_,_=>trivial
 |_ ::_,_ ::_,h,hk=>⟨h.1.keep hm hn fun b hb=>hk b (by simp[bJ,hb]),dV.keep hm hn h.2 fun b hb=>hk b (by simp[bJ,hb])⟩
 | [],_ ::_,h,_=>h.elim
 |_ ::_,[],h,_=>h.elim
end
section
variable{P:Program}{ρ:Nat→Int}{orc:jK}{nt:Nat}{w0:W0}{cs:List Frame}{K:List Item}{ops:Array Oper}
theorem lB.put{μ:Mu}{tm:T AV}{tmps:Array Value}(h:lB ρ μ nt tm tmps){o:Oper}{po:ay}(hd:(o.dst=none∧po.dst=none)∨∃k,o.dst=some k.toNat∧po.dst=some k∧k.toNat<nt){a:AV}{v:Value}(hv:aU ρ μ a v) :
  lB ρ μ nt (bT po.dst a tm) (ID o.dst v tmps):=by
 rcases hd with⟨e1,e2⟩|⟨k,e1,e2,dn⟩
 ·rw[e1,e2];exact h
 ·rw[e1,e2];refine⟨by simp[ID];exact h.1,fun q b hb=>?_⟩;simp only[bT]at hb;simp only[ID];by_cases hq:q=k
  ·subst hq;rw[gTSm]at hb;cases hb;have:q.toNat<tmps.size:=Ou dn h.1;exact⟨v,by simp[this],hv⟩
  ·rw[aD _ _ _ _ hq]at hb;obtain⟨u,hu,hr⟩:=h.2 q b hb;refine⟨u,?_,hr⟩;rw[zqn]
   ·exact hu
   ·intro e;exact hq (Key.toNat_inj e.symm)
theorem aj9{o:Oper}{op:KR}(hp:kb P nt o=some op)(hd:fV o.op=true):∃v l,op=.dfr v l:=by
 obtain⟨dst,Ic,ty,pos,after,guard⟩:=o;cases Ic<;>first|(cases hd;done)|skip
 rename_i c;simp only[kb]at hp;split at hp
 ·split at hp
  ·simp only[dS]at hp;exact⟨_,_,hp.symm⟩
  ·cases hp
 ·cases hp
theorem BI{o:Oper}{op:KR}(hp:kb P nt o=some op){tm:T AV}{H:T ai}{nx:Key}(h1:∀f l,aOp orc op tm H nx≠.dfr f l)(h2:∀n,aOp orc op tm H nx≠.bad n):fV o.op=false:=by
 cases hd:fV o.op with
 |false=>rfl
 |true=>
  obtain⟨v,l,rfl⟩:=aj9 hp hd;exfalso;have key:(∃f l',aOp orc (.dfr v l) tm H nx=.dfr f l')∨∃n,aOp orc (.dfr v l) tm H nx=.bad n:=by
   simp only[aOp];split
   ·exact .inl ⟨_,_,rfl⟩
   ·exact .inr ⟨_,rfl⟩
  rcases key with⟨f,l',e⟩|⟨n,e⟩
  ·exact h1 _ _ e
  ·exact h2 _ e
def aoN(P:Program)(ρ:Nat→Int)(orc:jK)(nt:Nat)(w0:W0)(cs:List Frame)(K:List Item)(ops:Array Oper)(fr:Frame)(w:World)(μ:Mu)(G:Key→Option ai)(H:T ai)(nx:Key):RR→Prop
 |.fin aA h' nx'=>∃dZ w' μ' G',Steps P (lone fr cs w) (lone {fr with tmps:=dZ,todo:=K} cs w')∧μ.le μ'∧bB P ρ w0 μ' G' nx'.toNat w'∧HSub h' G'∧lB ρ μ' nt aA dZ∧Kept H h' nx nx' μ μ' G G'
 |.ev r l' aA h' nx'=>(∃n,r=.bad n)∨∃dZ w' μ' G' i lW po ll o,Steps P (lone fr cs w) (lone {fr with tmps:=dZ,todo:=.inRegion ops (i ::lW) ::K} cs w')∧μ.le μ'∧bB P ρ w0 μ' G' nx'.toNat w'∧HSub h' G'∧
   lB ρ μ' nt aA dZ∧Kept H h' nx nx' μ μ' G G'∧l'=po ::ll∧mJ P nt ops (i ::lW)=some l'∧ops[i]?=some o∧Oh P nt ops o=some po∧Region.wanted o (yielded ops dZ)=true∧aOp orc po.op aA h' nx'=r∧¬CX r
theorem qK(orc:jK)(o:ay)(rest:List ay)(tm:T AV)(h:T ai)(nx:Key):lE orc (o ::rest) tm h nx=(match cz o.guard tm with
   |none=>.ev (.bad 30) (o ::rest) tm h nx
   |some false=>yw o.dst (some (.tuple [])) tm fun tm=>lE orc rest tm h nx
   |some true=>match aOp orc o.op tm h nx with
    |.val v h nx=>yw o.dst (some v) tm fun tm=>lE orc rest tm h nx
    |r=>.ev r (o ::rest) tm h nx):=rfl
theorem K9(ho:fA ρ orc):∀(l:List ay) (rest:List Nat) (fr:Frame) (w:World) (μ:Mu) (G:Key→Option ai) (H:T ai) (nx:Key) (tm:T AV),mJ P nt ops rest=some l→bB P ρ w0 μ G nx.toNat w→HSub H G→lB ρ μ nt tm fr.tmps→
  fr.mode=.run→fr.todo=.inRegion ops rest ::K→aoN P ρ orc nt w0 cs K ops fr w μ G H nx (lE orc l tm H nx)
 | [],rest,fr,w,μ,G,H,nx,tm,hp,hM,hH,hT,hm,ht=>by
  cases rest with
  |cons i r=>simp only[mJ]at hp;split at hp;cases hp;split at hp<;>cases hp
  |nil=>exact⟨fr.tmps,w,μ,G,.one (Ju hm ht),μ.le_refl,hM,hH,hT,Kept.refl _ _ _ _⟩
 |po ::l,rest,fr,w,μ,G,H,nx,tm,hp,hM,hH,hT,hm,ht=>by
  cases rest with
  |nil=>simp only[mJ,dS]at hp;cases hp
  |cons i r=>
  have hp0:=hp;simp only[mJ]at hp;split at hp
  ·cases hp
  ·rename_i o O7;split at hp
   ·rename_i VB l' h1 h2;simp only[dS,List.cons.injEq]at hp;obtain⟨rfl,rfl⟩:=hp;obtain⟨pE,XH,CY⟩:=jv h1;have hs:∀(k:Key) a,k.toNat∈mK ops o→ag k tm=some a→∃v,fr.tmps[k.toNat]?=some v∧aU ρ μ a v:=fun k a _ hg=>hT.2 k a hg;have hE:=HQ (P:=P) (nt:=nt) (o:=o) hM hs;rw[qK];have go:∀(cE:T AV) (tmps2:Array Value) (w2:World) (μ2:Mu) (G2:Key→Option ai) (H2:T ai) (aZ:Key),step P (lone fr cs w)=.next (lone {fr with tmps:=tmps2,todo:=.inRegion ops r ::K} cs w2)→μ.le μ2→bB P ρ w0 μ2 G2 aZ.toNat w2→HSub H2 G2→lB ρ μ2 nt cE tmps2→Kept H H2 nx aZ μ μ2 G G2→
      aoN P ρ orc nt w0 cs K ops fr w μ G H nx (lE orc l' cE H2 aZ):=by
     intro cE tmps2 w2 μ2 G2 H2 aZ fy hle hM2 hH2 hT2 hK2;have ih:=K9 ho l' r {fr with tmps:=tmps2,todo:=.inRegion ops r ::K} w2 μ2 G2 H2 aZ cE h2 hM2 hH2 hT2 hm rfl;cases JV:lE orc l' cE H2 aZ with
     |fin aA h' nx'=>rw[JV]at ih;obtain⟨dZ,w',μ',G',s1,s2,s3,s4,s5,s6⟩:=ih;exact⟨dZ,w',μ',G',.head fy s1,Mu.le_trans hle s2,s3,s4,s5,hK2.trans s6⟩
     |ev rr ll aA h' nx'=>
      rw[JV]at ih;rcases ih with hb|⟨dZ,w',μ',G',i',lW,VB,ll',o',s1,s2,s3,s4,s5,s6,s7,s8,s9,s10,s11,s12,s13⟩
      ·exact .inl hb
      ·exact .inr ⟨dZ,w',μ',G',i',lW,VB,ll',o',.head fy s1,Mu.le_trans hle s2,s3,s4,s5,hK2.trans s6,s7,s8,s9,s10,s11,s12,s13⟩
    cases hw:cz VB.guard tm with
    |none=>exact .inl ⟨_,rfl⟩
    |some b=>
     have sr:=Ck XH hs hw;cases b with
     |false=>simp only[fF];have fy:=Kr (P:=P) (cs:=cs) (w:=w) hm ht O7 sr;rw[cH ht O7]at fy;exact go _ _ w μ G H nx fy μ.le_refl hM hH (hT.put CY (.tuple _ _ .nil)) (Kept.refl _ _ _ _)
     |true=>
      cases ha:aOp orc VB.op tm H nx with
      |val a H2 aZ=>
       simp only[fF];obtain⟨n,w2,μ2,G2,r1,r2,r3,r4,r5,r6⟩:=Xs hM hH ho pE hE ha;have QD:fr.roundOf=none∨fV o.op=false:=.inr (BI pE (by rw[ha];intro f l e;cases e) (by rw[ha];intro n e;cases e));cases n with
       |value v=>have fy:=YR (P:=P) (cs:=cs) hm ht O7 sr QD r1;rw[cH ht O7]at fy;exact go _ _ w2 μ2 G2 H2 aZ fy r3 r4 r5 ((hT.mono r3).put CY r2) r6
       |skip=>have r2:a=.tuple []:=r2;subst r2;have fy:=ah7 (P:=P) (cs:=cs) hm ht O7 sr QD r1;rw[cH ht O7]at fy;exact go _ _ w2 μ2 G2 H2 aZ fy r3 r4 r5 ((hT.mono r3).put CY (.tuple _ _ .nil)) r6
       |_=>exact r2.elim
      |bad n=>exact .inl ⟨_,rfl⟩
      |call f args=>exact .inr ⟨fr.tmps,w,μ,G,i,r,VB,l',o,by rw[←ht];exact Steps.refl _ _,μ.le_refl,hM,hH,hT,Kept.refl _ _ _ _,rfl,hp0,O7,h1,sr,ha,by rintro(⟨_,_,_,e⟩|⟨_,e⟩)<;>cases e⟩
      |yld k args=>exact .inr ⟨fr.tmps,w,μ,G,i,r,VB,l',o,by rw[←ht];exact Steps.refl _ _,μ.le_refl,hM,hH,hT,Kept.refl _ _ _ _,rfl,hp0,O7,h1,sr,ha,by rintro(⟨_,_,_,e⟩|⟨_,e⟩)<;>cases e⟩
      |pan v=>exact .inr ⟨fr.tmps,w,μ,G,i,r,VB,l',o,by rw[←ht];exact Steps.refl _ _,μ.le_refl,hM,hH,hT,Kept.refl _ _ _ _,rfl,hp0,O7,h1,sr,ha,by rintro(⟨_,_,_,e⟩|⟨_,e⟩)<;>cases e⟩
      |dfr f args=>exact .inr ⟨fr.tmps,w,μ,G,i,r,VB,l',o,by rw[←ht];exact Steps.refl _ _,μ.le_refl,hM,hH,hT,Kept.refl _ _ _ _,rfl,hp0,O7,h1,sr,ha,by rintro(⟨_,_,_,e⟩|⟨_,e⟩)<;>cases e⟩
      |recover=>exact .inr ⟨fr.tmps,w,μ,G,i,r,VB,l',o,by rw[←ht];exact Steps.refl _ _,μ.le_refl,hM,hH,hT,Kept.refl _ _ _ _,rfl,hp0,O7,h1,sr,ha,by rintro(⟨_,_,_,e⟩|⟨_,e⟩)<;>cases e⟩
   ·cases hp
end
structure DG(E:List Nat)(H H':T ai)(nx nx':Key)(μ μ':Mu)(G G':Key→Option ai):Prop where
 k:∀b:Key,b.toNat∉E→ag b H=none→b.toNat<nx.toNat→μ' b=μ b∧G' b=G b∧ag b H'=none
 n:nx.toNat≤nx'.toNat
theorem DG.refl(E:List Nat)(H:T ai)(nx:Key)(μ:Mu)(G:Key→Option ai):DG E H H nx nx μ μ G G:=⟨fun _ _ h _=>⟨rfl,rfl,h⟩,gi _⟩
theorem DG.trans{E E2:List Nat}{H1 H2 H3:T ai}{n1 n2 n3:Key}{m1 m2 m3:Mu}{G1 G2 G3:Key→Option ai}(a:DG E H1 H2 n1 n2 m1 m2 G1 G2)(b:DG E2 H2 H3 n2 n3 m2 m3 G2 G3)(hE:∀x∈E2,x∈E∨n1.toNat≤x):DG E H1 H3 n1 n3 m1 m3 G1 G3:=by
 refine⟨fun k hk hg hl=>?_,Nat.le_trans a.n b.n⟩;obtain⟨a1,a2,a3⟩:=a.k k hk hg hl;have hk2:k.toNat∉E2:=by
  intro h;rcases hE _ h with h|h
  ·exact hk h
  ·omega
 obtain⟨b1,b2,b3⟩:=b.k k hk2 a3 (Ou hl a.n);exact⟨b1.trans a1,b2.trans a2,b3⟩
theorem Kept.toE{H H':T ai}{nx nx':Key}{μ μ':Mu}{G G':Key→Option ai}(h:Kept H H' nx nx' μ μ' G G')(E:List Nat):DG E H H' nx nx' μ μ' G G':=
 ⟨fun b _ hg hl=>⟨h.m b hl,h.g b hg hl,h.h b hg hl⟩,h.n⟩
section
variable{P:Program}{ρ:Nat→Int}{orc:jK}{nt:Nat}{ops:Array Oper}{pl:List ay}{bf:List Nat}{w0:W0}{w:World}{μ μ':Mu}{G G':Key→Option ai}{H H':T ai}{nx nx':Key}{g:Gh}{Ea aEe:Nat→Prop}{pend pend':List (Nat×Key×ai)}{tm:T AV}{tmps:Array Value}{rest:List Nat}{fr:Frame}{cs:List Frame}{K:List Item}{i:Nat}
theorem ic.avA(S:ic P ρ orc nt ops pl bf μ G H nx g Ea pend tm tmps (i ::rest)){po:ay}(uX:pl[i]?=some po)(hL:hasB g.L i=false)(hb:∀j,j<ops.size→hasB (cQ bf i) j=true→hasB g.L j=true)
  {o:Oper} (ho:ops[i]?=some o) {a:AV} {v:Value} (hv:aU ρ μ a v) :
  ic P ρ orc nt ops pl bf μ G H nx {L:=Fp g.L i,D:=fun j=>g.D j||j==i,a0:=g.a0,val:=zQ g.val i (some a)} Ea pend (bT po.dst a tm) (ID o.dst v tmps) rest:=by
 obtain⟨hi,hDi,Iu⟩:=S.ready;obtain⟨o',VB,Z9,XG,IF⟩:=S.US.at hi;rw[uX]at IF;cases IF;rw[ho]at Z9;cases Z9;obtain⟨pE,XH,CY⟩:=jv XG;have hdi:oY ops i=o.dst:=by simp[oY,ho]
 have ayB:∀x,o.dst=some x→x<tmps.size:=by
  intro x hx;rcases CY with⟨h,_⟩|⟨k,h,_,dn⟩
  ·rw[h]at hx;cases hx
  ·rw[h]at hx;cases hx;exact Ou dn S.sz
 have EY:=fun t=>ahS (v:=v) t ayB;have aob:(ID o.dst v tmps).size=tmps.size:=by cases o.dst<;>simp[ID]
 have hD':∀j,((g.D j||j==i)=true)↔(g.D j=true∨j=i):=by intro j;simp
 have N9:∀j,hasB (Fp g.L i) j=true↔(hasB g.L j=true∨j=i):=by intro j;rw[FG,Bool.or_eq_true,decide_eq_true_eq];exact⟨fun h=>h.imp id Eq.symm,fun h=>h.imp id Eq.symm⟩
 have hnb:∀p,hasB g.L p=true→hasB (cQ bf p) i=false:=by
  intro p hp;cases h:hasB (cQ bf p) i with
  |false=>rfl
  |true=>have:=S.lcl p hp i hi h;rw[hL]at this;cases this
 refine⟨S.US,S.ord.2.2.2,?_,?_,?_,?_,?_,?_,by rw[aob];exact S.sz,?_,?_,?_,?_,S.nk,S.ni⟩
 ·exact S.cl.step S.ord.2.2.1
 ·intro j hj;rcases (hD' j).1 hj with h|h
  ·exact(N9 j).2 (.inl (S.sub j h))
  ·exact(N9 j).2 (.inr h)
 ·intro j hj;rcases (N9 j).1 hj with h|h
  ·exact S.Km j h
  ·subst h;exact hi
 ·intro j hj q hq hbq;rcases (N9 j).1 hj with h|h
  ·exact(N9 q).2 (.inl (S.lcl j h q hq hbq))
  ·subst h;exact(N9 q).2 (.inl (hb q hq hbq))
 ·intro k j hj hd;rcases CY with⟨e1,e2⟩|⟨kd,e1,e2,_⟩
  ·rcases (N9 j).1 hj with h|h
   ·have cp:j≠i:=by intro e;subst e;rw[hL]at h;cases h
    rw[e2];simp only[bT,zQ,cp,if_false];exact S.a1 k j h hd
   ·subst h;rw[hdi,e1]at hd;cases hd
  ·rw[e2];simp only[bT];rcases (N9 j).1 hj with h|h
   ·have cp:j≠i:=by intro e;subst e;rw[hL]at h;cases h
    have hk:k≠kd:=by intro e;subst e;exact cp (S.US.QF hd (hdi.trans e1))
    rw[aD _ _ _ _ hk];simp only[zQ,cp,if_false];exact S.a1 k j h hd
   ·subst h;rw[hdi,e1]at hd;have hk:k=kd:=Key.toNat_inj (by simpa using hd.symm);subst hk;rw[gTSm];simp[zQ]
 ·intro k BA;rcases CY with⟨e1,e2⟩|⟨kd,e1,e2,_⟩
  ·rw[e2];exact S.a2 k fun j hj=>BA j ((N9 j).2 (.inl hj))
  ·rw[e2];simp only[bT];have hk:k≠kd:=by intro e;subst e;exact BA i ((N9 i).2 (.inr rfl)) (hdi.trans e1)
   rw[aD _ _ _ _ hk];exact S.a2 k fun j hj=>BA j ((N9 j).2 (.inl hj))
 ·intro k j b hj hjd hjv;rw[EY];rcases (hD' j).1 hj with h|h
  ·have cp:j≠i:=by intro e;subst e;rw[hDi]at h;cases h
   by_cases e:o.dst=some k.toNat
   ·exact absurd (S.US.QF (hdi.trans e) hjd).symm cp
   ·rw[if_neg e];exact S.c1 k j b h hjd (by simpa[zQ,cp]using hjv)
  ·subst h;rw[hdi]at hjd;rw[if_pos hjd];have hjv:b=a:=by simpa[zQ]using hjv.symm
   subst hjv;exact⟨v,rfl,hv⟩
 ·intro k b BA ha;rw[EY];have hni:o.dst≠some k.toNat:=by intro e;exact BA i ((hD' i).2 (.inr rfl)) (hdi.trans e)
  rw[if_neg hni];exact S.c2 k b (fun j hj=>BA j ((hD' j).2 (.inl hj))) ha
 ·intro j hj hjD;have hjD:(g.D j||j==i)=false:=hjD;rw[Bool.or_eq_false_iff]at hjD;have cp:j≠i:=by simpa using hjD.2
  have hjL:=((N9 j).1 hj).resolve_right cp;exact(S.pd j hjL hjD.1).qU (hnb j hjL) cp (fun _ h=>h) (fun _ h=>.inl h)
 ·intro x hx;obtain⟨p1,p2,p3,p4,p5⟩:=S.pe x hx;have cp:x.1≠i:=by intro e;rw[e,hL]at p1;cases p1
  refine⟨(N9 _).2 (.inl p1),fun h=>p2 (((hD' _).1 h).resolve_right cp),fun h=>p3 ?_,p4,p5⟩;have h:(g.D x.1||x.1==i)=false:=h;rw[Bool.or_eq_false_iff]at h;exact h.1
theorem ic.Q6(S:ic P ρ orc nt ops pl bf μ G H nx g Ea pend tm tmps (i ::rest))(hL:hasB g.L i=false)(hb:∀j,j<ops.size→hasB (cQ bf i) j=true→hasB g.L j=true){o:Oper}(ho:ops[i]?=some o) :
  ∀(k:Key) a,k.toNat∈mK ops o→ag k tm=some a→∃v,tmps[k.toNat]?=some v∧aU ρ μ a v:=
 S.Mj (S.apM S.ready.1 hL hb) ho
theorem KC:∀{p:List (Nat×Key×ai)} {h:T ai},HSub h G→(∀x∈p,G x.2.1=some x.2.2)→HSub (di p h) G
 | [],h,hs,_=>hs
 |x ::p,h,hs,hp=>by
  refine KC (p:=p) ?_ (fun y hy=>hp y (by simp[hy]));intro b B hb;by_cases e:b=x.2.1
  ·subst e;rw[gTSm]at hb;cases hb;exact hp x (by simp)
  ·rw[aD _ _ _ _ e]at hb;exact hs b B hb
theorem AY:∀{p:List (Nat×Key×ai)} {h:T ai} {b:Key},ag b h=none→(∀x∈p,x.2.1.toNat≠b.toNat)→ag b (di p h)=none
 | [],h,b,hb,_=>hb
 |x ::p,h,b,hb,hp=>by refine AY (p:=p) ?_ (fun y hy=>hp y (by simp[hy]));rw[aD _ _ _ _ (fun e=>hp x (by simp) (by rw[e]))];exact hb
end
end Go.Sx
