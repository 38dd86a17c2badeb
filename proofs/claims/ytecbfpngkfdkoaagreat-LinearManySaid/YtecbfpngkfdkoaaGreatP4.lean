/- A part of the proof. No condition. -/
import Derived.Test.YtecbfpngkfdkoaaGreatP3
import Derived.Orders
import Derived.Recover
set_option linter.unusedSimpArgs false
set_option linter.unusedVariables false
set_option linter.unusedSectionVars false
namespace Go.Sx
open Go.RowKit
section
variable{P:Program}{ρ:Nat→Int}{w0:W0}{w:World}{μ:Mu}{G:Key→Option ah}{nx:Key}{orc:iG}{nt:Nat}{tm:T AV}{H:T ah}{ev:Operand→Value}
theorem RD{op:Ji}{r:OR}(h:aOp orc op tm H nx=r)(hl:aOp orc op tm H nx=okV H nx (lightOp orc op tm H)):(∃a H' nx',r=.val a H' nx')∨∃n,r=.bad n:=by
 rw[hl]at h;subst h;cases lightOp orc op tm H with
 |none=>exact .inr ⟨_,rfl⟩
 |some v=>exact .inl ⟨_,_,_,rfl⟩
def BC(r:OR):Prop:=(∃a H' nx',r=.val a H' nx')∨∃n,r=.bad n
def aqw:Ji→Bool
 |.callF _ _|.callV _ _|.dfr _ _|.panic _|.recover=>true
 |_=>false
theorem ac6{α:Type}{vs:List α}{off:Nat}{l:List α}{bad:OR}{c:List α→OR}(hb:BC bad)(hc:∀l,BC (c l)):BC (Wa vs off l bad c):=by
 rw[putC_eq];split
 ·exact hc _
 ·exact hb
theorem Pz{α:Type}{n:Nat}{l:List α}{bad:OR}{c:List α→OR}(hb:BC bad)(hc:∀l,BC (c l)):BC (zZ n l bad c):=by
 rw[takeC_eq];split
 ·exact hc _
 ·exact hb
theorem dc(n:Nat):BC (.bad n):=.inr ⟨n,rfl⟩
theorem pn(a:AV)(H:T ah)(nx:Key):BC (.val a H nx):=.inl ⟨_,_,_,rfl⟩
theorem PA(f:Key→AV)(B:ah):BC (newB f B H nx):=by simp only[newB,sTCe];exact pn _ _ _
theorem kr{b:Bool}{x y:OR}(hx:BC x)(hy:BC y):BC (bif b then x else y):=by cases b<;>assumption
theorem vB(sz:Nat)(s:AV)(new:List AV)(m:Nat):BC (appendTo sz s new m H nx):=by
 unfold appendTo;split
 ·refine kr (pn _ _ _) (kr ?_ (dc _));rw[sTCe];exact pn _ _ _
 ·refine kr (pn _ _ _) (kr ?_ (dc _));split
  ·exact dc _
  ·split
   ·rw[appC_eq,sTCe,sTCe];exact pn _ _ _
   ·exact dc _
 ·refine kr ?_ (dc _);split
  ·refine kr (ac6 (dc _) fun _=>by rw[sTCe];exact pn _ _ _) (Pz (dc _) fun _=>?_);rw[vq (Et 9999),appC_eq,sTCe];exact pn _ _ _
  ·refine kr (dc _) (Pz (dc _) fun _=>?_);rw[vq (Et 9999),appC_eq,sTCe];exact pn _ _ _
  ·refine kr (pn _ _ _) (kr (kr ?_ ?_) (dc _))<;>(rw[appC_eq,sTCe,sTCe];exact pn _ _ _)
  ·exact dc _
 ·exact dc _
theorem aqx{op:Ji}(he:aqw op=false):BC (aOp orc op tm H nx):=by
 cases op with
 |callF f' ps=>cases he
 |callV pv ps=>cases he
 |dfr v l=>cases he
 |panic x=>cases he
 |recover=>cases he
 |strb x=>
  simp only[aOp];split
  ·exact pn _ _ _
  ·exact dc _
 |store n pa pv=>
  simp only[aOp];split
  ·refine kr ?_ (dc _);split
   ·exact dc _
   ·exact ac6 (dc _) fun _=>by rw[sTCe];exact pn _ _ _
   ·exact dc _
  ·exact dc _
 |mapupd sk pm pk pv=>
  simp only[aOp];split
  ·split
   ·split
    ·rw[sTCe];exact pn _ _ _
    ·exact dc _
   ·exact dc _
  ·exact dc _
 |append sz ps px=>
  simp only[aOp];split
  ·exact vB _ _ _ _
  ·refine kr ?_ (dc _);split
   ·exact Pz (dc _) fun _=>by rw[vq (Et 9999)];exact vB _ _ _ _
   ·exact dc _
  ·exact kr (vB _ _ _ _) (dc _)
  ·exact kr (vB _ _ _ _) (dc _)
  ·exact dc _
 |new zs=>simp only[aOp];split;exact PA _ _;exact dc _
 |box x=>simp only[aOp];split;exact PA _ _;exact dc _
 |bslice sz len zs ps=>simp only[aOp];split;exact PA _ _;exact dc _
 |mkmap=>simp only[aOp];split;exact PA _ _;exact dc _
 |mkslice sz zs l c=>simp only[aOp];split;exact PA _ _;exact dc _
 |_=>exact RD rfl rfl
theorem Ka{op:Ji}{r:OR}(h:aOp orc op tm H nx=r)(hr:¬BC r):aqw op=true:=by
 cases he:aqw op with
 |true=>rfl
 |false=>exact absurd (h ▸ aqx (orc:=orc) (tm:=tm) (H:=H) (nx:=nx) he) hr
theorem ac7{f:Nat}{first cap:List AV}{v:Value}(h:aS ρ μ (.fn f first cap) v):∃vs ws,v=.func (.func f) vs ws∧ax ρ μ first vs.toList∧ax ρ μ cap ws.toList:=by cases h with|fn _ _ _ vs ws h h'=>exact⟨vs,ws,rfl,h,h'⟩
theorem pK {f : Nat} {fn : Func} (hf : P.funcs[f]? = some fn) (hb : fn.body.isSome = true) (hn : fn.name ≠ "runtime.NumGoroutine") (args : Array Value) : (callFunc f args).run P w = .ok (.enter f args) w := by
 have h1:fn.body.isNone=false:=by cases h:fn.body<;>simp_all
 have h2 : (fn.name == "runtime.NumGoroutine") = false := by simpa using hn
 simp only[callFunc,qC,run_program,nz,hf,h2,h1,SH,if_false,uE]
theorem Zd{o:Oper}{op:Ji}(hp:jh P nt o=some op)(hE:zK P ρ μ nt o.op.operands.toList tm ev){f:Nat}{l:List AV}(h:aOp orc op tm H nx=.call f l)
  {fn : Func} (hf : P.funcs[f]? = some fn) (hb : fn.body.isSome = true) (hn : fn.name ≠ "runtime.NumGoroutine") :
  ∃args,(Go.execOp ev o).run P w=.ok (.enter f args) w∧ax ρ μ l args.toList:=by
 have he:=Ka h (by rintro(⟨_,_,_,e⟩|⟨_,e⟩)<;>cases e);obtain⟨dst,Gz,ty,pos,after,guard⟩:=o;cases op<;>first|(cases he;done)|skip
 ·rename_i f' ps;obtain⟨c,fn',e0,hc,df,_⟩:=j0 hp;obtain⟨callee,args,argTypes⟩:=c;simp only at e0 hc df;subst e0 hc;simp only[aOp]at h;split at h
  ·rename_i l' Te;simp only[OR.call.injEq]at h;obtain⟨rfl,rfl⟩:=h;have hv:aS ρ μ (.fn f' [] []) (ev (.func f')):=hE (.func f') (by simp[Op.operands,Call.operands]) _ _ rfl rfl;obtain⟨vs,ws,e1,h1,h2⟩:=ac7 hv;have hvs:vs=#[]:=by apply Array.ext';generalize vs.toList=x at h1;cases h1;rfl
   have hws:ws=#[]:=by apply Array.ext';generalize ws.toList=x at h2;cases h2;rfl
   subst hvs hws;refine⟨args.map ev,?_,?_⟩
   ·simp[Go.execOp,resolve,e1,Deferred.ofValue,invoke,pK hf hb hn]
   ·have:=lq (ev:=ev) df Te (hE.sub fun y hy=>by simp[Op.operands,Call.operands]at hy ⊢;exact .inr hy);simpa using this
  ·cases h
 ·rename_i pv ps;obtain⟨c,x,e0,hc,hx,df⟩:=j0 hp;obtain⟨callee,args,argTypes⟩:=c;simp only at e0 hc df;subst e0 hc;simp only[aOp]at h;split at h
  ·rename_i f' first cap l' TS Te
   simp only[OR.call.injEq]at h;obtain⟨rfl,rfl⟩:=h;have hv:=hE x (by simp[Op.operands,Call.operands]) pv _ hx TS;obtain⟨vs,ws,e1,h1,h2⟩:=ac7 hv;refine⟨vs++args.map ev++ws,?_,?_⟩
   ·simp[Go.execOp,resolve,e1,Deferred.ofValue,invoke,pK hf hb hn]
   ·have:=lq (ev:=ev) df Te (hE.sub fun y hy=>by simp[Op.operands,Call.operands]at hy ⊢;exact .inr hy);have h3:ax ρ μ l' (args.map ev).toList:=by simpa using this
    simpa using(h1.append h3).append h2
  ·cases h
  ·cases h
 ·rename_i v l';simp only[aOp]at h;split at h<;>cases h
 ·rename_i x;simp only[aOp]at h;split at h<;>cases h
 ·cases h
theorem aek{o:Oper}{op:Ji}(hp:jh P nt o=some op)(hE:zK P ρ μ nt o.op.operands.toList tm ev){k:Key}{l:List AV}(h:aOp orc op tm H nx=.yld k l) :
  ∃args lc,μ k=some lc∧(Go.execOp ev o).run P w=(Instr.yield lc.c args).run P w∧ax ρ μ l args.toList:=by
 have he:=Ka h (by rintro(⟨_,_,_,e⟩|⟨_,e⟩)<;>cases e);obtain⟨dst,Gz,ty,pos,after,guard⟩:=o;cases op<;>first|(cases he;done)|skip
 ·simp only[aOp]at h;split at h<;>cases h
 ·rename_i pv ps;obtain⟨c,x,e0,hc,hx,df⟩:=j0 hp;obtain⟨callee,args,argTypes⟩:=c;simp only at e0 hc df;subst e0 hc;simp only[aOp]at h;split at h
  ·cases h
  ·rename_i k' l' TS Te;simp only[OR.yld.injEq]at h;obtain⟨rfl,rfl⟩:=h;have hv:=hE x (by simp[Op.operands,Call.operands]) pv _ hx TS;generalize nD:ev x=xx at hv;cases hv with|yld _ lc r hm hr=>
   subst hr;refine⟨args.map ev,lc,hm,?_,?_⟩
   ·simp[Go.execOp,resolve,nD,Deferred.ofValue,invoke]
   ·have:=lq (ev:=ev) df Te (hE.sub fun y hy=>by simp[Op.operands,Call.operands]at hy ⊢;exact .inr hy);simpa using this
  ·cases h
 ·simp only[aOp]at h;split at h<;>cases h
 ·simp only[aOp]at h;split at h<;>cases h
 ·cases h
theorem ael{o:Oper}{op:Ji}(hp:jh P nt o=some op)(hE:zK P ρ μ nt o.op.operands.toList tm ev){a:AV}(h:aOp orc op tm H nx=.pan a) :
  ∃v,(Go.execOp ev o).run P w=.halt (.panic v) w∧aS ρ μ a v:=by
 have he:=Ka h (by rintro(⟨_,_,_,e⟩|⟨_,e⟩)<;>cases e);obtain⟨dst,Gz,ty,pos,after,guard⟩:=o;cases op<;>first|(cases he;done)|skip
 ·simp only[aOp]at h;split at h<;>cases h
 ·simp only[aOp]at h;split at h<;>cases h
 ·simp only[aOp]at h;split at h<;>cases h
 ·rename_i px;obtain⟨x,e0,hx⟩:=j0 hp;simp only at e0;subst e0;simp only[aOp]at h;split at h
  ·rename_i t u hu;simp only[OR.pan.injEq]at h;subst h;have hv:=hE x (by simp[Op.operands]) px _ hx hu;refine⟨ev x,?_,hv⟩;generalize nD:ev x=xx at hv;cases hv;simp[Go.execOp,nD,Instr.panic]
  ·cases h
 ·cases h
theorem aem{o:Oper}{op:Ji}(hp:jh P nt o=some op)(hE:zK P ρ μ nt o.op.operands.toList tm ev){f:Nat}{l:List AV}(h:aOp orc op tm H nx=.dfr f l) :
  ∃c ws vs,o.op=.defer c∧(resolve ev c o.type).run P w=.ok ⟨.fn (.func f) ws,vs⟩ w∧(Go.execOp ev o).run P w=.ok (.defer ⟨.fn (.func f) ws,vs⟩) w∧ax ρ μ l (vs++ws).toList:=by
 have he:=Ka h (by rintro(⟨_,_,_,e⟩|⟨_,e⟩)<;>cases e);obtain⟨dst,Gz,ty,pos,after,guard⟩:=o;cases op<;>first|(cases he;done)|skip
 ·simp only[aOp]at h;split at h<;>cases h
 ·simp only[aOp]at h;split at h<;>cases h
 ·rename_i pv ps;obtain⟨c,x,e0,hc,hx,df⟩:=j0 hp;obtain⟨callee,args,argTypes⟩:=c;simp only at e0 hc df;subst e0 hc;simp only[aOp]at h;split at h
  ·rename_i f' first cap l' TS Te
   simp only[OR.dfr.injEq]at h;obtain⟨rfl,rfl⟩:=h;have hv:=hE x (by simp[Op.operands,Call.operands]) pv _ hx TS;obtain⟨vs,ws,e1,h1,h2⟩:=ac7 hv;refine⟨_,ws,vs++args.map ev,rfl,?_,?_,?_⟩
   ·simp[resolve,e1,Deferred.ofValue]
   ·simp[Go.execOp,resolve,e1,Deferred.ofValue]
   ·have:=lq (ev:=ev) df Te (hE.sub fun y hy=>by simp[Op.operands,Call.operands]at hy ⊢;exact .inr hy);have h3:ax ρ μ l' (args.map ev).toList:=by simpa using this
    simpa using(h1.append h3).append h2
  ·cases h
 ·simp only[aOp]at h;split at h<;>cases h
 ·cases h
theorem Ri{o:Oper}{op:Ji}(hp:jh P nt o=some op)(h:aOp orc op tm H nx=.recover):(Go.execOp ev o).run P w=.ok .recover w:=by
 have he:=Ka h (by rintro(⟨_,_,_,e⟩|⟨_,e⟩)<;>cases e);obtain⟨dst,Gz,ty,pos,after,guard⟩:=o;cases op<;>first|(cases he;done)|skip
 ·simp only[aOp]at h;split at h<;>cases h
 ·simp only[aOp]at h;split at h<;>cases h
 ·simp only[aOp]at h;split at h<;>cases h
 ·simp only[aOp]at h;split at h<;>cases h
 ·obtain⟨c,e0,hc,df⟩:=j0 hp;obtain⟨callee,args,argTypes⟩:=c;simp only at e0 hc df;subst e0 hc df;simp[Go.execOp,resolve,invoke,Go.builtin]
end
def N1(ops:Array Oper):(Nat→Bool)→List Nat→Prop
 |D,[]=>∀i,i<ops.size→D i=true
 |D,i ::r=>i<ops.size∧D i=false∧(∀o,ops[i]?=some o→∀e∈o.after.toList,Region.binds .any e=true→D e.on=true)∧N1 ops (fun j=>D j||j==i) r
theorem N1.congr{ops:Array Oper}:∀{l:List Nat} {D D':Nat→Bool},(∀i,i<ops.size→D i=D' i)→(∀(i:Nat) (o:Oper),ops[i]?=some o→∀e∈o.after.toList,Region.binds .any e=true→e.on<ops.size)→N1 ops D l→N1 ops D' l
 | [],D,D',h,_,hv=>fun i hi=>by rw[←h i hi];exact hv i hi
 |i ::r,D,D',h,he,hv=>by obtain⟨h1,h2,h3,h4⟩:=hv;refine⟨h1,by rw[←h i h1];exact h2,fun o ho e hm hb=>?_,N1.congr (fun j hj=>by rw[h j hj]) he h4⟩;rw[←h e.on (he i o ho e hm hb)];exact h3 o ho e hm hb
def Lf(ops:Array Oper):Prop:=∀(i:Nat) (o:Oper),ops[i]?=some o→∀e∈o.after.toList,Region.binds .any e=true→e.on<i
def unl(n:Nat)(listed:Array Bool):Nat:=(List.range n).countP fun i=>!listed.getD i true
theorem aef{n:Nat}{listed:Array Bool}(hs:listed.size=n){i:Nat}(hi:i<n)(hf:listed.getD i true=false):unl n listed=unl n (listed.setIfInBounds i true)+1:=by
 unfold unl;have key:∀(l:List Nat),l.Nodup→(∀j∈l,j<n)→l.countP (fun j=>!listed.getD j true)=l.countP (fun j=>!(listed.setIfInBounds i true).getD j true)+(if i∈l then 1 else 0):=by
  intro l
  induction l with
  |nil=>intro _ _;simp
  |cons x l ih=>
   intro Of bY;have axV:=List.nodup_cons.1 Of;rw[List.countP_cons,List.countP_cons,ih axV.2 (fun j hj=>bY j (by simp[hj]))];by_cases hx:x=i
   ·subst hx;have h1:(listed.setIfInBounds x true).getD x true=true:=by simp[Array.getD,hs,hi]
    simp only[hf,h1,axV.1,if_false,K3,true_or,if_true];simp
   ·have h1:(listed.setIfInBounds i true).getD x true=listed.getD x true:=by simp only[Array.getD_eq_getD_getElem?];rw[zqn (fun e=>hx e.symm)]
    have h2:(i∈x ::l)↔i∈l:=by simp[Ne.symm hx]
    simp only[h1,h2];omega
 rw[key _ List.nodup_range (fun j hj=>by simpa using hj),if_pos (by simpa using hi)]
theorem anL{n:Nat}{listed:Array Bool}(h:0<unl n listed):∃i,i<n∧listed.getD i true=false∧∀j,j<i→listed.getD j true=true:=by
 unfold unl at h;rw[List.countP_pos_iff]at h;obtain⟨a,ha,hb⟩:=h;have ha:a<n:=by simpa using ha
 have hb:listed.getD a true=false:=by simpa using hb
 induction a using Nat.strongRecOn with
 |_ a ih=>
  by_cases z6:∀j,j<a→listed.getD j true=true
  ·exact⟨a,ha,hb,z6⟩
  ·simp only[Classical.not_forall]at z6;obtain⟨j,hj,hjf⟩:=z6;exact ih j hj (by simpa using Nat.lt_trans hj ha) (by simpa using hjf) (Nat.lt_trans hj ha) (by simpa using hjf)
theorem KY{ops:Array Oper}(hd:Lf ops):∀(fuel t:Nat) (listed:Array Bool) (acc:List Nat),listed.size=ops.size→unl ops.size listed=fuel→
  ∃r,Region.linearise.go .any ops fuel t listed acc=acc.reverse++r∧N1 ops (fun i=>listed.getD i true) r
 |0,t,listed,acc,hs,hu=>by
  refine⟨[],by simp[Region.linearise.go],fun i hi=>?_⟩;show listed.getD i true=true;cases h:listed.getD i true with
  |true=>rfl
  |false=>have:=aef hs hi h;omega
 |fuel+1,t,listed,acc,hs,hu=>by
  obtain⟨i0,hi0,hf0,aE2⟩:=anL (n:=ops.size) (listed:=listed) (by omega);simp only[Region.linearise.go];generalize hrs:(List.range ops.size).filter (fun i=>!listed.getD i true&&((ops[i]?).map (·.after.all fun e=>!Region.binds .any e||listed.getD e.on false)).getD false)=rs;have nR:∀i,i∈rs↔i<ops.size∧listed.getD i true=false∧∀o,ops[i]?=some o→∀e∈o.after.toList,Region.binds .any e=true→listed.getD e.on false=true:=by
   intro i;rw[←hrs,List.mem_filter];constructor
   ·rintro⟨h1,h2⟩;have hi:i<ops.size:=by simpa using h1
    simp only[kO,Bool.not_eq_true']at h2;refine⟨hi,h2.1,fun o ho e he hb=>?_⟩;have h3:=h2.2;rw[ho]at h3;simp only[Option.map_some,Option.getD_some,Array.all_eq_true_iff_forall_mem]at h3;have:=h3 e (by simpa using he);simpa[hb]using this
   ·rintro⟨hi,h1,h2⟩;refine⟨by simpa using hi,?_⟩;simp only[kO,Bool.not_eq_true'];refine⟨h1,?_⟩;have ho:ops[i]?=some ops[i]:=by simp[hi]
    rw[ho];simp only[Option.map_some,Option.getD_some,Array.all_eq_true_iff_forall_mem];intro e he;cases hb:Region.binds .any e with
    |false=>rfl
    |true=>simpa using h2 _ ho e (by simpa using he) hb
  have bU:i0∈rs:=by
   rw[nR];refine⟨hi0,hf0,fun o ho e he hb=>?_⟩;have bY:=hd i0 o ho e he hb;have h1:=aE2 e.on bY;have:e.on<listed.size:=by omega
   simp only[Array.getD_eq_getD_getElem?,this,getElem?_pos,Option.getD_some]at h1 ⊢;exact h1
  have hlen:0<rs.length:=List.length_pos_of_mem bU;have bY:t%rs.length<rs.length:=Nat.mod_lt _ hlen;have DX:rs[t%rs.length]?=some rs[t%rs.length]:=by simp[bY]
  rw[DX];have Jg:rs[t%rs.length]∈rs:=Mg bY;generalize rs[t%rs.length]=i at Jg;obtain⟨hi,hf,aE3⟩:=(nR i).1 Jg;have hun:=aef hs hi hf;obtain⟨r,hr,hv⟩:=KY hd fuel (t / rs.length) (listed.setIfInBounds i true) (i ::acc) (by simp[hs]) (by omega);refine⟨i ::r,?_,hi,hf,fun o ho e he hb=>?_,?_⟩
  ·show Region.linearise.go _ _ _ _ _ _=_;rw[hr];simp
  ·have h1:=aE3 o ho e he hb;have bY:=hd i o ho e he hb;have:e.on<listed.size:=by omega
   simp only[Array.getD_eq_getD_getElem?,this,getElem?_pos,Option.getD_some]at h1 ⊢;exact h1
  ·refine N1.congr ?_ (fun j o ho e he hb=>?_) hv
   ·intro j hj;by_cases sZ:j=i
    ·subst sZ;have:j<listed.size:=by omega
     simp[Array.getD,this]
    ·simp only[Array.getD_eq_getD_getElem?];rw[zqn (fun e=>sZ e.symm)];simp[sZ]
   ·have h1:=hd j o ho e he hb;have:j<ops.size:=by
     rcases Jy j ops.size with h'|h'
     ·exact h'
     ·rw[VY h']at ho;cases ho
    omega
theorem Q3{ops:Array Oper}(hd:Lf ops)(t:Nat):N1 ops (fun _=>false) (Region.schedule true ops t):=by
 have hu:unl ops.size (Array.replicate ops.size false)=ops.size:=by
  unfold unl;rw[List.countP_eq_length.2 (fun a ha=>by
   have:a<ops.size:=by simpa using ha
   simp[Array.getD,this])]
  simp
 obtain⟨r,hr,hv⟩:=KY hd ops.size t (Array.replicate ops.size false) [] (by simp) hu;have:Region.schedule true ops t=r:=by simp[Region.schedule,Region.linearise,hr]
 rw[this];refine N1.congr (fun i hi=>by simp[Array.getD,hi]) (fun j o ho e he hb=>?_) hv;have h1:=hd j o ho e he hb;have:j<ops.size:=by
  rcases Jy j ops.size with h'|h'
  ·exact h'
  ·rw[VY h']at ho;cases ho
 omega
section
variable{P:Program}{fr:Frame}{cs:List Frame}{w w':World}{k:List Item}
def G1(fr:Frame)(cs:List Frame):Goroutine:={frame:=fr,callers:=cs,status:=.running,dying:=none}
theorem afe(hm:fr.mode=.run):stepG P true (G1 fr cs) w=stepG.exec P true true fr cs none w:=by simp[stepG,G1,hm]
theorem UZ(hm:fr.mode≠.run):stepG P true (G1 fr cs) w=unwind P true fr cs none w:=by
 cases h:fr.mode with
 |run=>exact absurd h hm
 |returning=>simp[stepG,G1,h]
 |panicking c=>simp[stepG,G1,h]
theorem dK{gD:Frame}{Gj:List Frame}(hm:fr.mode=.run)(h:(stepG.exec P true true fr cs none w).bare=.go (G1 gD Gj) w'):step P (lone fr cs w)=.next (lone gD Gj w'):=
 step_lone_go (by have:=afe (P:=P) (cs:=cs) (w:=w) hm;simp only[G1]at this h;rw[this];exact h)
theorem LZ{gD:Frame}{Gj:List Frame}(hm:fr.mode≠.run)(h:(unwind P true fr cs none w).bare=.go (G1 gD Gj) w'):step P (lone fr cs w)=.next (lone gD Gj w'):=
 step_lone_go (by have:=UZ (P:=P) (cs:=cs) (w:=w) hm;simp only[G1]at this h;rw[this];exact h)
theorem amL(hm:fr.mode=.run)(ht:fr.todo=.code .skip ::k):step P (lone fr cs w)=.next (lone {fr with todo:=k} cs w):=
 dK hm (by simp[stepG.exec,ht,G1])
theorem asp{a b:Code}(hm:fr.mode=.run)(ht:fr.todo=.code (.seq a b) ::k):step P (lone fr cs w)=.next (lone {fr with todo:=.code a ::.code b ::k} cs w):=
 dK hm (by simp[stepG.exec,ht,G1])
theorem adw{c:Operand}{a b:Code}{t:Bool}(hm:fr.mode=.run)(ht:fr.todo=.code (.cond c a b) ::k)(hc:fr.eval c=.bool t) :
  step P (lone fr cs w)=.next (lone {fr with todo:=.code (if t then a else b) ::k} cs w):=
 dK hm (by simp[stepG.exec,ht,G1,hc])
theorem aiY{id:Nat}{c:Code}(hm:fr.mode=.run)(ht:fr.todo=.code (.block id c) ::k):step P (lone fr cs w)=.next (lone {fr with todo:=.code c ::.inBlock id ::k} cs w):=
 dK hm (by simp[stepG.exec,ht,G1])
theorem ZZ{id:Nat}(hm:fr.mode=.run)(ht:fr.todo=.inBlock id ::k):step P (lone fr cs w)=.next (lone {fr with todo:=k} cs w):=
 dK hm (by simp[stepG.exec,ht,G1])
theorem aiZ{c:Code}(hm:fr.mode=.run)(ht:fr.todo=.code (.scope c) ::k):step P (lone fr cs w)=.next (lone {fr with todo:=.code c ::.inScope c ::k} cs w):=
 dK hm (by simp[stepG.exec,ht,G1])
theorem ai0{i:Nat}(hm:fr.mode=.run)(ht:fr.todo=.code (.label i) ::k):step P (lone fr cs w)=.next (lone {fr with todo:=k} cs w):=
 dK hm (by simp[stepG.exec,ht,G1])
theorem Z0{c:Code}(hm:fr.mode=.run)(ht:fr.todo=.inScope c ::k):step P (lone fr cs w)=.next (lone {fr with todo:=k} cs w):=
 dK hm (by simp[stepG.exec,ht,G1])
theorem amM{c:Code}(hm:fr.mode=.run)(ht:fr.todo=.code (.loop c) ::k):step P (lone fr cs w)=.next (lone {fr with todo:=.code c ::.inLoop c ::k} cs w):=
 dK hm (by simp[stepG.exec,ht,G1])
theorem aeX{c:Code}(hm:fr.mode=.run)(ht:fr.todo=.inLoop c ::k):step P (lone fr cs w)=.next (lone {fr with todo:=.code c ::.inLoop c ::k} cs w):=
 dK hm (by simp[stepG.exec,ht,G1])
theorem amN{id:Nat}{k':List Item}(hm:fr.mode=.run)(ht:fr.todo=.code (.exit id) ::k)(he:exitTo id k=some k'):step P (lone fr cs w)=.next (lone {fr with todo:=k'} cs w):=
 dK hm (by simp[stepG.exec,ht,G1,he])
theorem aff{id:Nat}{ops:Array Oper}(hm:fr.mode=.run)(ht:fr.todo=.code (.region id ops false) ::k) :
  step P (lone fr cs w)=.next (lone {fr with todo:=.inRegion ops (List.range ops.size) ::k} cs w):=
 dK hm (by simp[stepG.exec,ht,G1])
theorem amO{id:Nat}{ops:Array Oper}(hm:fr.mode=.run)(ht:fr.todo=.code (.region id ops true) ::k) :
  ∃t,step P (lone fr cs w)=.next (lone {fr with todo:=.inRegion ops (Region.schedule (P.follows .mixedOrders) ops t) ::k} cs {w with drawn:=w.drawn+1}):=
 ⟨w.tape w.drawn (.order fr.fn id),dK hm (by simp[stepG.exec,ht,G1,choose,Sem.run,Question.forced,Question.cut])⟩
theorem HT{ops:Array Oper}(hm:fr.mode=.run)(ht:fr.todo=.inRegion ops [] ::k):step P (lone fr cs w)=.next (lone {fr with todo:=k} cs w):=
 dK hm (by simp[stepG.exec,ht,G1])
theorem asq(hm:fr.mode=.run)(ht:fr.todo=[])(hr:fr.roundOf=none):step P (lone fr cs w)=.next (lone {fr with mode:=.returning} cs w):=
 dK hm (by simp[stepG.exec,ht,G1,hr])
theorem asr(hm:fr.mode=.run)(ht:fr.todo=.code .ret ::k)(hr:fr.roundOf=none):step P (lone fr cs w)=.next (lone {fr with mode:=.returning} cs w):=
 dK hm (by simp[stepG.exec,ht,G1,hr])
variable{ops:Array Oper}{i:Nat}{rest:List Nat}{o:Oper}
theorem IU(hm:fr.mode=.run)(ht:fr.todo=.inRegion ops (i ::rest) ::k)(ho:ops[i]?=some o)(hw:Region.wanted o (yielded ops fr.tmps)=false) :
  step P (lone fr cs w)=.next (lone (fr.finish undef) cs w):=
 dK hm (by simp[stepG.exec,ht,G1,ho,hw])
def eW:Op→Bool
 |.defer _=>true
 |_=>false
theorem yI(ht:fr.todo=.inRegion ops (i ::rest) ::k)(ho:ops[i]?=some o)(hw:Region.wanted o (yielded ops fr.tmps)=true)(hd:fr.roundOf=none∨eW o.op=false) :
  stepG.exec P true true fr cs none w=stepG.apply P true fr cs none (Go.execOp fr.eval o) w:=by
 simp only[stepG.exec,ht,ho,Option.map_some,Option.getD_some,hw,if_true,stepG.oper,Frame.oper?];cases hr:fr.roundOf with
 |none=>rfl
 |some l=>rw[hr]at hd;have hd:eW o.op=false:=hd.resolve_left (by simp);cases ki:o.op<;>first|rfl|(rw[ki]at hd;cases hd)
theorem UQ{v:Value}(hm:fr.mode=.run)(ht:fr.todo=.inRegion ops (i ::rest) ::k)(ho:ops[i]?=some o)(hw:Region.wanted o (yielded ops fr.tmps)=true)(hd:fr.roundOf=none∨eW o.op=false)
  (h:(Go.execOp fr.eval o).run P w=.ok (.value v) w'):step P (lone fr cs w)=.next (lone (fr.finish v) cs w'):=
 dK hm (by rw[yI ht ho hw hd];simp[stepG.apply,h,G1])
theorem adx(hm:fr.mode=.run)(ht:fr.todo=.inRegion ops (i ::rest) ::k)(ho:ops[i]?=some o)(hw:Region.wanted o (yielded ops fr.tmps)=true)(hd:fr.roundOf=none∨eW o.op=false)
  (h:(Go.execOp fr.eval o).run P w=.ok .skip w'):step P (lone fr cs w)=.next (lone (fr.finish undef) cs w'):=
 dK hm (by rw[yI ht ho hw hd];simp[stepG.apply,h,G1])
theorem agu{f:FuncId}{args:Array Value}(hm:fr.mode=.run)(ht:fr.todo=.inRegion ops (i ::rest) ::k)(ho:ops[i]?=some o)(hw:Region.wanted o (yielded ops fr.tmps)=true)(hd:fr.roundOf=none∨eW o.op=false)
  (h:(Go.execOp fr.eval o).run P w=.ok (.enter f args) w'):step P (lone fr cs w)=.next (lone (Frame.enter P f args .normal) (fr ::cs) w'):=
 dK hm (by rw[yI ht ho hw hd];simp[stepG.apply,h,G1,ht])
theorem agv{l:Nat}{f:FuncId}{tmps:Array Value}{as bd:Code}(hm:fr.mode=.run)(ht:fr.todo=.inRegion ops (i ::rest) ::k)(ho:ops[i]?=some o)(hw:Region.wanted o (yielded ops fr.tmps)=true)(hd:fr.roundOf=none∨eW o.op=false)
  (h:(Go.execOp fr.eval o).run P w=.ok (.round l f tmps as bd) w'):step P (lone fr cs w)=.next (lone (Frame.round l f tmps as bd .normal) (fr ::cs) w'):=
 dK hm (by rw[yI ht ho hw hd];simp[stepG.apply,h,G1])
theorem agw{v:Value}(hm:fr.mode=.run)(ht:fr.todo=.inRegion ops (i ::rest) ::k)(ho:ops[i]?=some o)(hw:Region.wanted o (yielded ops fr.tmps)=true)(hd:fr.roundOf=none∨eW o.op=false)
  (h:(Go.execOp fr.eval o).run P w=.halt (.panic v) w'):step P (lone fr cs w)=.next (lone {fr with mode:=.panicking [{v,recovered:=false}]} cs w'):=
 dK hm (by rw[yI ht ho hw hd];simp[stepG.apply,h,G1,Frame.raise,hm])
theorem agx{d:Deferred}(hm:fr.mode=.run)(ht:fr.todo=.inRegion ops (i ::rest) ::k)(ho:ops[i]?=some o)(hw:Region.wanted o (yielded ops fr.tmps)=true)(hd:fr.roundOf=none∨eW o.op=false)
  (h:(Go.execOp fr.eval o).run P w=.ok (.defer d) w'):step P (lone fr cs w)=.next (lone ({fr with defers:=d ::fr.defers}.finish undef) cs w'):=
 dK hm (by rw[yI ht ho hw hd];simp[stepG.apply,h,G1])
theorem Ny{v:Value}{Gj:List Frame}(hm:fr.mode=.run)(ht:fr.todo=.inRegion ops (i ::rest) ::k)(ho:ops[i]?=some o)(hw:Region.wanted o (yielded ops fr.tmps)=true)(hr:fr.roundOf=none)
  (h:(Go.execOp fr.eval o).run P w=.ok .recover w') (Zf:tryRecover fr cs=some (v,Gj)):step P (lone fr cs w)=.next (lone (fr.finish v) Gj w'):=
 dK hm (by rw[yI ht ho hw (.inl hr)];simp[stepG.apply,h,G1,hr,Zf])
theorem Nz(hm:fr.mode=.run)(ht:fr.todo=.inRegion ops (i ::rest) ::k)(ho:ops[i]?=some o)(hw:Region.wanted o (yielded ops fr.tmps)=true)(hr:fr.roundOf=none)
  (h:(Go.execOp fr.eval o).run P w=.ok .recover w') (Zf:tryRecover fr cs=none):step P (lone fr cs w)=.next (lone (fr.finish .nilIface) cs w'):=
 dK hm (by rw[yI ht ho hw (.inl hr)];simp[stepG.apply,h,G1,hr,Zf])
end
section
variable{P:Program}{fr c:Frame}{cs:List Frame}{w w':World}{k:List Item}{fn:Func}
theorem aeY{v:Value}(hm:fr.mode=.returning)(hd:fr.defers=[])(hk:fr.kind=.normal)(hf:P.funcs[fr.fn]?=some fn)(hr:(results fn fr.tmps).run P w=.ok v w) :
  step P (lone fr (c ::cs) w)=.next (lone (c.finish v) cs w):=
 LZ (by simp[hm]) (by simp[unwind,hd,hm,hf,hr,doReturn,hk,G1])
theorem IQ{v:Value}(hm:fr.mode=.returning)(hd:fr.defers=[])(hk:fr.kind=.deferred)(hf:P.funcs[fr.fn]?=some fn)(hr:(results fn fr.tmps).run P w=.ok v w) :
  step P (lone fr (c ::cs) w)=.next (lone {c with mode:=settle c.mode} cs w):=
 step_going_returned (fr:=fr) hk ⟨hm,hd,fn,hf,hr⟩
theorem WQ{chain:List PanicEntry}(hm:fr.mode=.panicking chain)(hd:fr.defers=[])(hf:P.funcs[fr.fn]?=some fn) :
  step P (lone fr (c ::cs) w)=.next (lone (c.raise chain) cs w):=
 LZ (by simp[hm]) (by simp[unwind,hd,hm,Frame.catches,hf,G1])
theorem WO{d:Deferred}{ds:List Deferred}{fv:Fn}{cap args:Array Value}{f:FuncId}(hm:fr.mode≠.run)(hd:fr.defers=d ::ds)(ht:d.target=.fn fv cap)
  (hi:(invoke d.target d.args).run P w=.ok (.enter f args) w):step P (lone fr cs w)=.next (lone (Frame.enter P f args .deferred) ({fr with defers:=ds} ::cs) w):=
 step_defer hm hd ht hi
theorem UI{b:Nat}{ds zD:List Deferred}(hm:fr.mode≠.run)(hd:fr.defers=⟨.collected b,#[]⟩ ::ds)(h:(Instr.takeDeferred b).run P w=.ok zD w') :
  step P (lone fr cs w)=.next (lone {fr with defers:=zD++ds} cs w'):=
 LZ hm (by simp[unwind,hd,h,G1])
theorem Qm{l:Nat}{v:Value}(hm:fr.mode=.run)(ht:fr.todo=[])(hr:fr.roundOf=some l)(hk:fr.kind=.normal)(h:(Instr.endRound l none).run P w=.ok v w') :
  step P (lone fr (c ::cs) w)=.next (lone (c.finish v) cs w'):=
 dK hm (by simp[stepG.exec,ht,hr,h,doReturn,hk,G1])
theorem U9{l:Nat}{v:Value}(hm:fr.mode=.run)(ht:fr.todo=.code .ret ::k)(hr:fr.roundOf=some l)(hk:fr.kind=.normal)(h:(Instr.endRound l (some .ret)).run P w=.ok v w') :
  step P (lone fr (c ::cs) w)=.next (lone (c.finish v) cs w'):=
 dK hm (by simp[stepG.exec,ht,hr,h,doReturn,hk,G1])
theorem Sb{l id:Nat}{v:Value}(hm:fr.mode=.run)(ht:fr.todo=.code (.exit id) ::k)(he:exitTo id k=none)(hr:fr.roundOf=some l)(hk:fr.kind=.normal)(h:(Instr.endRound l (some (.exit id))).run P w=.ok v w') :
  step P (lone fr (c ::cs) w)=.next (lone (c.finish v) cs w'):=
 dK hm (by simp[stepG.exec,ht,he,hr,h,doReturn,hk,G1])
theorem RF{l:Nat}(hm:fr.mode=.run)(ht:fr.todo=.beginRound ::k)(hr:fr.roundOf=some l)(h:(Instr.beginRound l).run P w=.ok () w') :
  step P (lone fr cs w)=.next (lone {fr with todo:=k} cs w'):=
 dK hm (by simp[stepG.exec,ht,hr,stepG.apply,h,G1,Frame.finish])
theorem aio{l:Nat}{j:Option Code}(hm:fr.mode=.run)(ht:fr.todo=.endRangeFunc l ::k)(h:(Instr.endLoop l).run P w=.ok j w') :
  step P (lone fr cs w)=.next (lone {fr with todo:=(j.map Item.code).toList++k} cs w'):=
 dK hm (by simp[stepG.exec,ht,h,G1])
theorem am7 (ev : Operand → Value) {f : Operand} {g : FuncId} {first cap : Array Value} (hev : ev f = .func (.func g) first cap) {y : Value} (hy : ev (.const y) = y) {fn' : Func} (hf : P.funcs[g]? = some fn') (hb : fn'.body.isSome = true) (hn : fn'.name ≠ "runtime.NumGoroutine") :
  (do let d ←resolve ev {callee:=.value f,args:=#[.const y],argTypes:=#[]} 0;invoke d.target d.args:Sem Next).run P w=.ok (.enter g (first ++ #[y]++cap)) w:=by
 simp[resolve,hev,Deferred.ofValue,invoke,hy,pK hf hb hn]
theorem Va{f:Operand}{params:Array Tmp}{as bd:Code}{l:Nat}{mk:List Deferred}{w1:World}{g:FuncId}{first cap:Array Value}{fn':Func}(hm:fr.mode=.run)(ht:fr.todo=.code (.rangeFunc f params as bd) ::k)(hr:fr.roundOf=none)
  (h:(Instr.enterLoop fr.fn fr.tmps params as bd none).run P w=.ok (l,mk) w1) (hev:fr.eval f=.func (.func g) first cap)
  (hf : P.funcs[g]? = some fn') (hb : fn'.body.isSome = true) (hn : fn'.name ≠ "runtime.NumGoroutine") :
  step P (lone fr cs w)=.next (lone (Frame.enter P g (first ++ #[.func (.yield l) #[] #[]]++cap) .normal) ({fr with todo:=.inRangeFunc l ::k,defers:=mk++fr.defers} ::cs) w1):=by
 obtain⟨fn0,apd,aHZ,adP,aH0,ape,aDN⟩:=fr;simp only at hm ht hr h hev;subst hm ht hr;refine dK rfl ?_;have aDO:({fn:=fn0,tmps:=apd,todo:=Item.inRangeFunc l ::k,defers:=mk++adP,mode:=.run,kind:=ape}:Frame).eval f=.func (.func g) first cap:=by rw[←hev];cases f<;>rfl
 have Nw:=am7 (w:=w1) ({fn:=fn0,tmps:=apd,todo:=Item.inRangeFunc l ::k,defers:=mk++adP,mode:=.run,kind:=ape}:Frame).eval aDO (y:=.func (.yield l) #[] #[]) rfl hf hb hn;simp only[stepG.exec,Sem.runT_eq,h,GStep.bare_after];simp only[stepG.apply,Sem.runT_eq,Nw,GStep.bare_after];simp[G1]
end
structure SG(P:Program)(nt:Nat)(ops:Array Oper)(pl:List ay)(bf:List Nat):Prop where
 qX:mu P nt ops (List.range ops.size)=some pl
 an3:Oe ops bf=true
 au3:TL ops bf=true
section
variable{P:Program}{ρ:Nat→Int}{nt:Nat}{ops:Array Oper}{pl:List ay}{bf:List Nat}
theorem IC:∀{l:List Nat} {pl:List ay},mu P nt ops l=some pl→pl.length=l.length∧∀(q i:Nat),l[q]?=some i→∃o po,ops[i]?=some o∧Me P nt ops o=some po∧pl[q]?=some po
 | [],pl,h=>by simp only[mu,dI]at h;subst h;exact⟨rfl,fun q i hq=>by simp at hq⟩
 |j ::l,pl,h=>by
  simp only[mu]at h;split at h
  ·cases h
  ·rename_i o ho;split at h
   ·rename_i a r h1 h2;cases h;obtain⟨e1,e2⟩:=IC h2;refine⟨by simp[e1],fun q i hq=>?_⟩;cases q with
    |zero=>simp at hq;subst hq;exact⟨o,a,ho,h1,by simp⟩
    |succ q=>simpa using e2 q i (by simpa using hq)
   ·cases h
theorem SG.at(R:SG P nt ops pl bf){i:Nat}(hi:i<ops.size):∃o po,ops[i]?=some o∧Me P nt ops o=some po∧pl[i]?=some po:=by obtain⟨_,h⟩:=IC R.qX;exact h i i (by simp[hi])
theorem SG.at'(R:SG P nt ops pl bf){i:Nat}{po:ay}(h:pl[i]?=some po):i<ops.size:=by
 obtain⟨h1,_⟩:=IC R.qX;rcases Jy i ops.size with h'|h'
 ·exact h'
 ·rw[zqo (by rw[h1];simpa using h')]at h;cases h
theorem SG.au4(R:SG P nt ops pl bf){i:Nat}{o:Oper}(ho:ops[i]?=some o){e:Edge}(he:e∈o.after.toList)(hb:Region.binds .any e=true):e.on<i∧hasB (fA bf i) e.on=true:=by
 have hi:i<ops.size:=by
  rcases Jy i ops.size with h'|h'
  ·exact h'
  ·rw[VY h']at ho;cases ho
 have h:=R.an3;unfold Oe at h;rw[vJ]at h;have h:=h i (by simpa using hi);rw[ho]at h;simp only[kO,vJ]at h;have h:=h.1 e he;simp only[hb,Bool.not_true,Bool.false_or,kO,bltN_eq,decide_eq_true_eq]at h;exact h
theorem SG.down(R:SG P nt ops pl bf):Lf ops:=fun _ _ ho _ he hb=>(R.au4 ho he hb).1
theorem SG.pred(R:SG P nt ops pl bf){i:Nat}{o:Oper}(ho:ops[i]?=some o){j:Nat}(hj:j<ops.size)(hb:hasB (fA bf i) j=true) :
  ∃e∈o.after.toList,Region.binds .any e=true∧(e.on=j∨hasB (fA bf e.on) j=true):=by
 have hi:i<ops.size:=by
  rcases Jy i ops.size with h'|h'
  ·exact h'
  ·rw[VY h']at ho;cases ho
 have h:=R.an3;unfold Oe at h;rw[vJ]at h;have h:=h i (by simpa using hi);rw[ho]at h;simp only[kO,vJ]at h;have h:=h.2 j (by simpa using hj);simp only[hb,Bool.not_true,Bool.false_or,List.any_eq_true,kO,Bool.or_eq_true,beqN_eq,decide_eq_true_eq]at h;exact h
def Zn(ops:Array Oper)(D:Nat→Bool):Prop:=∀(i:Nat) (o:Oper),D i=true→ops[i]?=some o→∀e∈o.after.toList,Region.binds .any e=true→D e.on=true
theorem SG.closed(R:SG P nt ops pl bf){D:Nat→Bool}(hD:Zn ops D):∀(i:Nat) (o:Oper),ops[i]?=some o→(∀e∈o.after.toList,Region.binds .any e=true→D e.on=true)→∀j,j<ops.size→hasB (fA bf i) j=true→D j=true:=by
 intro i
 induction i using Nat.strongRecOn with
 |_ i ih=>
  intro o ho hp j hj hb;obtain⟨e,he,heb,Zo⟩:=R.pred ho hj hb;have bY:=(R.au4 ho he heb).1;have hi:i<ops.size:=by
   rcases Jy i ops.size with h'|h'
   ·exact h'
   ·rw[VY h']at ho;cases ho
  rcases Zo with h|h
  ·rw[←h];exact hp e he heb
  ·have T0:ops[e.on]?=some ops[e.on]:=by
    have:e.on<ops.size:=by omega
    simp[this]
   exact ih e.on bY _ T0 (fun e' he' gx=>hD e.on _ (hp e he heb) T0 e' he' gx) j hj h
theorem SG.slot(R:SG P nt ops pl bf){i j t:Nat}{o:Oper}(ho:ops[i]?=some o)(hj:mv ops j=some t) :
  (i=j→t∉kT ops o)∧(i≠j→o.dst≠some t∧(t∈kT ops o→hasB (fA bf i) j=true∨hasB (fA bf j) i=true)):=by
 have hi:i<ops.size:=by
  rcases Jy i ops.size with h'|h'
  ·exact h'
  ·rw[VY h']at ho;cases ho
 have bG:j<ops.size:=by
  rcases Jy j ops.size with h'|h'
  ·exact h'
  ·simp[mv,VY h']at hj
 have h:=R.au3;unfold TL at h;rw[vJ]at h;have h:=h i (by simpa using hi);rw[ho]at h;simp only[vJ]at h;have h:=h j (by simpa using bG);rw[hj]at h;simp only[beqN_eq]at h;constructor
 ·rintro rfl;simpa using h
 ·intro bU;simp only[bU,decide_false,cond_false,kO,Bool.not_eq_true',Bool.or_eq_true]at h;refine⟨by simpa using h.1,fun hm=>?_⟩;have h2:=h.2;have hc:(kT ops o).contains t=true:=by simpa using hm
  rw[hc]at h2;simpa using h2
theorem Zp{j t:Nat}(hj:mv ops j=some t):∃o,ops[j]?=some o∧o.dst=some t:=by
 unfold mv at hj;cases h:ops[j]? with
 |none=>rw[h]at hj;cases hj
 |some o=>rw[h]at hj;exact⟨o,rfl,by simpa using hj⟩
theorem SG.Oi(R:SG P nt ops pl bf){i j t:Nat}(hi:mv ops i=some t)(hj:mv ops j=some t):i=j:=by
 rcases Nat.decEq i j with bU|h
 ·obtain⟨o,ho,hd⟩:=Zp hi;exact absurd hd ((R.slot ho hj).2 bU).1
 ·exact h
end
theorem Jz(m i j:Nat):hasB (Jm m i) j=(hasB m j||decide (i=j)):=by unfold hasB Jm;rw[Nat.testBit_or,Nat.testBit_two_pow]
theorem Gm(j:Nat):hasB 0 j=false:=by simp[hasB]
theorem Gn{n a b:Nat}:Zb n a b=true↔∀j,j<n→hasB a j=true→hasB b j=true:=by
 unfold Zb;rw[vJ];constructor
 ·intro h j hj ha;have:=h j (by simpa using hj);simpa[ha]using this
 ·intro h j hj;have hj:j<n:=by simpa using hj
  cases ha:hasB a j with
  |false=>rfl
  |true=>simpa using h j hj ha
theorem nY{nt i:Nat}{k:Key}(h:Ha nt i=some k):k.toNat=i∧i<nt:=by unfold Ha at h;replace h:=aQ h;obtain⟨hc,h⟩:=h;simp only[dI]at h;subst h;simp only[kO,bltN_eq,decide_eq_true_eq]at hc;exact⟨o9 hc.2,hc.1⟩
theorem ic{P:Program}{nt:Nat}{ops:Array Oper}{o:Oper}{po:ay}(h:Me P nt ops o=some po) :
  jh P nt o=some po.op∧OB nt ops o.guard=some po.guard∧((o.dst=none∧po.dst=none)∨∃k,o.dst=some k.toNat∧po.dst=some k∧k.toNat<nt):=by
 unfold Me at h;split at h
 ·rename_i op g h1 h2;split at h
  ·rename_i hd;cases h;exact⟨h1,h2,.inl ⟨hd,rfl⟩⟩
  ·rename_i d hd;split at h
   ·rename_i k hk;cases h;obtain⟨e,bY⟩:=nY hk;exact⟨h1,h2,.inr ⟨k,by rw[e];exact hd,rfl,by omega⟩⟩
   ·cases h
 ·cases h
noncomputable def cZ(p:List (Nat×Key×ah))(h:T ah):T ah:=p.foldl (fun h x=>av x.2.1 (some x.2.2) h) h
theorem FW{R:Type}:∀(p:List (Nat×Key×ah)) (h:T ah) (c:T ah→R),EL p h c=c (cZ p h)
 | [],h,c=>rfl
 |x ::p,h,c=>by show vU x.2.1 (some x.2.2) h (fun h=>EL p h c)=_;rw[sTCe,FW p];rfl
theorem w8{R:Type}(l:List Nat):∀(p:List (Nat×Key×ah)) (h:T ah) (c:List (Nat×Key×ah)→T ah→R),Eg l p h c=c (p.filter fun x=>!(memN x.1 l)) (cZ (p.filter fun x=>memN x.1 l) h)
 | [],h,c=>rfl
 |x ::p,h,c=>by
  show(bif memN x.1 l then vU x.2.1 (some x.2.2) h (fun h=>Eg l p h c)else Eg l p h fun p h=>c (x ::p) h)=_;cases hm:memN x.1 l with
  |true=>simp only[cond_true,sTCe,w8 l p,List.filter_cons,hm,Bool.not_true,SH,if_false,if_true];rfl
  |false=>simp only[cond_false,w8 l p,List.filter_cons,hm,Bool.not_false,SH,if_false,if_true]
theorem KG{i:Nat}:∀{l:List Nat},memN i l=true→i∈l
 | [],h=>by cases h
 |j ::l,h=>by
  simp only[memN]at h;cases hb:Nat.beq i j with
  |true=>have:=o9 hb;simp[this]
  |false=>rw[hb]at h;exact List.mem_cons_of_mem _ (KG h)
theorem QD:∀{p:List (Nat×Key×ah)} {h:T ah} {b:Key} {B:ah},ae b (cZ p h)=some B→ae b h=some B∨∃x∈p,x.2.1=b∧x.2.2=B
 | [],_,_,_,e=>.inl e
 |x ::p,h,b,B,e=>by
  rcases QD (p:=p) e with h1|⟨y,h1,h2⟩
  ·by_cases hb:b=x.2.1
   ·subst hb;rw[gTSm]at h1;cases h1;exact .inr ⟨x,by simp,rfl,rfl⟩
   ·rw[aR _ _ _ _ hb]at h1;exact .inl h1
  ·exact .inr ⟨y,List.mem_cons_of_mem _ h1,h2⟩
theorem afT{l:List Nat}{aq:List (Nat×Key×ah)}{h:T ah}{b:Key}{B:ah}(e:ae b (wE l aq h)=some B):ae b h=some B∨∃j,(j,b,B)∈aq∧j∈l:=by
 unfold wE at e;split at e
 ·exact .inl e
 ·rw[w8]at e;rcases QD e with h1|⟨⟨j,k,B'⟩,h1,h2,h3⟩
  ·exact .inl h1
  ·obtain⟨h4,h5⟩:=List.mem_filter.1 h1;simp only at h2 h3;subst h2 h3;exact .inr ⟨j,h4,KG h5⟩
theorem YP{bf:List Nat}:∀{jj:List (Nat×List Nat)},zH bf jj=true→∀i j,j∈DV i jj→hasB (fA bf i) j=true
 | [],_,i,j,h=>by cases h
 |(q,l) ::r,ha,i,j,h=>by
  simp only[zH,kO,vJ]at ha;simp only[DV]at h;cases hb:Nat.beq i q with
  |true=>rw[hb]at h;have:=o9 hb;subst this;exact ha.1 j h
  |false=>rw[hb]at h;exact YP ha.2 i j h
def VOk(bf:List Nat)(H:T ah)(aq:List (Nat×Key×ah))(i:Nat)(V:T ah):Prop:=∀b B,ae b V=some B→ae b H=some B∨∃j,(j,b,B)∈aq∧hasB (fA bf i) j=true
theorem VOk.refl(bf:List Nat)(H:T ah)(aq:List (Nat×Key×ah))(i:Nat):VOk bf H aq i H:=fun _ _ h=>.inl h
theorem VOk.view{bf:List Nat}{jj:List (Nat×List Nat)}(ha:zH bf jj=true)(H:T ah)(aq:List (Nat×Key×ah))(i:Nat):VOk bf H aq i (wE (DV i jj) aq H):=by
 intro b B e;rcases afT e with h|⟨j,h1,h2⟩
 ·exact .inl h
 ·exact .inr ⟨j,h1,YP ha i j h2⟩
structure Gh where
 L:Nat
 D:Nat→Bool
 a0:Key→Option AV
 val:Nat→Option AV
section
variable(P:Program)(ρ:Nat→Int)(orc:iG)(nt:Nat)(ops:Array Oper)(pl:List ay)(bf:List Nat)
def Vq(g:Gh)(i:Nat)(k:Key)(a:AV):Prop:=
 (∃j,mv ops j=some k.toNat∧hasB (fA bf i) j=true∧g.val j=some a)∨((∀j,mv ops j=some k.toNat→hasB (fA bf j) i=true)∧g.a0 k=some a)
def Xb(g:Gh)(i:Nat)(lW:T AV):Prop:=∀o,ops[i]?=some o→∀(k:Key) a,k.toNat∈kT ops o→ae k lW=some a→Vq ops bf g i k a
inductive wZ(H:T ah)(g:Gh)(aq:List (Nat×Key×ah))(CY:Nat→Prop)(i:Nat):Prop
 |skip (po:ay) (lW:T AV) (h1:pl[i]?=some po) (h2:Xb ops bf g i lW) (h3:cq po.guard lW=some false) (h4:g.val i=some (.tuple [])) (h5:∀x∈aq,x.1≠i):wZ H g aq CY i
 |light (po:ay) (lW:T AV) (v:AV) (h1:pl[i]?=some po) (h2:Xb ops bf g i lW) (h3:cq po.guard lW=some true) (hk:qW pl i=0) (h4:¬CY i→∃V,lightOp orc po.op lW V=some v∧VOk bf H aq i V) (h5:g.val i=some v)
   (h6:∀x∈aq,x.1≠i):wZ H g aq CY i
 |alloc (po:ay) (lW:T AV) (f:Key→AV) (B:ah) (k:Key) (h1:pl[i]?=some po) (h2:Xb ops bf g i lW) (h3:cq po.guard lW=some true) (hk:qW pl i=1) (h4:allocOp po.op lW=some (f,B))
   (h5:g.val i=some (f k)) (h6:(i,k,B)∈aq):wZ H g aq CY i
structure fZ(μ:Mu)(G:Key→Option ah)(H:T ah)(nx:Key)(g:Gh)(CY:Nat→Prop)(aq:List (Nat×Key×ah))(tm:T AV)(tmps:Array Value)(rest:List Nat):Prop where
 Ov:SG P nt ops pl bf
 ord:N1 ops g.D rest
 cl:Zn ops g.D
 sub:∀i,g.D i=true→hasB g.L i=true
 IT:∀i,hasB g.L i=true→i<ops.size
 lcl:∀i,hasB g.L i=true→∀j,j<ops.size→hasB (fA bf i) j=true→hasB g.L j=true
 a1:∀(k:Key) j,hasB g.L j=true→mv ops j=some k.toNat→ae k tm=g.val j
 a2:∀(k:Key),(∀j,hasB g.L j=true→mv ops j≠some k.toNat)→ae k tm=g.a0 k
 sz:nt≤tmps.size
 c1:∀(k:Key) j a,g.D j=true→mv ops j=some k.toNat→g.val j=some a→∃v,tmps[k.toNat]?=some v∧aS ρ μ a v
 c2:∀(k:Key) a,(∀j,g.D j=true→mv ops j≠some k.toNat)→g.a0 k=some a→∃v,tmps[k.toNat]?=some v∧aS ρ μ a v
 pd:∀i,hasB g.L i=true→g.D i=false→wZ orc ops pl bf H g aq CY i
 pe:∀x∈aq,hasB g.L x.1=true∧(g.D x.1=true→G x.2.1=some x.2.2)∧(g.D x.1=false→μ x.2.1=none∧G x.2.1=none)∧ae x.2.1 H=none∧x.2.1.toNat<nx.toNat
 nk:(aq.map (·.2.1.toNat)).Nodup
 ni:(aq.map (·.1)).Nodup
end
section
variable{P:Program}{ρ:Nat→Int}{orc:iG}{nt:Nat}{ops:Array Oper}{pl:List ay}{bf:List Nat}{w0:W0}{w:World}{μ:Mu}{G:Key→Option ah}{H:T ah}{nx:Key}{g:Gh}{CY:Nat→Prop}{aq:List (Nat×Key×ah)}{tm:T AV}{rest:List Nat}{fr:Frame}{cs:List Frame}{K:List Item}
theorem aec(hM:aZ P ρ w0 μ G nx.toNat w){x:Operand}{px:PX}{a:AV}{lW:T AV}(hp:pX P nt x=some px)(ha:px.at lW=some a)
  (ht:∀t k,x=.tmp t→k.toNat=t→ae k lW=some a→∃v,fr.tmps[t]?=some v∧aS ρ μ a v):aS ρ μ a (fr.eval x):=by
 cases x with
 |tmp t=>
  simp only[pX]at hp;split at hp
  ·rename_i k hk;cases hp;obtain⟨v,hv,hr⟩:=ht t k rfl (nY hk).1 ha;have:fr.eval (.tmp t)=v:=by simp[Frame.eval,Array.getD_eq_getD_getElem?,hv]
   rw[this];exact hr
  ·cases hp
 |const v=>
  simp only[pX]at hp;split at hp
  ·rename_i b hb;cases hp;simp only[PX.at,dI]at ha;subst ha;exact gO _ _ _ hb
  ·cases hp
 |global gl=>
  simp only[pX]at hp;split at hp
  ·rename_i k hk;cases hp;simp only[PX.at,dI]at ha;subst ha;obtain⟨e,bY⟩:=nY hk;obtain⟨ext,he⟩:=hM.NG k (by omega);exact .ptr _ _ _ _ he (by simp[e])
  ·cases hp
 |func f=>simp only[pX,dI]at hp;subst hp;simp only[PX.at,dI]at ha;subst ha;exact .fn _ _ _ _ _ .nil .nil
theorem Gk(hM:aZ P ρ w0 μ G nx.toNat w){o:Oper}{lW:T AV}(ht:∀(k:Key) a,k.toNat∈kT ops o→ae k lW=some a→∃v,fr.tmps[k.toNat]?=some v∧aS ρ μ a v) :
  zK P ρ μ nt o.op.operands.toList lW fr.eval:=by
 intro x hx px a hp ha;refine aec hM hp ha fun t k hxt hkt hg=>?_;subst hxt;rw[←hkt];refine ht k a ?_ hg;unfold kT;rw[List.mem_append,List.mem_filterMap];exact .inl ⟨_,hx,by rw[hkt]⟩
theorem AB{o:Oper}{gd:Option (Key×Bool)}(hg:OB nt ops o.guard=some gd){lW:T AV}{tmps:Array Value}(ht:∀(k:Key) a,k.toNat∈kT ops o→ae k lW=some a→∃v,tmps[k.toNat]?=some v∧aS ρ μ a v)
  {b:Bool} (hw:cq gd lW=some b):Region.wanted o (yielded ops tmps)=b:=by
 cases TQ:o.guard with
 |none=>rw[TQ]at hg;simp only[OB,dI]at hg;subst hg;simp only[cq,dI]at hw;simp[Region.wanted,TQ,hw]
 |some p=>
  obtain⟨j,want⟩:=p;rw[TQ]at hg;simp only[OB]at hg;split at hg
  ·rename_i oj hoj;split at hg
   ·rename_i d hd;split at hg
    ·rename_i k hk;cases hg;obtain⟨e,_⟩:=nY hk;have nR:k.toNat∈kT ops o:=by unfold kT;rw[List.mem_append,TQ,e];right;simp[hoj,hd]
     simp only[cq]at hw;split at hw
     ·rename_i b' gx;cases hw;obtain⟨v,hv,hr⟩:=ht k _ nR gx;cases hr;rw[e]at hv;simp only[Region.wanted,TQ,yielded,hoj,Option.bind_some,hd,hv];cases b'<;>cases want<;>rfl
     ·rename_i gx;cases hw;obtain⟨v,hv,hr⟩:=ht k _ nR gx;cases hr with|tuple _ vs hvs=>
      rw[e]at hv;simp only[Region.wanted,TQ,yielded,hoj,Option.bind_some,hd,hv];cases want<;>rfl
     ·cases hw
    ·cases hg
   ·cases hg
  ·cases hg
end
section
variable{P:Program}{ρ:Nat→Int}{orc:iG}{nt:Nat}{ops:Array Oper}{pl:List ay}{bf:List Nat}{w0:W0}{w:World}{μ μ':Mu}{G G':Key→Option ah}{H:T ah}{nx:Key}{g:Gh}{CY:Nat→Prop}{aq:List (Nat×Key×ah)}{tm:T AV}{tmps:Array Value}{rest:List Nat}{fr:Frame}{cs:List Frame}{K:List Item}{i:Nat}
theorem fZ.ready(S:fZ P ρ orc nt ops pl bf μ G H nx g CY aq tm tmps (i ::rest)) :
  i<ops.size∧g.D i=false∧(∀j,j<ops.size→hasB (fA bf i) j=true→g.D j=true):=by
 obtain⟨h1,h2,h3,_⟩:=S.ord;exact⟨h1,h2,fun j hj hb=>S.Ov.closed S.cl i ops[i] (by simp[h1]) (fun e he vz=>h3 _ (by simp[h1]) e he vz) j hj hb⟩
theorem LO{j t:Nat}(h:mv ops j=some t):j<ops.size:=by
 obtain⟨o,ho,_⟩:=Zp h;rcases Jy j ops.size with h'|h'
 ·exact h'
 ·rw[VY h']at ho;cases ho
theorem fZ.Kh(S:fZ P ρ orc nt ops pl bf μ G H nx g CY aq tm tmps (i ::rest)){lW:T AV}(ht:Xb ops bf g i lW){o:Oper}(ho:ops[i]?=some o) :
  ∀(k:Key) a,k.toNat∈kT ops o→ae k lW=some a→∃v,tmps[k.toNat]?=some v∧aS ρ μ a v:=by
 intro k a hk hg;obtain⟨h1,h2,h3⟩:=S.ready;rcases ht o ho k a hk hg with⟨j,hj,hb,hv⟩|⟨z6,ha⟩
 ·exact S.c1 k j a (h3 j (LO hj) hb) hj hv
 ·refine S.c2 k a (fun j hD hj=>?_) ha;have hb:=z6 j hj;obtain⟨oj,hoj,_⟩:=Zp hj;have:=S.Ov.closed S.cl j oj hoj (fun e he vz=>S.cl j oj hD hoj e he vz) i h1 hb;rw[h2]at this;cases this
def GP(d:Option Nat)(v:Value)(tmps:Array Value):Array Value:=match d with
 |some d=>tmps.setIfInBounds d v
 |none=>tmps
theorem cv{o:Oper}(ht:fr.todo=.inRegion ops (i ::rest) ::K)(ho:ops[i]?=some o)(v:Value) :
  fr.finish v={fr with tmps:=GP o.dst v fr.tmps,todo:=.inRegion ops rest ::K}:=by
 simp only[Frame.finish,ht,ho,Option.bind_some,GP];cases o.dst<;>rfl
theorem Fq{o:Oper}{op:Ji}(hp:jh P nt o=some op)(hd:eW o.op=true):Jj op=true:=by
 obtain⟨dst,Gz,ty,pos,after,guard⟩:=o;cases Gz<;>first|(cases hd;done)|skip
 rename_i c;simp only[jh]at hp;split at hp
 ·split at hp
  ·cases hp;rfl
  ·cases hp
 ·cases hp
theorem Tq{po:ay}(h:pl[i]?=some po):qW pl i=(bif Jj po.op then 2 else bif Oc po.op then 1 else 0):=by simp[qW,h]
theorem adk{tmps:Array Value}{d:Option Nat}{v:Value}(t:Nat)(h:∀x,d=some x→x<tmps.size) :
  (GP d v tmps)[t]?=if d=some t then some v else tmps[t]?:=by
 cases d with
 |none=>simp[GP]
 |some x=>
  have:=h x rfl;simp only[GP];by_cases e:x=t
  ·subst e;simp[this]
  ·rw[if_neg (by simpa using e),zqn e]
theorem fZ.done(S:fZ P ρ orc nt ops pl bf μ G H nx g CY aq tm tmps (i ::rest))(hm:μ.le μ'){o:Oper}(ho:ops[i]?=some o){a:AV}{v:Value}(hL:hasB g.L i=true)(NO:g.val i=some a)(hv:aS ρ μ' a v)
  (Tr:∀x∈aq,(x.1=i→G' x.2.1=some x.2.2)∧(x.1≠i→μ' x.2.1=μ x.2.1∧G' x.2.1=G x.2.1)) :
  fZ P ρ orc nt ops pl bf μ' G' H nx {g with D:=fun j=>g.D j||j==i} CY aq tm (GP o.dst v tmps) rest:=by
 obtain⟨hi,hDi,nC⟩:=S.ready;obtain⟨o',po,T0,TP,qX⟩:=S.Ov.at hi;rw[ho]at T0;cases T0;obtain⟨ki,TQ,BD⟩:=ic TP;have ash:∀x,o.dst=some x→x<tmps.size:=by
  intro x hx;rcases BD with⟨h,_⟩|⟨k,h,_,bY⟩
  ·rw[h]at hx;cases hx
  ·rw[h]at hx;cases hx;exact Lk bY S.sz
 have Y7:mv ops i=o.dst:=by simp[mv,ho]
 have DX:=fun t=>adk (v:=v) t ash;have aiR:(GP o.dst v tmps).size=tmps.size:=by cases o.dst<;>simp[GP]
 have Xc:∀j,((g.D j||j==i)=true)↔(g.D j=true∨j=i):=by intro j;simp
 refine⟨S.Ov,S.ord.2.2.2,?_,?_,S.IT,S.lcl,S.a1,S.a2,by rw[aiR];exact S.sz,?_,?_,?_,?_,S.nk,S.ni⟩
 ·intro j oj hj hoj e he hb;rcases (Xc j).1 hj with h|h
  ·exact(Xc _).2 (.inl (S.cl j oj h hoj e he hb))
  ·subst h;exact(Xc _).2 (.inl (S.ord.2.2.1 oj hoj e he hb))
 ·intro j hj;rcases (Xc j).1 hj with h|h
  ·exact S.sub j h
  ·subst h;exact hL
 ·intro k j b hj hjd hjv;rw[DX];rcases (Xc j).1 hj with h|h
  ·by_cases e:o.dst=some k.toNat
   ·have:i=j:=S.Ov.Oi (Y7.trans e) hjd;subst this;rw[hDi]at h;cases h
   ·rw[if_neg e];obtain⟨u,hu,hr⟩:=S.c1 k j b h hjd hjv;exact⟨u,hu,hr.mono hm⟩
  ·subst h;rw[Y7]at hjd;rw[if_pos hjd];have hjv:g.val j=some b:=hjv;rw[NO]at hjv;cases hjv;exact⟨v,rfl,hv⟩
 ·intro k b pF ha;rw[DX];have hni:o.dst≠some k.toNat:=by intro e;exact pF i ((Xc i).2 (.inr rfl)) (Y7.trans e)
  rw[if_neg hni];obtain⟨u,hu,hr⟩:=S.c2 k b (fun j hj=>pF j ((Xc j).2 (.inl hj))) ha;exact⟨u,hu,hr.mono hm⟩
 ·intro j hj hjD;have hjD:(g.D j||j==i)=false:=hjD;rw[Bool.or_eq_false_iff]at hjD;cases S.pd j hj hjD.1 with
  |skip po lW h1 h2 h3 h4 h5=>exact .skip po lW h1 h2 h3 h4 h5
  |light po lW v h1 h2 h3 hk h4 h5 h6=>exact .light po lW v h1 h2 h3 hk h4 h5 h6
  |alloc po lW f B k h1 h2 h3 hk h4 h5 h6=>exact .alloc po lW f B k h1 h2 h3 hk h4 h5 h6
 ·intro x hx;obtain⟨p1,p2,p3,p4,p5⟩:=S.pe x hx;obtain⟨q1,q2⟩:=Tr x hx;refine⟨p1,fun h=>?_,fun h=>?_,p4,p5⟩
  ·by_cases e:x.1=i
   ·exact q1 e
   ·rw[(q2 e).2];exact p2 (((Xc _).1 h).resolve_right e)
  ·have h:(g.D x.1||x.1==i)=false:=h;rw[Bool.or_eq_false_iff]at h;have e:x.1≠i:=by simpa using h.2
   rw[(q2 e).1,(q2 e).2];exact p3 h.1
theorem UP(hM:aZ P ρ w0 μ G nx.toNat w)(hH:HSub H G)(ho:ep ρ orc)(S:fZ P ρ orc nt ops pl bf μ G H nx g CY aq tm fr.tmps (i ::rest))(hL:hasB g.L i=true)(hu:¬CY i)
  (hm:fr.mode=.run) (ht:fr.todo=.inRegion ops (i ::rest) ::K) :
  ∃dL w' μ' G',step P (lone fr cs w)=.next (lone {fr with tmps:=dL,todo:=.inRegion ops rest ::K} cs w')∧μ.le μ'∧aZ P ρ w0 μ' G' nx.toNat w'∧HSub H G'∧
   fZ P ρ orc nt ops pl bf μ' G' H nx {g with D:=fun j=>g.D j||j==i} CY aq tm dL rest∧(∀b,(∀x∈aq,x.2.1≠b)→μ' b=μ b∧G' b=G b):=by
 obtain⟨hi,hDi,nC⟩:=S.ready;obtain⟨o,po,ki,TP,qX⟩:=S.Ov.at hi;obtain⟨hp,TQ,BD⟩:=ic TP;cases S.pd i hL hDi with
 |skip RN lW h1 h2 h3 h4 h5=>rw[qX]at h1;cases h1;have hs:=S.Kh h2 ki;have hw:=AB TQ hs h3;have C4:=IU (P:=P) (cs:=cs) (w:=w) hm ht ki hw;rw[cv ht ki]at C4;refine⟨_,w,μ,G,C4,μ.le_refl,hM,hH,?_,fun b _=>⟨rfl,rfl⟩⟩;refine S.done μ.le_refl ki hL h4 (v:=undef) (.tuple _ _ .nil) ?_;intro x hx;exact⟨fun e=>absurd e (h5 x hx),fun _=>⟨rfl,rfl⟩⟩
 |light RN lW v h1 h2 h3 hk h4 h5 h6=>
  rw[qX]at h1;cases h1;have hs:=S.Kh h2 ki;have hw:=AB TQ hs h3;obtain⟨V,hlV,hV⟩:=h4 hu;have hVG:HSub V G:=by
   intro b B hb;rcases hV b B hb with h|⟨j,h1,h2⟩
   ·exact hH b B h
   ·obtain⟨p1,p2,_⟩:=S.pe _ h1;exact p2 (nC j (S.IT j p1) h2)
  obtain⟨u,fC,hr⟩:=MR hM hVG ho hp (Gk hM hs) hlV;have Of:eW o.op=false:=by
   cases hd:eW o.op with
   |false=>rfl
   |true=>rw[Tq qX,Fq hp hd]at hk;cases hk
  have C4:=UQ (P:=P) (cs:=cs) hm ht ki hw (.inr Of) fC;rw[cv ht ki]at C4;refine⟨_,w,μ,G,C4,μ.le_refl,hM,hH,?_,fun b _=>⟨rfl,rfl⟩⟩;refine S.done μ.le_refl ki hL h5 hr ?_;intro x hx;exact⟨fun e=>absurd e (h6 x hx),fun _=>⟨rfl,rfl⟩⟩
 |alloc RN lW f B k h1 h2 h3 hk h4 h5 h6=>
  rw[qX]at h1;cases h1;have hs:=S.Kh h2 ki;have hw:=AB TQ hs h3;obtain⟨_,_,p3,p4,p5⟩:=S.pe _ h6;obtain⟨hmk,hgk⟩:=p3 hDi;obtain⟨u,w',l,fC,hle,hM',hr⟩:=MS hM hp (Gk hM hs) h4 hmk (nx':=nx.toNat) (fa _) p5;have Of:eW o.op=false:=by
   cases hd:eW o.op with
   |false=>rfl
   |true=>rw[Tq qX,Fq hp hd]at hk;cases hk
  have C4:=UQ (P:=P) (cs:=cs) hm ht ki hw (.inr Of) fC;rw[cv ht ki]at C4;refine⟨_,w',_,_,C4,hle,hM',?_,?_,?_⟩
  ·intro b B' hb;have:b≠k:=by intro e;subst e;rw[p4]at hb;cases hb
   rw[bE _ _ this];exact hH b B' hb
  ·refine S.done hle ki hL h5 hr ?_;intro x hx;constructor
   ·intro e;have:x=(i,k,B):=by
     have hni:=S.ni;have:=List.pairwise_iff_getElem.1 hni;obtain⟨p,hp',hpx⟩:=List.getElem_of_mem hx;obtain⟨q,hq,hqx⟩:=List.getElem_of_mem h6;rcases Nat.lt_trichotomy p q with hpq|hpq|hpq
     ·have:=this p q (by simpa using hp') (by simpa using hq) hpq;simp[hpx,hqx,e]at this
     ·subst hpq;rw[←hpx,←hqx]
     ·have:=this q p (by simpa using hq) (by simpa using hp') hpq;simp[hpx,hqx,e]at this
    subst this;exact eG _ _ _
   ·intro e;have bU:x.2.1≠k:=by
     intro HF;have hnk:=S.nk;have:=List.pairwise_iff_getElem.1 hnk;obtain⟨p,hp',hpx⟩:=List.getElem_of_mem hx;obtain⟨q,hq,hqx⟩:=List.getElem_of_mem h6;rcases Nat.lt_trichotomy p q with hpq|hpq|hpq
     ·have:=this p q (by simpa using hp') (by simpa using hq) hpq;simp[hpx,hqx,HF]at this
     ·subst hpq;rw[hpx]at hqx;subst hqx;exact e rfl
     ·have:=this q p (by simpa using hq) (by simpa using hp') hpq;simp[hpx,hqx,HF]at this
    exact⟨bE _ _ bU,bE _ _ bU⟩
  ·intro b hb;have:b≠k:=fun e=>hb _ h6 e.symm;exact⟨bE _ _ this,bE _ _ this⟩
end
theorem KD(orc:iG)(op:Ji)(tm:T AV)(H H':T ah)(h:K7 op=false):lightOp orc op tm H=lightOp orc op tm H':=by cases op<;>first|(cases h;done)|rfl
section
variable{P:Program}{ρ:Nat→Int}{orc:iG}{nt:Nat}{ops:Array Oper}{pl:List ay}{bf:List Nat}{w0:W0}{w:World}{μ μ':Mu}{G G':Key→Option ah}{H H':T ah}{nx nx':Key}{g:Gh}{CY axF:Nat→Prop}{aq pend':List (Nat×Key×ah)}{tm:T AV}{tmps:Array Value}{rest:List Nat}{fr:Frame}{cs:List Frame}{K:List Item}{i:Nat}
theorem fZ.ako(S:fZ P ρ orc nt ops pl bf μ G H nx g CY aq tm tmps rest)(hi:i<ops.size)(hL:hasB g.L i=false)(hb:∀j,j<ops.size→hasB (fA bf i) j=true→hasB g.L j=true):Xb ops bf g i tm:=by
 intro o ho k a hk ha;by_cases h:∃j,hasB g.L j=true∧mv ops j=some k.toNat
 ·obtain⟨j,hj,hd⟩:=h;left;refine⟨j,hd,?_,by rw[←S.a1 k j hj hd];exact ha⟩;have bU:i≠j:=by intro e;subst e;rw[hL]at hj;cases hj
  rcases ((S.Ov.slot ho hd).2 bU).2 hk with h|h
  ·exact h
  ·have:=S.lcl j hj i hi h;rw[hL]at this;cases this
 ·right;have h:∀j,hasB g.L j=true→mv ops j≠some k.toNat:=fun j hj hd=>h ⟨j,hj,hd⟩;refine⟨fun j hd=>?_,by rw[←S.a2 k h];exact ha⟩;by_cases bU:i=j
  ·subst bU;exact absurd hk ((S.Ov.slot ho hd).1 rfl)
  ·rcases ((S.Ov.slot ho hd).2 bU).2 hk with gx|gx
   ·exact absurd hd (h j (hb j (LO hd) gx))
   ·exact gx
def xS(f:Nat→Option AV)(i:Nat)(x:Option AV):Nat→Option AV:=fun j=>if j=i then x else f j
theorem YN{x:Option AV}{L':Nat}{D':Nat→Bool}{p:Nat}{k:Key}{a:AV}(hp:hasB (fA bf p) i=false)(h:Vq ops bf g p k a):Vq ops bf {L:=L',D:=D',a0:=g.a0,val:=xS g.val i x} p k a:=by
 rcases h with⟨j,h1,h2,h3⟩|⟨h1,h2⟩
 ·left;refine⟨j,h1,h2,?_⟩;have:j≠i:=by intro e;subst e;rw[hp]at h2;cases h2
  simpa[xS,this]using h3
 ·exact .inr ⟨h1,h2⟩
theorem xA{x:Option AV}{L':Nat}{D':Nat→Bool}{p:Nat}{lW:T AV}(hp:hasB (fA bf p) i=false)(h:Xb ops bf g p lW):Xb ops bf {L:=L',D:=D',a0:=g.a0,val:=xS g.val i x} p lW:=
 fun o ho k a hk hg=>YN hp (h o ho k a hk hg)
theorem wZ.lF{x:Option AV}{L':Nat}{D':Nat→Bool}{p:Nat}(hp:hasB (fA bf p) i=false)(bU:p≠i)(QB:∀y∈aq,y∈pend')(Vr:∀y∈pend',y∈aq∨y.1=i)(h:wZ orc ops pl bf H g aq CY p) :
  wZ orc ops pl bf H {L:=L',D:=D',a0:=g.a0,val:=xS g.val i x} pend' CY p:=by
 have hv:∀v,g.val p=some v→xS g.val i x p=some v:=by intro v hv;simpa[xS,bU]using hv
 have hq:(∀y∈aq,y.1≠p)→∀y∈pend',y.1≠p:=by
  intro hh y hy;rcases Vr y hy with h|h
  ·exact hh y h
  ·rw[h];exact fun e=>bU e.symm
 cases h with
 |skip po lW h1 h2 h3 h4 h5=>exact .skip po lW h1 (xA hp h2) h3 (hv _ h4) (hq h5)
 |light po lW v h1 h2 h3 hk h4 h5 h6=>
  refine .light po lW v h1 (xA hp h2) h3 hk (fun hu=>?_) (hv _ h5) (hq h6);obtain⟨V,a1,a2⟩:=h4 hu;refine⟨V,a1,fun b B hb=>?_⟩;rcases a2 b B hb with h|⟨j,h,h'⟩
  ·exact .inl h
  ·exact .inr ⟨j,QB _ h,h'⟩
 |alloc po lW f B k h1 h2 h3 hk h4 h5 h6=>exact .alloc po lW f B k h1 (xA hp h2) h3 hk h4 (hv _ h5) (QB _ h6)
noncomputable def bN(d:Option Key)(v:AV)(tm:T AV):T AV:=match d with
 |none=>tm
 |some k=>av k (some v) tm
theorem ew{R:Type}(d:Option Key)(v:AV)(tm:T AV)(c:T AV→R):wD d (some v) tm c=c (bN d v tm):=by
 cases d with
 |none=>rfl
 |some k=>simp only[wD,bN,sTCe]
theorem fZ.add(S:fZ P ρ orc nt ops pl bf μ G H nx g CY aq tm tmps rest){po:ay}(qX:pl[i]?=some po)(hL:hasB g.L i=false)(hb:∀j,j<ops.size→hasB (fA bf i) j=true→hasB g.L j=true)
  {v:AV} (QB:∀y∈aq,y∈pend') (Vr:∀y∈pend',y∈aq∨y.1=i)
  (sO:wZ orc ops pl bf H {L:=Jm g.L i,D:=g.D,a0:=g.a0,val:=xS g.val i (some v)} pend' CY i)
  (Tr:∀y∈pend',y∉aq→μ y.2.1=none∧G y.2.1=none∧ae y.2.1 H=none∧y.2.1.toNat<nx'.toNat) (hn:nx.toNat≤nx'.toNat)
  (hnk:(pend'.map (·.2.1.toNat)).Nodup) (hni:(pend'.map (·.1)).Nodup) :
  fZ P ρ orc nt ops pl bf μ G H nx' {L:=Jm g.L i,D:=g.D,a0:=g.a0,val:=xS g.val i (some v)} CY pend' (bN po.dst v tm) tmps rest:=by
 have hi:=S.Ov.at' qX;obtain⟨o,RN,ho,TP,GQ⟩:=S.Ov.at hi;rw[qX]at GQ;cases GQ;obtain⟨ki,TQ,BD⟩:=ic TP;have Y7:mv ops i=o.dst:=by simp[mv,ho]
 have hDi:g.D i=false:=by
  cases h:g.D i with
  |false=>rfl
  |true=>have:=S.sub i h;rw[hL]at this;cases this
 have L8:∀j,hasB (Jm g.L i) j=true↔(hasB g.L j=true∨j=i):=by intro j;rw[Jz,Bool.or_eq_true,decide_eq_true_eq];exact⟨fun h=>h.imp id Eq.symm,fun h=>h.imp id Eq.symm⟩
 have hnb:∀p,hasB g.L p=true→hasB (fA bf p) i=false:=by
  intro p hp;cases h:hasB (fA bf p) i with
  |false=>rfl
  |true=>have:=S.lcl p hp i hi h;rw[hL]at this;cases this
 refine⟨S.Ov,S.ord,S.cl,?_,?_,?_,?_,?_,S.sz,?_,S.c2,?_,?_,hnk,hni⟩
 ·intro j hj;exact(L8 j).2 (.inl (S.sub j hj))
 ·intro j hj;rcases (L8 j).1 hj with h|h
  ·exact S.IT j h
  ·subst h;exact hi
 ·intro j hj q hq hbq;rcases (L8 j).1 hj with h|h
  ·exact(L8 q).2 (.inl (S.lcl j h q hq hbq))
  ·subst h;exact(L8 q).2 (.inl (hb q hq hbq))
 ·intro k j hj hd;rcases BD with⟨e1,e2⟩|⟨kd,e1,e2,_⟩
  ·rcases (L8 j).1 hj with h|h
   ·have bU:j≠i:=by intro e;subst e;rw[hL]at h;cases h
    rw[e2];simp only[bN,xS,bU,if_false];exact S.a1 k j h hd
   ·subst h;rw[Y7,e1]at hd;cases hd
  ·rw[e2];simp only[bN];rcases (L8 j).1 hj with h|h
   ·have bU:j≠i:=by intro e;subst e;rw[hL]at h;cases h
    have hk:k≠kd:=by intro e;subst e;exact bU (S.Ov.Oi hd (Y7.trans e1))
    rw[aR _ _ _ _ hk];simp only[xS,bU,if_false];exact S.a1 k j h hd
   ·subst h;rw[Y7,e1]at hd;have hk:k=kd:=Key.toNat_inj (by simpa using hd.symm);subst hk;rw[gTSm];simp[xS]
 ·intro k pF;rcases BD with⟨e1,e2⟩|⟨kd,e1,e2,_⟩
  ·rw[e2];exact S.a2 k fun j hj=>pF j ((L8 j).2 (.inl hj))
  ·rw[e2];simp only[bN];have hk:k≠kd:=by intro e;subst e;exact pF i ((L8 i).2 (.inr rfl)) (Y7.trans e1)
   rw[aR _ _ _ _ hk];exact S.a2 k fun j hj=>pF j ((L8 j).2 (.inl hj))
 ·intro k j a hj hd hv;have bU:j≠i:=by intro e;subst e;rw[hDi]at hj;cases hj
  exact S.c1 k j a hj hd (by simpa[xS,bU]using hv)
 ·intro j hj hjD;rcases (L8 j).1 hj with h|h
  ·have bU:j≠i:=by intro e;subst e;rw[hL]at h;cases h
   exact(S.pd j h hjD).lF (hnb j h) bU QB Vr
  ·subst h;exact sO
 ·intro y hy;by_cases Jg:y∈aq
  ·obtain⟨p1,p2,p3,p4,p5⟩:=S.pe y Jg;exact⟨(L8 _).2 (.inl p1),p2,p3,p4,Lk p5 hn⟩
  ·obtain⟨q1,q2,q3,q4⟩:=Tr y hy Jg;have e:=(Vr y hy).resolve_left Jg;refine⟨(L8 _).2 (.inr e),fun h=>?_,fun _=>⟨q1,q2⟩,q3,q4⟩;rw[e]at h;have h:g.D i=true:=h;rw[hDi]at h;cases h
theorem fZ.cy(S:fZ P ρ orc nt ops pl bf μ G H nx g (fun i=>fY pl i=true) aq tm tmps rest)(hm:μ.le μ')(hn:nx.toNat≤nx'.toNat)
  (hk:∀x∈aq,μ' x.2.1=μ x.2.1∧G' x.2.1=G x.2.1∧ae x.2.1 H'=none):fZ P ρ orc nt ops pl bf μ' G' H' nx' g (fun i=>fY pl i=true) aq tm tmps rest:=by
 refine⟨S.Ov,S.ord,S.cl,S.sub,S.IT,S.lcl,S.a1,S.a2,S.sz,?_,?_,?_,?_,S.nk,S.ni⟩
 ·intro k j a h1 h2 h3;obtain⟨v,hv,hr⟩:=S.c1 k j a h1 h2 h3;exact⟨v,hv,hr.mono hm⟩
 ·intro k a h1 h2;obtain⟨v,hv,hr⟩:=S.c2 k a h1 h2;exact⟨v,hv,hr.mono hm⟩
 ·intro i hi hD;cases S.pd i hi hD with
  |skip po lW h1 h2 h3 h4 h5=>exact .skip po lW h1 h2 h3 h4 h5
  |light po lW v h1 h2 h3 BT h4 h5 h6=>
   refine .light po lW v h1 h2 h3 BT (fun hu=>?_) h5 h6;obtain⟨V,a1,_⟩:=h4 hu;refine⟨H',?_,VOk.refl _ _ _ _⟩;rw[←a1];apply KD;have:fY pl i=K7 po.op:=by simp[fY,h1]
   rw[this]at hu;simpa using hu
  |alloc po lW f B k h1 h2 h3 BT h4 h5 h6=>exact .alloc po lW f B k h1 h2 h3 BT h4 h5 h6
 ·intro x hx;obtain⟨p1,p2,p3,p4,p5⟩:=S.pe x hx;obtain⟨q1,q2,q3⟩:=hk x hx;refine⟨p1,fun h=>by rw[q2];exact p2 h,fun h=>by rw[q1,q2];exact p3 h,q3,Lk p5 hn⟩
end
section
variable{P:Program}{ρ:Nat→Int}{orc:iG}{nt:Nat}{ops:Array Oper}{pl:List ay}{bf:List Nat}{w0:W0}{w:World}{μ μ':Mu}{G G':Key→Option ah}{H H':T ah}{nx nx':Key}{g:Gh}{CY axF:Nat→Prop}{aq pend':List (Nat×Key×ah)}{tm:T AV}{tmps:Array Value}{rest:List Nat}{fr:Frame}{cs:List Frame}{K:List Item}{i:Nat}
def atu(P:Program)(ρ:Nat→Int)(orc:iG)(nt:Nat)(ops:Array Oper)(pl:List ay)(bf:List Nat)(w0:W0)(H:T ah)(nx:Key)(g:Gh)(aq:List (Nat×Key×ah))(tm:T AV)(K:List Item)
  (fr:Frame) (cs:List Frame) (w:World) (μ:Mu) (G:Key→Option ah) (zY:List Nat→Prop):Prop:=
 ∃dL w' μ' G' D' kh,Steps P (lone fr cs w) (lone {fr with tmps:=dL,todo:=.inRegion ops kh ::K} cs w')∧μ.le μ'∧aZ P ρ w0 μ' G' nx.toNat w'∧HSub H G'∧
  fZ P ρ orc nt ops pl bf μ' G' H nx {g with D:=D'} (fun _=>False) aq tm dL kh∧(∀b,(∀x∈aq,x.2.1≠b)→μ' b=μ b∧G' b=G b)∧zY kh
theorem akF(zY:List Nat→Prop)(ho:ep ρ orc)
  (hgo:∀(D:Nat→Bool) (rest:List Nat),(∀i,D i=true→hasB g.L i=true)→N1 ops D rest→zY rest∨∃q r,rest=q ::r∧((∀j,j<ops.size→hasB (fA bf q) j=true→D j=true)→hasB g.L q=true)) :
  ∀(rest:List Nat) (D:Nat→Bool) (fr:Frame) (w:World) (μ:Mu) (G:Key→Option ah),aZ P ρ w0 μ G nx.toNat w→HSub H G→fZ P ρ orc nt ops pl bf μ G H nx {g with D:=D} (fun _=>False) aq tm fr.tmps rest→
   fr.mode=.run→fr.todo=.inRegion ops rest ::K→atu P ρ orc nt ops pl bf w0 H nx g aq tm K fr cs w μ G zY:=by
 intro rest
 induction rest with
 |nil=>
  intro D fr w μ G hM hH S hm ht;rcases hgo D [] S.sub S.ord with h|⟨q,r,h,_⟩
  ·refine⟨fr.tmps,w,μ,G,D,[],?_,μ.le_refl,hM,hH,S,fun _ _=>⟨rfl,rfl⟩,h⟩;rw[←ht];exact Steps.refl _ _
  ·cases h
 |cons q r ih=>
  intro D fr w μ G hM hH S hm ht;rcases hgo D (q ::r) S.sub S.ord with h|⟨q',r',h,hq⟩
  ·refine⟨fr.tmps,w,μ,G,D,q ::r,?_,μ.le_refl,hM,hH,S,fun _ _=>⟨rfl,rfl⟩,h⟩;rw[←ht];exact Steps.refl _ _
  ·cases h;have hL:=hq S.ready.2.2;obtain⟨dL,w',μ',G',h1,h2,h3,h4,h5,h6⟩:=UP (cs:=cs) hM hH ho S hL (fun h=>h) hm ht;obtain⟨tmps2,w2,μ2,G2,D2,rest2,k1,k2,k3,k4,k5,k6,k7⟩:=ih _ {fr with tmps:=dL,todo:=.inRegion ops r ::K} w' μ' G' h3 h4 h5 hm rfl;exact⟨tmps2,w2,μ2,G2,D2,rest2,.head h1 k1,Mu.le_trans h2 k2,k3,k4,k5,fun b hb=>⟨(k6 b hb).1.trans (h6 b hb).1,(k6 b hb).2.trans (h6 b hb).2⟩,k7⟩
theorem Vs(hM:aZ P ρ w0 μ G nx.toNat w)(hH:HSub H G)(ho:ep ρ orc)(S:fZ P ρ orc nt ops pl bf μ G H nx g (fun _=>False) aq tm fr.tmps rest){h:Nat}(bY:h<ops.size)(hh:hasB g.L h=false)
  (YK:∀j,j<ops.size→hasB g.L j=true∨j=h∨∃q,q<ops.size∧hasB (fA bf j) q=true∧hasB g.L q=false) (hm:fr.mode=.run) (ht:fr.todo=.inRegion ops rest ::K) :
  atu P ρ orc nt ops pl bf w0 H nx g aq tm K fr cs w μ G (fun r=>∃r',r=h ::r'):=by
 refine akF _ ho ?_ rest g.D fr w μ G hM hH S hm ht;intro D rest ans anP;cases rest with
 |nil=>have:=ans h (anP h bY);rw[hh]at this;cases this
 |cons q r=>
  by_cases e:q=h
  ·subst e;exact .inl ⟨r,rfl⟩
  ·refine .inr ⟨q,r,rfl,fun hb=>?_⟩;rcases YK q anP.1 with h1|h1|⟨p,hp,hpb,hpL⟩
   ·exact h1
   ·exact absurd h1 e
   ·have:=ans p (hb p hp hpb);rw[hpL]at this;cases this
theorem ace(hM:aZ P ρ w0 μ G nx.toNat w)(hH:HSub H G)(ho:ep ρ orc)(S:fZ P ρ orc nt ops pl bf μ G H nx g (fun _=>False) aq tm fr.tmps rest)
  (z6:∀j,j<ops.size→hasB g.L j=true) (hm:fr.mode=.run) (ht:fr.todo=.inRegion ops rest ::K) :
  atu P ρ orc nt ops pl bf w0 H nx g aq tm K fr cs w μ G (fun r=>r=[]):=by
 refine akF _ ho ?_ rest g.D fr w μ G hM hH S hm ht;intro D rest ans anP;cases rest with
 |nil=>exact .inl rfl
 |cons q r=>exact .inr ⟨q,r,rfl,fun _=>z6 q anP.1⟩
theorem Gg{jj:List (Nat×List Nat)}:∀{os:List (Nat×ay)},recheck orc jj aq tm H os=true→∀i po,(i,po)∈os→
  ∃d,po.dst=some d∧((cq po.guard tm=some false∧ae d tm=some (.tuple []))∨(cq po.guard tm=some true∧∃v,ae d tm=some v∧lightOp orc po.op tm (wE (DV i jj) aq H)=some v))
 | [],_,_,_,h=>by simp at h
 |(q,o) ::os,hr,i,po,hm=>by
  simp only[recheck]at hr;split at hr
  ·rename_i hw;split at hr
   ·cases hr
   ·rename_i d hd;split at hr
    ·rename_i hg;rcases K3.1 hm with h|h
     ·cases h;exact⟨d,hd,.inl ⟨hw,hg⟩⟩
     ·exact Gg hr i po h
    ·cases hr
  ·rename_i hw;split at hr
   ·cases hr
   ·rename_i d hd;split at hr
    ·rename_i v u hg hl;cases hb:AV.beq v u with
     |false=>rw[hb]at hr;cases hr
     |true=>
      rw[hb]at hr;simp only[cond_true]at hr;have:=AV.eq_of_beq v u hb;subst this;rcases K3.1 hm with h|h
      ·cases h;exact⟨d,hd,.inr ⟨hw,v,hg,hl⟩⟩
      ·exact Gg hr i po h
    ·cases hr
  ·cases hr
theorem YV{i:Nat}{o:Oper}(h:Ef ops bf i=true)(ho:ops[i]?=some o){j t:Nat}(hj:mv ops j=some t)(ht:t∈kT ops o):hasB (fA bf i) j=true:=by
 unfold Ef at h;rw[ho]at h;simp only[vJ]at h;have h:=h j (by simpa using LO hj);rw[hj]at h;have hc:(kT ops o).contains t=true:=by simpa using ht
 simp only[hc,Bool.not_true,Bool.false_or]at h;exact h
theorem fZ.Tj(S:fZ P ρ orc nt ops pl bf μ G H nx g CY aq tm tmps rest){os:List (Nat×ay)}{jj:List (Nat×List Nat)}(YQ:zH bf jj=true)(hr:recheck orc jj aq tm H os=true)
  (VK:∀i po,(i,po)∈os→pl[i]?=some po∧Ef ops bf i=true∧qW pl i=0) (Iz:∀i,hasB g.L i=true→g.D i=false→CY i→∃po,(i,po)∈os) :
  fZ P ρ orc nt ops pl bf μ G H nx g (fun _=>False) aq tm tmps rest:=by
 refine⟨S.Ov,S.ord,S.cl,S.sub,S.IT,S.lcl,S.a1,S.a2,S.sz,S.c1,S.c2,?_,S.pe,S.nk,S.ni⟩;intro i hi hD;by_cases hu:CY i
 ·obtain⟨po,hm⟩:=Iz i hi hD hu;obtain⟨qX,Jr,hk⟩:=VK i po hm;obtain⟨d,hd,Pu⟩:=Gg hr i po hm;have aFa:=S.IT i hi;obtain⟨o,RN,ho,TP,GQ⟩:=S.Ov.at aFa;rw[qX]at GQ;cases GQ;obtain⟨_,_,BD⟩:=ic TP;have hdd:mv ops i=some d.toNat:=by
   rcases BD with⟨_,e2⟩|⟨k,e1,e2,_⟩
   ·rw[e2]at hd;cases hd
   ·rw[e2]at hd;cases hd;simp[mv,ho,e1]
  have NO:=S.a1 d i hi hdd;have htm:Xb ops bf g i tm:=by
   intro o' T0 k a BI hg;rw[ho]at T0;cases T0;by_cases hex:∃j,mv ops j=some k.toNat
   ·obtain⟨j,hj⟩:=hex;have hb:=YV Jr ho hj BI;exact .inl ⟨j,hj,hb,by rw[←S.a1 k j (S.lcl i hi j (LO hj) hb) hj];exact hg⟩
   ·have pF:∀j,mv ops j≠some k.toNat:=fun j hj=>hex ⟨j,hj⟩;exact .inr ⟨fun j hj=>absurd hj (pF j),by rw[←S.a2 k fun j _=>pF j];exact hg⟩
  have QB:∀x∈aq,x.1≠i:=by
   cases S.pd i hi hD with
   |skip po lW h1 h2 h3 h4 h5=>exact h5
   |light po lW v h1 h2 h3 BT h4 h5 h6=>exact h6
   |alloc po lW f B k h1 h2 h3 BT h4 h5 h6=>rw[hk]at BT;cases BT
  rcases Pu with⟨hw,hg⟩|⟨hw,v,hg,hl⟩
  ·exact .skip po tm qX htm hw (by rw[←NO];exact hg) QB
  ·exact .light po tm v qX htm hw hk (fun _=>⟨_,hl,VOk.view YQ _ _ _⟩) (by rw[←NO];exact hg) QB
 ·cases S.pd i hi hD with
  |skip po lW h1 h2 h3 h4 h5=>exact .skip po lW h1 h2 h3 h4 h5
  |light po lW v h1 h2 h3 BT h4 h5 h6=>exact .light po lW v h1 h2 h3 BT (fun _=>h4 hu) h5 h6
  |alloc po lW f B k h1 h2 h3 BT h4 h5 h6=>exact .alloc po lW f B k h1 h2 h3 BT h4 h5 h6
end
inductive NZ(P:Program)(μ:Mu)(nt:Nat):cT→Item→Prop
 |code (pc:aG) (c:Code) (h:gC P nt c=some pc):NZ P μ nt (.code pc) (.code c)
 |inBlock (id:Nat):NZ P μ nt (.inBlock id) (.inBlock id)
 |inLoop (pc:aG) (c:Code) (h:gC P nt c=some pc):NZ P μ nt (.inLoop pc) (.inLoop c)
 |ops (l:List ay) (ops:Array Oper) (rest:List Nat) (h:mu P nt ops rest=some l):NZ P μ nt (.ops l) (.inRegion ops rest)
 |inRF (k:Key) (l:Loc) (r:Nat) (h:μ k=some l) (hr:r=l.c):NZ P μ nt (.inRF k) (.inRangeFunc r)
 |endRF (k:Key) (l:Loc) (r:Nat) (h:μ k=some l) (hr:r=l.c):NZ P μ nt (.endRF k) (.endRangeFunc r)
 |beginRound:NZ P μ nt .beginRound .beginRound
 |scope (c:Code):NZ P μ nt (.code .skip) (.inScope c)
inductive mg(P:Program)(μ:Mu)(nt:Nat):List cT→List Item→Prop
 |nil:mg P μ nt [] []
 |cons (a:cT) (x:Item) (l:List cT) (k:List Item) (h:NZ P μ nt a x) (h':mg P μ nt l k):mg P μ nt (a ::l) (x ::k)
theorem NZ.mono{P:Program}{μ μ':Mu}(hm:μ.le μ'){nt:Nat}{a:cT}{x:Item}(h:NZ P μ nt a x):NZ P μ' nt a x:=by
 cases h with
 |code pc c h=>exact .code pc c h
 |inBlock id=>exact .inBlock id
 |inLoop pc c h=>exact .inLoop pc c h
 |ops l ops rest h=>exact .ops l ops rest h
 |inRF k l r h hr=>exact .inRF k l r (hm.l _ _ h) hr
 |endRF k l r h hr=>exact .endRF k l r (hm.l _ _ h) hr
 |beginRound=>exact .beginRound
 |scope c=>exact .scope c
theorem mg.mono{P:Program}{μ μ':Mu}(hm:μ.le μ'){nt:Nat}{a:List cT}{x:List Item}(h:mg P μ nt a x):mg P μ' nt a x:=by
 induction h with
 |nil=>exact .nil
 |cons a x l k h h' ih=>exact .cons _ _ _ _ (h.mono hm) ih
def anw(ρ:Nat→Int)(μ:Mu):TR→Deferred→Prop
 |.fn f args,d=>∃ws,d.target=.fn (.func f) ws∧ax ρ μ args (d.args++ws).toList
 |.coll b,d=>∃l,μ b=some l∧d=⟨.collected l.c,#[]⟩
def PQ(ρ:Nat→Int)(μ:Mu):List TR→List Deferred→Prop
 | [],[]=>True
 |a ::l,d ::ds=>anw ρ μ a d∧PQ ρ μ l ds
 |_,_=>False
theorem anw.mono{ρ:Nat→Int}{μ μ':Mu}(hm:μ.le μ'){a:TR}{d:Deferred}(h:anw ρ μ a d):anw ρ μ' a d:=by
 cases a with
 |fn f args=>obtain⟨ws,h1,h2⟩:=h;exact⟨ws,h1,h2.mono hm⟩
 |coll b=>obtain⟨l,h1,h2⟩:=h;exact⟨l,hm.l _ _ h1,h2⟩
theorem PQ.mono{ρ:Nat→Int}{μ μ':Mu}(hm:μ.le μ'):∀{a:List TR} {d:List Deferred},PQ ρ μ a d→PQ ρ μ' a d
 | [],[],_=>trivial
 |_ ::_,_ ::_,h=>⟨h.1.mono hm,PQ.mono hm h.2⟩
 | [],_ ::_,h=>h.elim
 |_ ::_,[],h=>h.elim
def axy(μ:Mu):Option Key→Option Nat→Prop
 |none,none=>True
 |some k,some r=>∃l,μ k=some l∧r=l.c
 |_,_=>False
structure zJ(P:Program)(ρ:Nat→Int)(μ:Mu)(nt:Nat)(af:lG)(fr:Frame):Prop where
 fn:fr.fn=af.fn
 Y0:ags P af.fn nt af.res
 dfs:PQ ρ μ af.dfs fr.defers
 kind:fr.kind=if af.Ew then .deferred else .normal
 sV:axy μ af.sV fr.roundOf
 rd:af.sV≠none→af.Ew=false
theorem zJ.mono{P:Program}{ρ:Nat→Int}{μ μ':Mu}(hm:μ.le μ'){nt:Nat}{af:lG}{fr:Frame}(h:zJ P ρ μ nt af fr):zJ P ρ μ' nt af fr:=by
 refine⟨h.fn,h.Y0,h.dfs.mono hm,h.kind,?_,h.rd⟩;have:=h.sV;cases h1:af.sV<;>cases h2:fr.roundOf<;>rw[h1,h2]at this
 ·trivial
 ·exact this.elim
 ·exact this.elim
 ·obtain⟨l,e1,e2⟩:=this;exact⟨l,hm.l _ _ e1,e2⟩
def La(ops:Array Oper)(iJ:List Key):Prop:=∀j t,mv ops j=some t→∃k∈iJ,k.toNat=t
inductive VQ(P:Program)(ρ:Nat→Int)(orc:iG)(μ:Mu)(G:Key→Option ah)(H:T ah)(nx:Key)(nt:Nat):List cT→T AV→List Item→Array Value→Prop
 |plain (k:List cT) (K:List Item) (tm:T AV) (tmps:Array Value) (h:mg P μ nt k K) (ht:j5 ρ μ nt tm tmps):VQ P ρ orc μ G H nx nt k tm K tmps
 |ready (ops:Array Oper) (pl:List ay) (bf:List Nat) (g:Gh) (uD:List IIt) (items:List aL) (iJ:SD) (aq:List (Nat×Key×ah)) (k:List cT) (K:List Item) (tm:T AV) (tmps:Array Value) (rest:List Nat)
   (hf:uD.mapM (Eh pl)=some items) (hc:yY ops pl bf g.L uD=true) (hd:La ops iJ.ds∧zH bf iJ.jj=true) (h:mg P μ nt k K) (S:fZ P ρ orc nt ops pl bf μ G H nx g (fun _=>False) aq tm tmps rest) :
   VQ P ρ orc μ G H nx nt (.staged items iJ aq ::k) tm (.inRegion ops rest ::K) tmps
 |back (ops:Array Oper) (pl:List ay) (bf:List Nat) (g:Gh) (os:List (Nat×ay)) (uD:List IIt) (items:List aL) (iJ:SD) (aq:List (Nat×Key×ah)) (k:List cT) (K:List Item) (tm:T AV) (tmps:Array Value) (rest:List Nat)
   (hf:uD.mapM (Eh pl)=some items) (hc:yY ops pl bf g.L uD=true) (hd:La ops iJ.ds∧zH bf iJ.jj=true) (h:mg P μ nt k K)
   (VK:∀i po,(i,po)∈os→pl[i]?=some po∧Ef ops bf i=true∧qW pl i=0) (Iz:∀i,hasB g.L i=true→g.D i=false→fY pl i=true→∃po,(i,po)∈os)
   (S:fZ P ρ orc nt ops pl bf μ G H nx g (fun i=>fY pl i=true) aq tm tmps rest) :
   VQ P ρ orc μ G H nx nt (.staged (.R os ::items) iJ aq ::k) tm (.inRegion ops rest ::K) tmps
inductive Jq(P:Program)(ρ:Nat→Int)(orc:iG)(μ:Mu)(G:Key→Option ah)(H:T ah)(nx:Key)(nt:Nat):List cT→T AV→List Item→Array Value→Prop
 |ops (o:ay) (l:List ay) (ops:Array Oper) (i:Nat) (rest:List Nat) (k:List cT) (K:List Item) (tm:T AV) (tmps:Array Value) (hp:mu P nt ops (i ::rest)=some (o ::l)) (h:mg P μ nt k K) (ht:j5 ρ μ nt tm tmps) :
   Jq P ρ orc μ G H nx nt (.ops (o ::l) ::k) tm (.inRegion ops (i ::rest) ::K) tmps
 |staged (ops:Array Oper) (pl:List ay) (bf:List Nat) (g:Gh) (i:Nat) (po:ay) (ad:List Nat) (os:List (Nat×ay)) (uD:List IIt) (items:List aL) (iJ:SD) (aq:List (Nat×Key×ah)) (k:List cT) (K:List Item) (tm:T AV) (tmps:Array Value) (rest:List Nat)
   (qX:pl[i]?=some po) (hf:uD.mapM (Eh pl)=some items) (hc:yY ops pl bf (Jm g.L i) uD=true) (hL:hasB g.L i=false) (SB:∀j,j<ops.size→hasB (fA bf i) j=true→hasB g.L j=true) (hd:La ops iJ.ds∧zH bf iJ.jj=true) (h:mg P μ nt k K)
   (VK:∀i po,(i,po)∈os→pl[i]?=some po∧Ef ops bf i=true∧qW pl i=0) (Iz:∀j,hasB g.L j=true→fY pl j=true→hasB (fA bf i) j=true∨∃po,(j,po)∈os)
   (S:fZ P ρ orc nt ops pl bf μ G H nx g (fun i=>fY pl i=true) aq tm tmps (i ::rest)) :
   Jq P ρ orc μ G H nx nt (.staged (.H i po ad ::.R os ::items) iJ aq ::k) tm (.inRegion ops (i ::rest) ::K) tmps
 |rf (key:Key) (l:Loc) (k:List cT) (K:List Item) (tm:T AV) (tmps:Array Value) (hk:μ key=some l) (h:mg P μ nt k K) (ht:j5 ρ μ nt tm tmps):Jq P ρ orc μ G H nx nt (.inRF key ::k) tm (.inRangeFunc l.c ::K) tmps
inductive Zc(P:Program)(ρ:Nat→Int)(orc:iG)(μ:Mu)(G:Key→Option ah)(H:T ah)(nx:Key)(af:lG)(fr:Frame):Prop
 |run (nt:Nat) (hb:zJ P ρ μ nt af fr) (h1:af.mode=.run) (h2:fr.mode=.run) (h:VQ P ρ orc μ G H nx nt af.todo af.tm fr.todo fr.tmps):Zc P ρ orc μ G H nx af fr
 |ret (nt:Nat) (hb:zJ P ρ μ nt af fr) (h1:af.mode=.ret) (h2:fr.mode=.returning) (h3:af.todo=[]∨∃k,af.todo=.code .ret ::k) (h:j5 ρ μ nt af.tm fr.tmps):Zc P ρ orc μ G H nx af fr
 |pan (nt:Nat) (hb:zJ P ρ μ nt af fr) (v:AV) (u:Value) (r:Bool) (h1:af.mode=.pan v r) (h2:fr.mode=.panicking [{v:=u,recovered:=r}]) (hv:aS ρ μ v u) (h3:af.todo=[]) (h:j5 ρ μ nt af.tm fr.tmps):Zc P ρ orc μ G H nx af fr
inductive Sus(P:Program)(ρ:Nat→Int)(orc:iG)(μ:Mu)(G:Key→Option ah)(H:T ah)(nx:Key)(af:lG)(fr:Frame):Prop
 |wait (nt:Nat) (hb:zJ P ρ μ nt af fr) (h1:af.mode=.run) (h2:fr.mode=.run) (h:Jq P ρ orc μ G H nx nt af.todo af.tm fr.todo fr.tmps):Sus P ρ orc μ G H nx af fr
 |unw (h:Zc P ρ orc μ G H nx af fr) (hm:af.mode≠.run):Sus P ρ orc μ G H nx af fr
def dH(P:Program)(ρ:Nat→Int)(orc:iG)(μ:Mu)(G:Key→Option ah)(H:T ah)(nx:Key):List lG→List Frame→Prop
 | [],[]=>True
 |a ::l,f ::fs=>Sus P ρ orc μ G H nx a f∧dH P ρ orc μ G H nx l fs
 |_,_=>False
def pk(af:lG):List Nat:=match af.todo with
 |.staged _ _ p ::_=>p.map (·.2.1.toNat)
 |_=>[]
def bB:List lG→List Nat
 | []=>[]
 |a ::l=>pk a++bB l
structure DS(P:Program)(ρ:Nat→Int)(orc:iG)(w0:W0)(μ0:Mu)(am:AM)(fr:Frame)(cs:List Frame)(w:World):Prop where
 ex:∃μ G,μ0.le μ∧aZ P ρ w0 μ G am.nx.toNat w∧HSub am.h G∧Zc P ρ orc μ G am.h am.nx am.fr fr∧dH P ρ orc μ G am.h am.nx am.cs cs∧(bB (am.fr ::am.cs)).Nodup
section
variable{P:Program}{ρ:Nat→Int}{orc:iG}{μ μ':Mu}{G G':Key→Option ah}{H H':T ah}{nx nx':Key}
theorem Jq.cy(hm:μ.le μ')(hn:nx.toNat≤nx'.toNat){nt:Nat}{k:List cT}{tm:T AV}{K:List Item}{tmps:Array Value}(h:Jq P ρ orc μ G H nx nt k tm K tmps)
  (hk:∀b:Key,(∀i d p k',k=.staged i d p ::k'→b.toNat∈p.map (·.2.1.toNat))→(∃i d p k',k=.staged i d p ::k')→ae b H=none→b.toNat<nx.toNat→μ' b=μ b∧G' b=G b∧ae b H'=none):Jq P ρ orc μ' G' H' nx' nt k tm K tmps:=by
 cases h with
 |ops o l ops i rest k K tm tmps hp h ht=>exact .ops o l ops i rest k K tm tmps hp (h.mono hm) (ht.mono hm)
 |rf key l k K tm tmps asO h ht=>exact .rf key l k K tm tmps (hm.l _ _ asO) (h.mono hm) (ht.mono hm)
 |staged ops pl bf g i po ad os uD items iJ aq k K tm tmps rest qX hf hc hL SB hd h VK Iz S=>refine .staged ops pl bf g i po ad os uD items iJ aq k K tm tmps rest qX hf hc hL SB hd (h.mono hm) VK Iz (S.cy hm hn fun x hx=>?_);obtain⟨_,_,_,p4,p5⟩:=S.pe x hx;refine hk x.2.1 ?_ ⟨_,_,_,_,rfl⟩ p4 p5;intro i d p k' e;cases e;exact Rh.2 ⟨x,hx,rfl⟩
theorem Sus.cy(hm:μ.le μ')(hn:nx.toNat≤nx'.toNat){af:lG}{fr:Frame}(h:Sus P ρ orc μ G H nx af fr)
  (hk:∀b:Key,b.toNat∈pk af→ae b H=none→b.toNat<nx.toNat→μ' b=μ b∧G' b=G b∧ae b H'=none):Sus P ρ orc μ' G' H' nx' af fr:=by
 cases h with
 |wait nt hb h1 h2 h=>refine .wait nt (hb.mono hm) h1 h2 (h.cy hm hn fun b h3 ⟨i,d,p,k',e⟩ h4 h5=>hk b ?_ h4 h5);unfold pk;rw[e];exact h3 i d p k' e
 |unw h Av=>
  refine .unw ?_ Av;cases h with
  |run nt hb h1=>exact absurd h1 Av
  |ret nt hb h1 h2 h3 h=>exact .ret nt (hb.mono hm) h1 h2 h3 (h.mono hm)
  |pan nt hb v u r h1 h2 hv h3 h=>exact .pan nt (hb.mono hm) v u r h1 h2 (hv.mono hm) h3 (h.mono hm)
theorem dH.cy(hm:μ.le μ')(hn:nx.toNat≤nx'.toNat):∀{l:List lG} {fs:List Frame},dH P ρ orc μ G H nx l fs→
  (∀b:Key,b.toNat∈bB l→ae b H=none→b.toNat<nx.toNat→μ' b=μ b∧G' b=G b∧ae b H'=none)→dH P ρ orc μ' G' H' nx' l fs
 | [],[],_,_=>trivial
 |_ ::_,_ ::_,h,hk=>⟨h.1.cy hm hn fun b hb=>hk b (by simp[bB,hb]),dH.cy hm hn h.2 fun b hb=>hk b (by simp[bB,hb])⟩
 | [],_ ::_,h,_=>h.elim
 |_ ::_,[],h,_=>h.elim
end
section
variable{P:Program}{ρ:Nat→Int}{orc:iG}{nt:Nat}{w0:W0}{cs:List Frame}{K:List Item}{ops:Array Oper}
theorem j5.put{μ:Mu}{tm:T AV}{tmps:Array Value}(h:j5 ρ μ nt tm tmps){o:Oper}{po:ay}(hd:(o.dst=none∧po.dst=none)∨∃k,o.dst=some k.toNat∧po.dst=some k∧k.toNat<nt){a:AV}{v:Value}(hv:aS ρ μ a v) :
  j5 ρ μ nt (bN po.dst a tm) (GP o.dst v tmps):=by
 rcases hd with⟨e1,e2⟩|⟨k,e1,e2,bY⟩
 ·rw[e1,e2];exact h
 ·rw[e1,e2];refine⟨by simp[GP];exact h.1,fun q b hb=>?_⟩;simp only[bN]at hb;simp only[GP];by_cases hq:q=k
  ·subst hq;rw[gTSm]at hb;cases hb;have:q.toNat<tmps.size:=Lk bY h.1;exact⟨v,by simp[this],hv⟩
  ·rw[aR _ _ _ _ hq]at hb;obtain⟨u,hu,hr⟩:=h.2 q b hb;refine⟨u,?_,hr⟩;rw[zqn]
   ·exact hu
   ·intro e;exact hq (Key.toNat_inj e.symm)
theorem afr{o:Oper}{op:Ji}(hp:jh P nt o=some op)(hd:eW o.op=true):∃v l,op=.dfr v l:=by
 obtain⟨dst,Gz,ty,pos,after,guard⟩:=o;cases Gz<;>first|(cases hd;done)|skip
 rename_i c;simp only[jh]at hp;split at hp
 ·split at hp
  ·simp only[dI]at hp;exact⟨_,_,hp.symm⟩
  ·cases hp
 ·cases hp
theorem zL{o:Oper}{op:Ji}(hp:jh P nt o=some op){tm:T AV}{H:T ah}{nx:Key}(h1:∀f l,aOp orc op tm H nx≠.dfr f l)(h2:∀n,aOp orc op tm H nx≠.bad n):eW o.op=false:=by
 cases hd:eW o.op with
 |false=>rfl
 |true=>
  obtain⟨v,l,rfl⟩:=afr hp hd;exfalso;have key:(∃f l',aOp orc (.dfr v l) tm H nx=.dfr f l')∨∃n,aOp orc (.dfr v l) tm H nx=.bad n:=by
   simp only[aOp];split
   ·exact .inl ⟨_,_,rfl⟩
   ·exact .inr ⟨_,rfl⟩
  rcases key with⟨f,l',e⟩|⟨n,e⟩
  ·exact h1 _ _ e
  ·exact h2 _ e
def ajq(P:Program)(ρ:Nat→Int)(orc:iG)(nt:Nat)(w0:W0)(cs:List Frame)(K:List Item)(ops:Array Oper)(fr:Frame)(w:World)(μ:Mu)(G:Key→Option ah)(H:T ah)(nx:Key):RR→Prop
 |.fin aw h' nx'=>∃dL w' μ' G',Steps P (lone fr cs w) (lone {fr with tmps:=dL,todo:=K} cs w')∧μ.le μ'∧aZ P ρ w0 μ' G' nx'.toNat w'∧HSub h' G'∧j5 ρ μ' nt aw dL∧Kept H h' nx nx' μ μ' G G'
 |.ev r l' aw h' nx'=>(∃n,r=.bad n)∨∃dL w' μ' G' i kh po ll o,Steps P (lone fr cs w) (lone {fr with tmps:=dL,todo:=.inRegion ops (i ::kh) ::K} cs w')∧μ.le μ'∧aZ P ρ w0 μ' G' nx'.toNat w'∧HSub h' G'∧
   j5 ρ μ' nt aw dL∧Kept H h' nx nx' μ μ' G G'∧l'=po ::ll∧mu P nt ops (i ::kh)=some l'∧ops[i]?=some o∧Me P nt ops o=some po∧Region.wanted o (yielded ops dL)=true∧aOp orc po.op aw h' nx'=r∧¬BC r
theorem oG(orc:iG)(o:ay)(rest:List ay)(tm:T AV)(h:T ah)(nx:Key):j6 orc (o ::rest) tm h nx=(match cq o.guard tm with
   |none=>.ev (.bad 30) (o ::rest) tm h nx
   |some false=>wD o.dst (some (.tuple [])) tm fun tm=>j6 orc rest tm h nx
   |some true=>match aOp orc o.op tm h nx with
    |.val v h nx=>wD o.dst (some v) tm fun tm=>j6 orc rest tm h nx
    |r=>.ev r (o ::rest) tm h nx):=rfl
theorem Js(ho:ep ρ orc):∀(l:List ay) (rest:List Nat) (fr:Frame) (w:World) (μ:Mu) (G:Key→Option ah) (H:T ah) (nx:Key) (tm:T AV),mu P nt ops rest=some l→aZ P ρ w0 μ G nx.toNat w→HSub H G→j5 ρ μ nt tm fr.tmps→
  fr.mode=.run→fr.todo=.inRegion ops rest ::K→ajq P ρ orc nt w0 cs K ops fr w μ G H nx (j6 orc l tm H nx)
 | [],rest,fr,w,μ,G,H,nx,tm,hp,hM,hH,hT,hm,ht=>by
  cases rest with
  |cons i r=>simp only[mu]at hp;split at hp;cases hp;split at hp<;>cases hp
  |nil=>exact⟨fr.tmps,w,μ,G,.one (HT hm ht),μ.le_refl,hM,hH,hT,Kept.refl _ _ _ _⟩
 |po ::l,rest,fr,w,μ,G,H,nx,tm,hp,hM,hH,hT,hm,ht=>by
  cases rest with
  |nil=>simp only[mu,dI]at hp;cases hp
  |cons i r=>
  have hp0:=hp;simp only[mu]at hp;split at hp
  ·cases hp
  ·rename_i o MY;split at hp
   ·rename_i RN l' h1 h2;simp only[dI,List.cons.injEq]at hp;obtain⟨rfl,rfl⟩:=hp;obtain⟨ki,TQ,BD⟩:=ic h1;have hs:∀(k:Key) a,k.toNat∈kT ops o→ae k tm=some a→∃v,fr.tmps[k.toNat]?=some v∧aS ρ μ a v:=fun k a _ hg=>hT.2 k a hg;have hE:=Gk (P:=P) (nt:=nt) (o:=o) hM hs;rw[oG];have go:∀(aW:T AV) (tmps2:Array Value) (w2:World) (μ2:Mu) (G2:Key→Option ah) (H2:T ah) (aU:Key),step P (lone fr cs w)=.next (lone {fr with tmps:=tmps2,todo:=.inRegion ops r ::K} cs w2)→μ.le μ2→aZ P ρ w0 μ2 G2 aU.toNat w2→HSub H2 G2→j5 ρ μ2 nt aW tmps2→Kept H H2 nx aU μ μ2 G G2→
      ajq P ρ orc nt w0 cs K ops fr w μ G H nx (j6 orc l' aW H2 aU):=by
     intro aW tmps2 w2 μ2 G2 H2 aU dy hle Y6 hH2 hT2 hK2;have ih:=Js ho l' r {fr with tmps:=tmps2,todo:=.inRegion ops r ::K} w2 μ2 G2 H2 aU aW h2 Y6 hH2 hT2 hm rfl;cases Nw:j6 orc l' aW H2 aU with
     |fin aw h' nx'=>rw[Nw]at ih;obtain⟨dL,w',μ',G',s1,s2,s3,s4,s5,s6⟩:=ih;exact⟨dL,w',μ',G',.head dy s1,Mu.le_trans hle s2,s3,s4,s5,hK2.trans s6⟩
     |ev rr ll aw h' nx'=>
      rw[Nw]at ih;rcases ih with hb|⟨dL,w',μ',G',i',kh,RN,ll',o',s1,s2,s3,s4,s5,s6,s7,s8,s9,s10,s11,s12,s13⟩
      ·exact .inl hb
      ·exact .inr ⟨dL,w',μ',G',i',kh,RN,ll',o',.head dy s1,Mu.le_trans hle s2,s3,s4,s5,hK2.trans s6,s7,s8,s9,s10,s11,s12,s13⟩
    cases hw:cq RN.guard tm with
    |none=>exact .inl ⟨_,rfl⟩
    |some b=>
     have qi:=AB TQ hs hw;cases b with
     |false=>simp only[ew];have dy:=IU (P:=P) (cs:=cs) (w:=w) hm ht MY qi;rw[cv ht MY]at dy;exact go _ _ w μ G H nx dy μ.le_refl hM hH (hT.put BD (.tuple _ _ .nil)) (Kept.refl _ _ _ _)
     |true=>
      cases ha:aOp orc RN.op tm H nx with
      |val a H2 aU=>
       simp only[ew];obtain⟨n,w2,μ2,G2,r1,r2,r3,r4,r5,r6⟩:=Ty hM hH ho ki hE ha;have Of:fr.roundOf=none∨eW o.op=false:=.inr (zL ki (by rw[ha];intro f l e;cases e) (by rw[ha];intro n e;cases e));cases n with
       |value v=>have dy:=UQ (P:=P) (cs:=cs) hm ht MY qi Of r1;rw[cv ht MY]at dy;exact go _ _ w2 μ2 G2 H2 aU dy r3 r4 r5 ((hT.mono r3).put BD r2) r6
       |skip=>have r2:a=.tuple []:=r2;subst r2;have dy:=adx (P:=P) (cs:=cs) hm ht MY qi Of r1;rw[cv ht MY]at dy;exact go _ _ w2 μ2 G2 H2 aU dy r3 r4 r5 ((hT.mono r3).put BD (.tuple _ _ .nil)) r6
       |_=>exact r2.elim
      |bad n=>exact .inl ⟨_,rfl⟩
      |call f args=>exact .inr ⟨fr.tmps,w,μ,G,i,r,RN,l',o,by rw[←ht];exact Steps.refl _ _,μ.le_refl,hM,hH,hT,Kept.refl _ _ _ _,rfl,hp0,MY,h1,qi,ha,by rintro(⟨_,_,_,e⟩|⟨_,e⟩)<;>cases e⟩
      |yld k args=>exact .inr ⟨fr.tmps,w,μ,G,i,r,RN,l',o,by rw[←ht];exact Steps.refl _ _,μ.le_refl,hM,hH,hT,Kept.refl _ _ _ _,rfl,hp0,MY,h1,qi,ha,by rintro(⟨_,_,_,e⟩|⟨_,e⟩)<;>cases e⟩
      |pan v=>exact .inr ⟨fr.tmps,w,μ,G,i,r,RN,l',o,by rw[←ht];exact Steps.refl _ _,μ.le_refl,hM,hH,hT,Kept.refl _ _ _ _,rfl,hp0,MY,h1,qi,ha,by rintro(⟨_,_,_,e⟩|⟨_,e⟩)<;>cases e⟩
      |dfr f args=>exact .inr ⟨fr.tmps,w,μ,G,i,r,RN,l',o,by rw[←ht];exact Steps.refl _ _,μ.le_refl,hM,hH,hT,Kept.refl _ _ _ _,rfl,hp0,MY,h1,qi,ha,by rintro(⟨_,_,_,e⟩|⟨_,e⟩)<;>cases e⟩
      |recover=>exact .inr ⟨fr.tmps,w,μ,G,i,r,RN,l',o,by rw[←ht];exact Steps.refl _ _,μ.le_refl,hM,hH,hT,Kept.refl _ _ _ _,rfl,hp0,MY,h1,qi,ha,by rintro(⟨_,_,_,e⟩|⟨_,e⟩)<;>cases e⟩
   ·cases hp
end
structure Cw(E:List Nat)(H H':T ah)(nx nx':Key)(μ μ':Mu)(G G':Key→Option ah):Prop where
 k:∀b:Key,b.toNat∉E→ae b H=none→b.toNat<nx.toNat→μ' b=μ b∧G' b=G b∧ae b H'=none
 n:nx.toNat≤nx'.toNat
theorem Cw.refl(E:List Nat)(H:T ah)(nx:Key)(μ:Mu)(G:Key→Option ah):Cw E H H nx nx μ μ G G:=⟨fun _ _ h _=>⟨rfl,rfl,h⟩,fa _⟩
theorem Cw.trans{E E2:List Nat}{H1 H2 H3:T ah}{n1 n2 n3:Key}{m1 m2 m3:Mu}{G1 G2 G3:Key→Option ah}(a:Cw E H1 H2 n1 n2 m1 m2 G1 G2)(b:Cw E2 H2 H3 n2 n3 m2 m3 G2 G3)(hE:∀x∈E2,x∈E∨n1.toNat≤x):Cw E H1 H3 n1 n3 m1 m3 G1 G3:=by
 refine⟨fun k hk hg hl=>?_,Nat.le_trans a.n b.n⟩;obtain⟨a1,a2,a3⟩:=a.k k hk hg hl;have Pr:k.toNat∉E2:=by
  intro h;rcases hE _ h with h|h
  ·exact hk h
  ·omega
 obtain⟨b1,b2,b3⟩:=b.k k Pr a3 (Lk hl a.n);exact⟨b1.trans a1,b2.trans a2,b3⟩
theorem Kept.toE{H H':T ah}{nx nx':Key}{μ μ':Mu}{G G':Key→Option ah}(h:Kept H H' nx nx' μ μ' G G')(E:List Nat):Cw E H H' nx nx' μ μ' G G':=
 ⟨fun b _ hg hl=>⟨h.m b hl,h.g b hg hl,h.h b hg hl⟩,h.n⟩
section
variable{P:Program}{ρ:Nat→Int}{orc:iG}{nt:Nat}{ops:Array Oper}{pl:List ay}{bf:List Nat}{w0:W0}{w:World}{μ μ':Mu}{G G':Key→Option ah}{H H':T ah}{nx nx':Key}{g:Gh}{CY axF:Nat→Prop}{aq pend':List (Nat×Key×ah)}{tm:T AV}{tmps:Array Value}{rest:List Nat}{fr:Frame}{cs:List Frame}{K:List Item}{i:Nat}
theorem fZ.apm(S:fZ P ρ orc nt ops pl bf μ G H nx g CY aq tm tmps (i ::rest)){po:ay}(qX:pl[i]?=some po)(hL:hasB g.L i=false)(hb:∀j,j<ops.size→hasB (fA bf i) j=true→hasB g.L j=true)
  {o:Oper} (ho:ops[i]?=some o) {a:AV} {v:Value} (hv:aS ρ μ a v) :
  fZ P ρ orc nt ops pl bf μ G H nx {L:=Jm g.L i,D:=fun j=>g.D j||j==i,a0:=g.a0,val:=xS g.val i (some a)} CY aq (bN po.dst a tm) (GP o.dst v tmps) rest:=by
 obtain⟨hi,hDi,nC⟩:=S.ready;obtain⟨o',RN,T0,TP,GQ⟩:=S.Ov.at hi;rw[qX]at GQ;cases GQ;rw[ho]at T0;cases T0;obtain⟨ki,TQ,BD⟩:=ic TP;have Y7:mv ops i=o.dst:=by simp[mv,ho]
 have ash:∀x,o.dst=some x→x<tmps.size:=by
  intro x hx;rcases BD with⟨h,_⟩|⟨k,h,_,bY⟩
  ·rw[h]at hx;cases hx
  ·rw[h]at hx;cases hx;exact Lk bY S.sz
 have DX:=fun t=>adk (v:=v) t ash;have aiR:(GP o.dst v tmps).size=tmps.size:=by cases o.dst<;>simp[GP]
 have Xc:∀j,((g.D j||j==i)=true)↔(g.D j=true∨j=i):=by intro j;simp
 have L8:∀j,hasB (Jm g.L i) j=true↔(hasB g.L j=true∨j=i):=by intro j;rw[Jz,Bool.or_eq_true,decide_eq_true_eq];exact⟨fun h=>h.imp id Eq.symm,fun h=>h.imp id Eq.symm⟩
 have hnb:∀p,hasB g.L p=true→hasB (fA bf p) i=false:=by
  intro p hp;cases h:hasB (fA bf p) i with
  |false=>rfl
  |true=>have:=S.lcl p hp i hi h;rw[hL]at this;cases this
 refine⟨S.Ov,S.ord.2.2.2,?_,?_,?_,?_,?_,?_,by rw[aiR];exact S.sz,?_,?_,?_,?_,S.nk,S.ni⟩
 ·intro j oj hj hoj e he vz;rcases (Xc j).1 hj with h|h
  ·exact(Xc _).2 (.inl (S.cl j oj h hoj e he vz))
  ·subst h;exact(Xc _).2 (.inl (S.ord.2.2.1 oj hoj e he vz))
 ·intro j hj;rcases (Xc j).1 hj with h|h
  ·exact(L8 j).2 (.inl (S.sub j h))
  ·exact(L8 j).2 (.inr h)
 ·intro j hj;rcases (L8 j).1 hj with h|h
  ·exact S.IT j h
  ·subst h;exact hi
 ·intro j hj q hq hbq;rcases (L8 j).1 hj with h|h
  ·exact(L8 q).2 (.inl (S.lcl j h q hq hbq))
  ·subst h;exact(L8 q).2 (.inl (hb q hq hbq))
 ·intro k j hj hd;rcases BD with⟨e1,e2⟩|⟨kd,e1,e2,_⟩
  ·rcases (L8 j).1 hj with h|h
   ·have bU:j≠i:=by intro e;subst e;rw[hL]at h;cases h
    rw[e2];simp only[bN,xS,bU,if_false];exact S.a1 k j h hd
   ·subst h;rw[Y7,e1]at hd;cases hd
  ·rw[e2];simp only[bN];rcases (L8 j).1 hj with h|h
   ·have bU:j≠i:=by intro e;subst e;rw[hL]at h;cases h
    have hk:k≠kd:=by intro e;subst e;exact bU (S.Ov.Oi hd (Y7.trans e1))
    rw[aR _ _ _ _ hk];simp only[xS,bU,if_false];exact S.a1 k j h hd
   ·subst h;rw[Y7,e1]at hd;have hk:k=kd:=Key.toNat_inj (by simpa using hd.symm);subst hk;rw[gTSm];simp[xS]
 ·intro k pF;rcases BD with⟨e1,e2⟩|⟨kd,e1,e2,_⟩
  ·rw[e2];exact S.a2 k fun j hj=>pF j ((L8 j).2 (.inl hj))
  ·rw[e2];simp only[bN];have hk:k≠kd:=by intro e;subst e;exact pF i ((L8 i).2 (.inr rfl)) (Y7.trans e1)
   rw[aR _ _ _ _ hk];exact S.a2 k fun j hj=>pF j ((L8 j).2 (.inl hj))
 ·intro k j b hj hjd hjv;rw[DX];rcases (Xc j).1 hj with h|h
  ·have bU:j≠i:=by intro e;subst e;rw[hDi]at h;cases h
   by_cases e:o.dst=some k.toNat
   ·exact absurd (S.Ov.Oi (Y7.trans e) hjd).symm bU
   ·rw[if_neg e];exact S.c1 k j b h hjd (by simpa[xS,bU]using hjv)
  ·subst h;rw[Y7]at hjd;rw[if_pos hjd];have hjv:b=a:=by simpa[xS]using hjv.symm
   subst hjv;exact⟨v,rfl,hv⟩
 ·intro k b pF ha;rw[DX];have hni:o.dst≠some k.toNat:=by intro e;exact pF i ((Xc i).2 (.inr rfl)) (Y7.trans e)
  rw[if_neg hni];exact S.c2 k b (fun j hj=>pF j ((Xc j).2 (.inl hj))) ha
 ·intro j hj hjD;have hjD:(g.D j||j==i)=false:=hjD;rw[Bool.or_eq_false_iff]at hjD;have bU:j≠i:=by simpa using hjD.2
  have hjL:=((L8 j).1 hj).resolve_right bU;exact(S.pd j hjL hjD.1).lF (hnb j hjL) bU (fun _ h=>h) (fun _ h=>.inl h)
 ·intro x hx;obtain⟨p1,p2,p3,p4,p5⟩:=S.pe x hx;have bU:x.1≠i:=by intro e;rw[e,hL]at p1;cases p1
  refine⟨(L8 _).2 (.inl p1),fun h=>p2 (((Xc _).1 h).resolve_right bU),fun h=>p3 ?_,p4,p5⟩;have h:(g.D x.1||x.1==i)=false:=h;rw[Bool.or_eq_false_iff]at h;exact h.1
theorem fZ.OG(S:fZ P ρ orc nt ops pl bf μ G H nx g CY aq tm tmps (i ::rest))(hL:hasB g.L i=false)(hb:∀j,j<ops.size→hasB (fA bf i) j=true→hasB g.L j=true){o:Oper}(ho:ops[i]?=some o) :
  ∀(k:Key) a,k.toNat∈kT ops o→ae k tm=some a→∃v,tmps[k.toNat]?=some v∧aS ρ μ a v:=
 S.Kh (S.ako S.ready.1 hL hb) ho
theorem I7:∀{p:List (Nat×Key×ah)} {h:T ah},HSub h G→(∀x∈p,G x.2.1=some x.2.2)→HSub (cZ p h) G
 | [],h,hs,_=>hs
 |x ::p,h,hs,hp=>by
  refine I7 (p:=p) ?_ (fun y hy=>hp y (by simp[hy]));intro b B hb;by_cases e:b=x.2.1
  ·subst e;rw[gTSm]at hb;cases hb;exact hp x (by simp)
  ·rw[aR _ _ _ _ e]at hb;exact hs b B hb
theorem yT:∀{p:List (Nat×Key×ah)} {h:T ah} {b:Key},ae b h=none→(∀x∈p,x.2.1.toNat≠b.toNat)→ae b (cZ p h)=none
 | [],h,b,hb,_=>hb
 |x ::p,h,b,hb,hp=>by refine yT (p:=p) ?_ (fun y hy=>hp y (by simp[hy]));rw[aR _ _ _ _ (fun e=>hp x (by simp) (by rw[e]))];exact hb
end
end Go.Sx
