/- A part of the proof. No condition. -/
import Derived.Test.YtecbfpngkfdkoaaGreatP3
import Derived.Orders
import Derived.Recover
set_option linter.unusedSimpArgs false
set_option linter.unusedVariables false
set_option linter.unusedSectionVars false
namespace Go.Sx
open Go.RowKit
section
variable{P:Program}{ρ:Nat→Int}{w0:W0}{w:World}{μ:Mu}{G:Key→Option ah}{nx:Key}{orc:jR}{nt:Nat}{tm:T AV}{H:T ah}{ev:Operand→Value}
theorem WW{op:MD}{r:OR}(h:aOp orc op tm H nx=r)(hl:aOp orc op tm H nx=okV H nx (lightOp orc op tm H)):(∃a H' nx',r=.val a H' nx')∨∃n,r=.bad n:=by
 rw[hl]at h;subst h;cases lightOp orc op tm H with
 |none=>exact .inr ⟨_,rfl⟩
 |some v=>exact .inl ⟨_,_,_,rfl⟩
def EO(r:OR):Prop:=(∃a H' nx',r=.val a H' nx')∨∃n,r=.bad n
def awo:MD→Bool
 |.callF _ _|.callV _ _|.dfr _ _|.panic _|.recover=>true
 |_=>false
theorem aiq{α:Type}{vs:List α}{off:Nat}{l:List α}{bad:OR}{c:List α→OR}(hb:EO bad)(hc:∀l,EO (c l)):EO (abl vs off l bad c):=by
 rw[putC_eq];split
 ·exact hc _
 ·exact hb
theorem UI{α:Type}{n:Nat}{l:List α}{bad:OR}{c:List α→OR}(hb:EO bad)(hc:∀l,EO (c l)):EO (CV n l bad c):=by
 rw[takeC_eq];split
 ·exact hc _
 ·exact hb
theorem dN(n:Nat):EO (.bad n):=.inr ⟨n,rfl⟩
theorem se(a:AV)(H:T ah)(nx:Key):EO (.val a H nx):=.inl ⟨_,_,_,rfl⟩
theorem UJ(f:Key→AV)(B:ah):EO (newB f B H nx):=by simp only[newB,sTCe];exact se _ _ _
theorem mo{b:Bool}{x y:OR}(hx:EO x)(hy:EO y):EO (bif b then x else y):=by cases b<;>assumption
theorem yx(sz:Nat)(s:AV)(new:List AV)(m:Nat):EO (appendTo sz s new m H nx):=by
 unfold appendTo;split
 ·refine mo (se _ _ _) (mo ?_ (dN _));rw[sTCe];exact se _ _ _
 ·refine mo (se _ _ _) (mo ?_ (dN _));split
  ·exact dN _
  ·split
   ·rw[appC_eq,sTCe,sTCe];exact se _ _ _
   ·exact dN _
 ·refine mo ?_ (dN _);split
  ·refine mo (aiq (dN _) fun _=>by rw[sTCe];exact se _ _ _) (UI (dN _) fun _=>?_);rw[yp (H4 9999),appC_eq,sTCe];exact se _ _ _
  ·refine mo (dN _) (UI (dN _) fun _=>?_);rw[yp (H4 9999),appC_eq,sTCe];exact se _ _ _
  ·refine mo (se _ _ _) (mo (mo ?_ ?_) (dN _))<;>(rw[appC_eq,sTCe,sTCe];exact se _ _ _)
  ·exact dN _
 ·exact dN _
theorem awp{op:MD}(he:awo op=false):EO (aOp orc op tm H nx):=by
 cases op with
 |callF f' ps=>cases he
 |callV pv ps=>cases he
 |dfr v l=>cases he
 |panic x=>cases he
 |recover=>cases he
 |strb x=>
  simp only[aOp];split
  ·exact se _ _ _
  ·exact dN _
 |store n pa pv=>
  simp only[aOp];split
  ·refine mo ?_ (dN _);split
   ·exact dN _
   ·exact aiq (dN _) fun _=>by rw[sTCe];exact se _ _ _
   ·exact dN _
  ·exact dN _
 |mapupd sk pm pk pv=>
  simp only[aOp];split
  ·split
   ·split
    ·rw[sTCe];exact se _ _ _
    ·exact dN _
   ·exact dN _
  ·exact dN _
 |append sz ps px=>
  simp only[aOp];split
  ·exact yx _ _ _ _
  ·refine mo ?_ (dN _);split
   ·exact UI (dN _) fun _=>by rw[yp (H4 9999)];exact yx _ _ _ _
   ·exact dN _
  ·exact mo (yx _ _ _ _) (dN _)
  ·exact mo (yx _ _ _ _) (dN _)
  ·exact dN _
 |new zs=>simp only[aOp];split;exact UJ _ _;exact dN _
 |box x=>simp only[aOp];split;exact UJ _ _;exact dN _
 |bslice sz len zs ps=>simp only[aOp];split;exact UJ _ _;exact dN _
 |mkmap=>simp only[aOp];split;exact UJ _ _;exact dN _
 |mkslice sz zs l c=>simp only[aOp];split;exact UJ _ _;exact dN _
 |_=>exact WW rfl rfl
theorem NL{op:MD}{r:OR}(h:aOp orc op tm H nx=r)(hr:¬EO r):awo op=true:=by
 cases he:awo op with
 |true=>rfl
 |false=>exact absurd (h ▸ awp (orc:=orc) (tm:=tm) (H:=H) (nx:=nx) he) hr
theorem air{f:Nat}{first cap:List AV}{v:Value}(h:aY ρ μ (.fn f first cap) v):∃vs ws,v=.func (.func f) vs ws∧az ρ μ first vs.toList∧az ρ μ cap ws.toList:=by cases h with|fn _ _ _ vs ws h h'=>exact⟨vs,ws,rfl,h,h'⟩
theorem sE {f : Nat} {fn : Func} (hf : P.funcs[f]? = some fn) (hb : fn.body.isSome = true) (hn : fn.name ≠ "runtime.NumGoroutine") (args : Array Value) : (callFunc f args).run P w = .ok (.enter f args) w := by
 have h1:fn.body.isNone=false:=by cases h:fn.body<;>simp_all
 have h2 : (fn.name == "runtime.NumGoroutine") = false := by simpa using hn
 simp only[callFunc,tJ,run_program,qv,hf,h2,h1,XY,if_false,xJ]
theorem aeB{o:Oper}{op:MD}(hp:ky P nt o=some op)(hE:CE P ρ μ nt o.op.operands.toList tm ev){f:Nat}{l:List AV}(h:aOp orc op tm H nx=.call f l)
  {fn : Func} (hf : P.funcs[f]? = some fn) (hb : fn.body.isSome = true) (hn : fn.name ≠ "runtime.NumGoroutine") :
  ∃args,(Go.execOp ev o).run P w=.ok (.enter f args) w∧az ρ μ l args.toList:=by
 have he:=NL h (by rintro(⟨_,_,_,e⟩|⟨_,e⟩)<;>cases e);obtain⟨dst,JF,ty,pos,after,guard⟩:=o;cases op<;>first|(cases he;done)|skip
 ·rename_i f' ps;obtain⟨c,fn',e0,hc,dQ,_⟩:=lU hp;obtain⟨callee,args,argTypes⟩:=c;simp only at e0 hc dQ;subst e0 hc;simp only[aOp]at h;split at h
  ·rename_i l' Yi;simp only[OR.call.injEq]at h;obtain⟨rfl,rfl⟩:=h;have hv:aY ρ μ (.fn f' [] []) (ev (.func f')):=hE (.func f') (by simp[Op.operands,Call.operands]) _ _ rfl rfl;obtain⟨vs,ws,e1,h1,h2⟩:=air hv;have hvs:vs=#[]:=by apply Array.ext';generalize vs.toList=x at h1;cases h1;rfl
   have hws:ws=#[]:=by apply Array.ext';generalize ws.toList=x at h2;cases h2;rfl
   subst hvs hws;refine⟨args.map ev,?_,?_⟩
   ·simp[Go.execOp,resolve,e1,Deferred.ofValue,invoke,sE hf hb hn]
   ·have:=nj (ev:=ev) dQ Yi (hE.sub fun y hy=>by simp[Op.operands,Call.operands]at hy ⊢;exact .inr hy);simpa using this
  ·cases h
 ·rename_i pv ps;obtain⟨c,x,e0,hc,hx,dQ⟩:=lU hp;obtain⟨callee,args,argTypes⟩:=c;simp only at e0 hc dQ;subst e0 hc;simp only[aOp]at h;split at h
  ·rename_i f' first cap l' YT Yi
   simp only[OR.call.injEq]at h;obtain⟨rfl,rfl⟩:=h;have hv:=hE x (by simp[Op.operands,Call.operands]) pv _ hx YT;obtain⟨vs,ws,e1,h1,h2⟩:=air hv;refine⟨vs++args.map ev++ws,?_,?_⟩
   ·simp[Go.execOp,resolve,e1,Deferred.ofValue,invoke,sE hf hb hn]
   ·have:=nj (ev:=ev) dQ Yi (hE.sub fun y hy=>by simp[Op.operands,Call.operands]at hy ⊢;exact .inr hy);have h3:az ρ μ l' (args.map ev).toList:=by simpa using this
    simpa using(h1.append h3).append h2
  ·cases h
  ·cases h
 ·rename_i v l';simp only[aOp]at h;split at h<;>cases h
 ·rename_i x;simp only[aOp]at h;split at h<;>cases h
 ·cases h
theorem ajC{o:Oper}{op:MD}(hp:ky P nt o=some op)(hE:CE P ρ μ nt o.op.operands.toList tm ev){k:Key}{l:List AV}(h:aOp orc op tm H nx=.yld k l) :
  ∃args lc,μ k=some lc∧(Go.execOp ev o).run P w=(Instr.yield lc.c args).run P w∧az ρ μ l args.toList:=by
 have he:=NL h (by rintro(⟨_,_,_,e⟩|⟨_,e⟩)<;>cases e);obtain⟨dst,JF,ty,pos,after,guard⟩:=o;cases op<;>first|(cases he;done)|skip
 ·simp only[aOp]at h;split at h<;>cases h
 ·rename_i pv ps;obtain⟨c,x,e0,hc,hx,dQ⟩:=lU hp;obtain⟨callee,args,argTypes⟩:=c;simp only at e0 hc dQ;subst e0 hc;simp only[aOp]at h;split at h
  ·cases h
  ·rename_i k' l' YT Yi;simp only[OR.yld.injEq]at h;obtain⟨rfl,rfl⟩:=h;have hv:=hE x (by simp[Op.operands,Call.operands]) pv _ hx YT;generalize qy:ev x=xx at hv;cases hv with|yld _ lc r hm hr=>
   subst hr;refine⟨args.map ev,lc,hm,?_,?_⟩
   ·simp[Go.execOp,resolve,qy,Deferred.ofValue,invoke]
   ·have:=nj (ev:=ev) dQ Yi (hE.sub fun y hy=>by simp[Op.operands,Call.operands]at hy ⊢;exact .inr hy);simpa using this
  ·cases h
 ·simp only[aOp]at h;split at h<;>cases h
 ·simp only[aOp]at h;split at h<;>cases h
 ·cases h
theorem ajD{o:Oper}{op:MD}(hp:ky P nt o=some op)(hE:CE P ρ μ nt o.op.operands.toList tm ev){a:AV}(h:aOp orc op tm H nx=.pan a) :
  ∃v,(Go.execOp ev o).run P w=.halt (.panic v) w∧aY ρ μ a v:=by
 have he:=NL h (by rintro(⟨_,_,_,e⟩|⟨_,e⟩)<;>cases e);obtain⟨dst,JF,ty,pos,after,guard⟩:=o;cases op<;>first|(cases he;done)|skip
 ·simp only[aOp]at h;split at h<;>cases h
 ·simp only[aOp]at h;split at h<;>cases h
 ·simp only[aOp]at h;split at h<;>cases h
 ·rename_i px;obtain⟨x,e0,hx⟩:=lU hp;simp only at e0;subst e0;simp only[aOp]at h;split at h
  ·rename_i t u hu;simp only[OR.pan.injEq]at h;subst h;have hv:=hE x (by simp[Op.operands]) px _ hx hu;refine⟨ev x,?_,hv⟩;generalize qy:ev x=xx at hv;cases hv;simp[Go.execOp,qy,Instr.panic]
  ·cases h
 ·cases h
theorem ajE{o:Oper}{op:MD}(hp:ky P nt o=some op)(hE:CE P ρ μ nt o.op.operands.toList tm ev){f:Nat}{l:List AV}(h:aOp orc op tm H nx=.dfr f l) :
  ∃c ws vs,o.op=.defer c∧(resolve ev c o.type).run P w=.ok ⟨.fn (.func f) ws,vs⟩ w∧(Go.execOp ev o).run P w=.ok (.defer ⟨.fn (.func f) ws,vs⟩) w∧az ρ μ l (vs++ws).toList:=by
 have he:=NL h (by rintro(⟨_,_,_,e⟩|⟨_,e⟩)<;>cases e);obtain⟨dst,JF,ty,pos,after,guard⟩:=o;cases op<;>first|(cases he;done)|skip
 ·simp only[aOp]at h;split at h<;>cases h
 ·simp only[aOp]at h;split at h<;>cases h
 ·rename_i pv ps;obtain⟨c,x,e0,hc,hx,dQ⟩:=lU hp;obtain⟨callee,args,argTypes⟩:=c;simp only at e0 hc dQ;subst e0 hc;simp only[aOp]at h;split at h
  ·rename_i f' first cap l' YT Yi
   simp only[OR.dfr.injEq]at h;obtain⟨rfl,rfl⟩:=h;have hv:=hE x (by simp[Op.operands,Call.operands]) pv _ hx YT;obtain⟨vs,ws,e1,h1,h2⟩:=air hv;refine⟨_,ws,vs++args.map ev,rfl,?_,?_,?_⟩
   ·simp[resolve,e1,Deferred.ofValue]
   ·simp[Go.execOp,resolve,e1,Deferred.ofValue]
   ·have:=nj (ev:=ev) dQ Yi (hE.sub fun y hy=>by simp[Op.operands,Call.operands]at hy ⊢;exact .inr hy);have h3:az ρ μ l' (args.map ev).toList:=by simpa using this
    simpa using(h1.append h3).append h2
  ·cases h
 ·simp only[aOp]at h;split at h<;>cases h
 ·cases h
theorem Wn{o:Oper}{op:MD}(hp:ky P nt o=some op)(h:aOp orc op tm H nx=.recover):(Go.execOp ev o).run P w=.ok .recover w:=by
 have he:=NL h (by rintro(⟨_,_,_,e⟩|⟨_,e⟩)<;>cases e);obtain⟨dst,JF,ty,pos,after,guard⟩:=o;cases op<;>first|(cases he;done)|skip
 ·simp only[aOp]at h;split at h<;>cases h
 ·simp only[aOp]at h;split at h<;>cases h
 ·simp only[aOp]at h;split at h<;>cases h
 ·simp only[aOp]at h;split at h<;>cases h
 ·obtain⟨c,e0,hc,dQ⟩:=lU hp;obtain⟨callee,args,argTypes⟩:=c;simp only at e0 hc dQ;subst e0 hc dQ;simp[Go.execOp,resolve,invoke,Go.builtin]
end
def SG(ops:Array Oper):(Nat→Bool)→List Nat→Prop
 |D,[]=>∀i,i<ops.size→D i=true
 |D,i ::r=>i<ops.size∧D i=false∧(∀o,ops[i]?=some o→∀e∈o.after.toList,Region.binds .any e=true→D e.on=true)∧SG ops (fun j=>D j||j==i) r
theorem SG.congr{ops:Array Oper}:∀{l:List Nat} {D D':Nat→Bool},(∀i,i<ops.size→D i=D' i)→(∀(i:Nat) (o:Oper),ops[i]?=some o→∀e∈o.after.toList,Region.binds .any e=true→e.on<ops.size)→SG ops D l→SG ops D' l
 | [],D,D',h,_,hv=>fun i hi=>by rw[←h i hi];exact hv i hi
 |i ::r,D,D',h,he,hv=>by obtain⟨h1,h2,h3,h4⟩:=hv;refine⟨h1,by rw[←h i h1];exact h2,fun o ho e hm hb=>?_,SG.congr (fun j hj=>by rw[h j hj]) he h4⟩;rw[←h e.on (he i o ho e hm hb)];exact h3 o ho e hm hb
def OQ(ops:Array Oper):Prop:=∀(i:Nat) (o:Oper),ops[i]?=some o→∀e∈o.after.toList,Region.binds .any e=true→e.on<i
def unl(n:Nat)(listed:Array Bool):Nat:=(List.range n).countP fun i=>!listed.getD i true
theorem ajx{n:Nat}{listed:Array Bool}(hs:listed.size=n){i:Nat}(hi:i<n)(hf:listed.getD i true=false):unl n listed=unl n (listed.setIfInBounds i true)+1:=by
 unfold unl;have key:∀(l:List Nat),l.Nodup→(∀j∈l,j<n)→l.countP (fun j=>!listed.getD j true)=l.countP (fun j=>!(listed.setIfInBounds i true).getD j true)+(if i∈l then 1 else 0):=by
  intro l
  induction l with
  |nil=>intro _ _;simp
  |cons x l ih=>
   intro SV cD;have aDi:=List.nodup_cons.1 SV;rw[List.countP_cons,List.countP_cons,ih aDi.2 (fun j hj=>cD j (by simp[hj]))];by_cases hx:x=i
   ·subst hx;have h1:(listed.setIfInBounds x true).getD x true=true:=by simp[Array.getD,hs,hi]
    simp only[hf,h1,aDi.1,if_false,OG,true_or,if_true];simp
   ·have h1:(listed.setIfInBounds i true).getD x true=listed.getD x true:=by simp only[Array.getD_eq_getD_getElem?];rw[zqn (fun e=>hx e.symm)]
    have h2:(i∈x ::l)↔i∈l:=by simp[Ne.symm hx]
    simp only[h1,h2];omega
 rw[key _ List.nodup_range (fun j hj=>by simpa using hj),if_pos (by simpa using hi)]
theorem atF{n:Nat}{listed:Array Bool}(h:0<unl n listed):∃i,i<n∧listed.getD i true=false∧∀j,j<i→listed.getD j true=true:=by
 unfold unl at h;rw[List.countP_pos_iff]at h;obtain⟨a,ha,hb⟩:=h;have ha:a<n:=by simpa using ha
 have hb:listed.getD a true=false:=by simpa using hb
 induction a using Nat.strongRecOn with
 |_ a ih=>
  by_cases CX:∀j,j<a→listed.getD j true=true
  ·exact⟨a,ha,hb,CX⟩
  ·simp only[Classical.not_forall]at CX;obtain⟨j,hj,hjf⟩:=CX;exact ih j hj (by simpa using Nat.lt_trans hj ha) (by simpa using hjf) (Nat.lt_trans hj ha) (by simpa using hjf)
theorem Oz{ops:Array Oper}(hd:OQ ops):∀(fuel t:Nat) (listed:Array Bool) (acc:List Nat),listed.size=ops.size→unl ops.size listed=fuel→
  ∃r,Region.linearise.go .any ops fuel t listed acc=acc.reverse++r∧SG ops (fun i=>listed.getD i true) r
 |0,t,listed,acc,hs,hu=>by
  refine⟨[],by simp[Region.linearise.go],fun i hi=>?_⟩;show listed.getD i true=true;cases h:listed.getD i true with
  |true=>rfl
  |false=>have:=ajx hs hi h;omega
 |fuel+1,t,listed,acc,hs,hu=>by
  obtain⟨i0,hi0,hf0,aK5⟩:=atF (n:=ops.size) (listed:=listed) (by omega);simp only[Region.linearise.go];generalize hrs:(List.range ops.size).filter (fun i=>!listed.getD i true&&((ops[i]?).map (·.after.all fun e=>!Region.binds .any e||listed.getD e.on false)).getD false)=rs;have qK:∀i,i∈rs↔i<ops.size∧listed.getD i true=false∧∀o,ops[i]?=some o→∀e∈o.after.toList,Region.binds .any e=true→listed.getD e.on false=true:=by
   intro i;rw[←hrs,List.mem_filter];constructor
   ·rintro⟨h1,h2⟩;have hi:i<ops.size:=by simpa using h1
    simp only[mP,Bool.not_eq_true']at h2;refine⟨hi,h2.1,fun o ho e he hb=>?_⟩;have h3:=h2.2;rw[ho]at h3;simp only[Option.map_some,Option.getD_some,Array.all_eq_true_iff_forall_mem]at h3;have:=h3 e (by simpa using he);simpa[hb]using this
   ·rintro⟨hi,h1,h2⟩;refine⟨by simpa using hi,?_⟩;simp only[mP,Bool.not_eq_true'];refine⟨h1,?_⟩;have ho:ops[i]?=some ops[i]:=by simp[hi]
    rw[ho];simp only[Option.map_some,Option.getD_some,Array.all_eq_true_iff_forall_mem];intro e he;cases hb:Region.binds .any e with
    |false=>rfl
    |true=>simpa using h2 _ ho e (by simpa using he) hb
  have bX:i0∈rs:=by
   rw[qK];refine⟨hi0,hf0,fun o ho e he hb=>?_⟩;have cD:=hd i0 o ho e he hb;have h1:=aK5 e.on cD;have:e.on<listed.size:=by omega
   simp only[Array.getD_eq_getD_getElem?,this,getElem?_pos,Option.getD_some]at h1 ⊢;exact h1
  have hlen:0<rs.length:=List.length_pos_of_mem bX;have cD:t%rs.length<rs.length:=Nat.mod_lt _ hlen;have HJ:rs[t%rs.length]?=some rs[t%rs.length]:=by simp[cD]
  rw[HJ];have MB:rs[t%rs.length]∈rs:=OA cD;generalize rs[t%rs.length]=i at MB;obtain⟨hi,hf,aK6⟩:=(qK i).1 MB;have hun:=ajx hs hi hf;obtain⟨r,hr,hv⟩:=Oz hd fuel (t / rs.length) (listed.setIfInBounds i true) (i ::acc) (by simp[hs]) (by omega);refine⟨i ::r,?_,hi,hf,fun o ho e he hb=>?_,?_⟩
  ·show Region.linearise.go _ _ _ _ _ _=_;rw[hr];simp
  ·have h1:=aK6 o ho e he hb;have cD:=hd i o ho e he hb;have:e.on<listed.size:=by omega
   simp only[Array.getD_eq_getD_getElem?,this,getElem?_pos,Option.getD_some]at h1 ⊢;exact h1
  ·refine SG.congr ?_ (fun j o ho e he hb=>?_) hv
   ·intro j hj;by_cases v7:j=i
    ·subst v7;have:j<listed.size:=by omega
     simp[Array.getD,this]
    ·simp only[Array.getD_eq_getD_getElem?];rw[zqn (fun e=>v7 e.symm)];simp[v7]
   ·have h1:=hd j o ho e he hb;have:j<ops.size:=by
     rcases MO j ops.size with h'|h'
     ·exact h'
     ·rw[zqj h']at ho;cases ho
    omega
theorem Wa{ops:Array Oper}(hd:OQ ops)(t:Nat):SG ops (fun _=>false) (Region.schedule true ops t):=by
 have hu:unl ops.size (Array.replicate ops.size false)=ops.size:=by
  unfold unl;rw[List.countP_eq_length.2 (fun a ha=>by
   have:a<ops.size:=by simpa using ha
   simp[Array.getD,this])]
  simp
 obtain⟨r,hr,hv⟩:=Oz hd ops.size t (Array.replicate ops.size false) [] (by simp) hu;have:Region.schedule true ops t=r:=by simp[Region.schedule,Region.linearise,hr]
 rw[this];refine SG.congr (fun i hi=>by simp[Array.getD,hi]) (fun j o ho e he hb=>?_) hv;have h1:=hd j o ho e he hb;have:j<ops.size:=by
  rcases MO j ops.size with h'|h'
  ·exact h'
  ·rw[zqj h']at ho;cases ho
 omega
section
variable{P:Program}{fr:Frame}{cs:List Frame}{w w':World}{k:List Item}
def G1(fr:Frame)(cs:List Frame):Goroutine:={frame:=fr,callers:=cs,status:=.running,dying:=none}
theorem akI(hm:fr.mode=.run):stepG P true (G1 fr cs) w=stepG.exec P true true fr cs none w:=by simp[stepG,G1,hm]
theorem Z0(hm:fr.mode≠.run):stepG P true (G1 fr cs) w=unwind P true fr cs none w:=by
 cases h:fr.mode with
 |run=>exact absurd h hm
 |returning=>simp[stepG,G1,h]
 |panicking c=>simp[stepG,G1,h]
theorem eP{iR:Frame}{Jt:List Frame}(hm:fr.mode=.run)(h:(stepG.exec P true true fr cs none w).bare=.go (G1 iR Jt) w'):step P (lone fr cs w)=.next (lone iR Jt w'):=
 step_lone_go (by have:=akI (P:=P) (cs:=cs) (w:=w) hm;simp only[G1]at this h;rw[this];exact h)
theorem PO{iR:Frame}{Jt:List Frame}(hm:fr.mode≠.run)(h:(unwind P true fr cs none w).bare=.go (G1 iR Jt) w'):step P (lone fr cs w)=.next (lone iR Jt w'):=
 step_lone_go (by have:=Z0 (P:=P) (cs:=cs) (w:=w) hm;simp only[G1]at this h;rw[this];exact h)
theorem asJ(hm:fr.mode=.run)(ht:fr.todo=.code .skip ::k):step P (lone fr cs w)=.next (lone {fr with todo:=k} cs w):=
 eP hm (by simp[stepG.exec,ht,G1])
theorem axC{a b:Code}(hm:fr.mode=.run)(ht:fr.todo=.code (.seq a b) ::k):step P (lone fr cs w)=.next (lone {fr with todo:=.code a ::.code b ::k} cs w):=
 eP hm (by simp[stepG.exec,ht,G1])
theorem aiN{c:Operand}{a b:Code}{t:Bool}(hm:fr.mode=.run)(ht:fr.todo=.code (.cond c a b) ::k)(hc:fr.eval c=.bool t) :
  step P (lone fr cs w)=.next (lone {fr with todo:=.code (if t then a else b) ::k} cs w):=
 eP hm (by simp[stepG.exec,ht,G1,hc])
theorem aoM{id:Nat}{c:Code}(hm:fr.mode=.run)(ht:fr.todo=.code (.block id c) ::k):step P (lone fr cs w)=.next (lone {fr with todo:=.code c ::.inBlock id ::k} cs w):=
 eP hm (by simp[stepG.exec,ht,G1])
theorem afj{id:Nat}(hm:fr.mode=.run)(ht:fr.todo=.inBlock id ::k):step P (lone fr cs w)=.next (lone {fr with todo:=k} cs w):=
 eP hm (by simp[stepG.exec,ht,G1])
theorem aoN{c:Code}(hm:fr.mode=.run)(ht:fr.todo=.code (.scope c) ::k):step P (lone fr cs w)=.next (lone {fr with todo:=.code c ::.inScope c ::k} cs w):=
 eP hm (by simp[stepG.exec,ht,G1])
theorem aoO{i:Nat}(hm:fr.mode=.run)(ht:fr.todo=.code (.label i) ::k):step P (lone fr cs w)=.next (lone {fr with todo:=k} cs w):=
 eP hm (by simp[stepG.exec,ht,G1])
theorem afk{c:Code}(hm:fr.mode=.run)(ht:fr.todo=.inScope c ::k):step P (lone fr cs w)=.next (lone {fr with todo:=k} cs w):=
 eP hm (by simp[stepG.exec,ht,G1])
theorem Z1{c:Code}(hm:fr.mode=.run)(ht:fr.todo=.code (.loop c) ::k):step P (lone fr cs w)=.next (lone {fr with todo:=.code c ::.inLoop c ::k} cs w):=
 eP hm (by simp[stepG.exec,ht,G1])
theorem akq{c:Code}(hm:fr.mode=.run)(ht:fr.todo=.inLoop c ::k):step P (lone fr cs w)=.next (lone {fr with todo:=.code c ::.inLoop c ::k} cs w):=
 eP hm (by simp[stepG.exec,ht,G1])
theorem asK{id:Nat}{k':List Item}(hm:fr.mode=.run)(ht:fr.todo=.code (.exit id) ::k)(he:exitTo id k=some k'):step P (lone fr cs w)=.next (lone {fr with todo:=k'} cs w):=
 eP hm (by simp[stepG.exec,ht,G1,he])
theorem akJ{id:Nat}{ops:Array Oper}(hm:fr.mode=.run)(ht:fr.todo=.code (.region id ops false) ::k) :
  step P (lone fr cs w)=.next (lone {fr with todo:=.inRegion ops (List.range ops.size) ::k} cs w):=
 eP hm (by simp[stepG.exec,ht,G1])
theorem asL{id:Nat}{ops:Array Oper}(hm:fr.mode=.run)(ht:fr.todo=.code (.region id ops true) ::k) :
  ∃t,step P (lone fr cs w)=.next (lone {fr with todo:=.inRegion ops (Region.schedule (P.follows .mixedOrders) ops t) ::k} cs {w with drawn:=w.drawn+1}):=
 ⟨w.tape w.drawn (.order fr.fn id),eP hm (by simp[stepG.exec,ht,G1,choose,Sem.run,Question.forced,Question.cut])⟩
theorem KZ{ops:Array Oper}(hm:fr.mode=.run)(ht:fr.todo=.inRegion ops [] ::k):step P (lone fr cs w)=.next (lone {fr with todo:=k} cs w):=
 eP hm (by simp[stepG.exec,ht,G1])
theorem axD(hm:fr.mode=.run)(ht:fr.todo=[])(hr:fr.roundOf=none):step P (lone fr cs w)=.next (lone {fr with mode:=.returning} cs w):=
 eP hm (by simp[stepG.exec,ht,G1,hr])
theorem axE(hm:fr.mode=.run)(ht:fr.todo=.code .ret ::k)(hr:fr.roundOf=none):step P (lone fr cs w)=.next (lone {fr with mode:=.returning} cs w):=
 eP hm (by simp[stepG.exec,ht,G1,hr])
variable{ops:Array Oper}{i:Nat}{rest:List Nat}{o:Oper}
theorem Mb(hm:fr.mode=.run)(ht:fr.todo=.inRegion ops (i ::rest) ::k)(ho:ops[i]?=some o)(hw:Region.wanted o (yielded ops fr.tmps)=false) :
  step P (lone fr cs w)=.next (lone (fr.finish undef) cs w):=
 eP hm (by simp[stepG.exec,ht,G1,ho,hw])
def gi:Op→Bool
 |.defer _=>true
 |_=>false
theorem Br(ht:fr.todo=.inRegion ops (i ::rest) ::k)(ho:ops[i]?=some o)(hw:Region.wanted o (yielded ops fr.tmps)=true)(hd:fr.roundOf=none∨gi o.op=false) :
  stepG.exec P true true fr cs none w=stepG.apply P true fr cs none (Go.execOp fr.eval o) w:=by
 simp only[stepG.exec,ht,ho,Option.map_some,Option.getD_some,hw,if_true,stepG.oper,Frame.oper?];cases hr:fr.roundOf with
 |none=>rfl
 |some l=>rw[hr]at hd;have hd:gi o.op=false:=hd.resolve_left (by simp);cases mg:o.op<;>first|rfl|(rw[mg]at hd;cases hd)
theorem ZS{v:Value}(hm:fr.mode=.run)(ht:fr.todo=.inRegion ops (i ::rest) ::k)(ho:ops[i]?=some o)(hw:Region.wanted o (yielded ops fr.tmps)=true)(hd:fr.roundOf=none∨gi o.op=false)
  (h:(Go.execOp fr.eval o).run P w=.ok (.value v) w'):step P (lone fr cs w)=.next (lone (fr.finish v) cs w'):=
 eP hm (by rw[Br ht ho hw hd];simp[stepG.apply,h,G1])
theorem aiO(hm:fr.mode=.run)(ht:fr.todo=.inRegion ops (i ::rest) ::k)(ho:ops[i]?=some o)(hw:Region.wanted o (yielded ops fr.tmps)=true)(hd:fr.roundOf=none∨gi o.op=false)
  (h:(Go.execOp fr.eval o).run P w=.ok .skip w'):step P (lone fr cs w)=.next (lone (fr.finish undef) cs w'):=
 eP hm (by rw[Br ht ho hw hd];simp[stepG.apply,h,G1])
theorem alY{f:FuncId}{args:Array Value}(hm:fr.mode=.run)(ht:fr.todo=.inRegion ops (i ::rest) ::k)(ho:ops[i]?=some o)(hw:Region.wanted o (yielded ops fr.tmps)=true)(hd:fr.roundOf=none∨gi o.op=false)
  (h:(Go.execOp fr.eval o).run P w=.ok (.enter f args) w'):step P (lone fr cs w)=.next (lone (Frame.enter P f args .normal) (fr ::cs) w'):=
 eP hm (by rw[Br ht ho hw hd];simp[stepG.apply,h,G1,ht])
theorem alZ{l:Nat}{f:FuncId}{tmps:Array Value}{as bd:Code}(hm:fr.mode=.run)(ht:fr.todo=.inRegion ops (i ::rest) ::k)(ho:ops[i]?=some o)(hw:Region.wanted o (yielded ops fr.tmps)=true)(hd:fr.roundOf=none∨gi o.op=false)
  (h:(Go.execOp fr.eval o).run P w=.ok (.round l f tmps as bd) w'):step P (lone fr cs w)=.next (lone (Frame.round l f tmps as bd .normal) (fr ::cs) w'):=
 eP hm (by rw[Br ht ho hw hd];simp[stepG.apply,h,G1])
theorem al0{v:Value}(hm:fr.mode=.run)(ht:fr.todo=.inRegion ops (i ::rest) ::k)(ho:ops[i]?=some o)(hw:Region.wanted o (yielded ops fr.tmps)=true)(hd:fr.roundOf=none∨gi o.op=false)
  (h:(Go.execOp fr.eval o).run P w=.halt (.panic v) w'):step P (lone fr cs w)=.next (lone {fr with mode:=.panicking [{v,recovered:=false}]} cs w'):=
 eP hm (by rw[Br ht ho hw hd];simp[stepG.apply,h,G1,Frame.raise,hm])
theorem al1{d:Deferred}(hm:fr.mode=.run)(ht:fr.todo=.inRegion ops (i ::rest) ::k)(ho:ops[i]?=some o)(hw:Region.wanted o (yielded ops fr.tmps)=true)(hd:fr.roundOf=none∨gi o.op=false)
  (h:(Go.execOp fr.eval o).run P w=.ok (.defer d) w'):step P (lone fr cs w)=.next (lone ({fr with defers:=d ::fr.defers}.finish undef) cs w'):=
 eP hm (by rw[Br ht ho hw hd];simp[stepG.apply,h,G1])
theorem RH{v:Value}{Jt:List Frame}(hm:fr.mode=.run)(ht:fr.todo=.inRegion ops (i ::rest) ::k)(ho:ops[i]?=some o)(hw:Region.wanted o (yielded ops fr.tmps)=true)(hr:fr.roundOf=none)
  (h:(Go.execOp fr.eval o).run P w=.ok .recover w') (aeD:tryRecover fr cs=some (v,Jt)):step P (lone fr cs w)=.next (lone (fr.finish v) Jt w'):=
 eP hm (by rw[Br ht ho hw (.inl hr)];simp[stepG.apply,h,G1,hr,aeD])
theorem RI(hm:fr.mode=.run)(ht:fr.todo=.inRegion ops (i ::rest) ::k)(ho:ops[i]?=some o)(hw:Region.wanted o (yielded ops fr.tmps)=true)(hr:fr.roundOf=none)
  (h:(Go.execOp fr.eval o).run P w=.ok .recover w') (aeD:tryRecover fr cs=none):step P (lone fr cs w)=.next (lone (fr.finish .nilIface) cs w'):=
 eP hm (by rw[Br ht ho hw (.inl hr)];simp[stepG.apply,h,G1,hr,aeD])
end
section
variable{P:Program}{fr c:Frame}{cs:List Frame}{w w':World}{k:List Item}{fn:Func}
theorem akr{v:Value}(hm:fr.mode=.returning)(hd:fr.defers=[])(hk:fr.kind=.normal)(hf:P.funcs[fr.fn]?=some fn)(hr:(results fn fr.tmps).run P w=.ok v w) :
  step P (lone fr (c ::cs) w)=.next (lone (c.finish v) cs w):=
 PO (by simp[hm]) (by simp[unwind,hd,hm,hf,hr,doReturn,hk,G1])
theorem L6{v:Value}(hm:fr.mode=.returning)(hd:fr.defers=[])(hk:fr.kind=.deferred)(hf:P.funcs[fr.fn]?=some fn)(hr:(results fn fr.tmps).run P w=.ok v w) :
  step P (lone fr (c ::cs) w)=.next (lone {c with mode:=settle c.mode} cs w):=
 step_going_returned (fr:=fr) hk ⟨hm,hd,fn,hf,hr⟩
theorem ab4{chain:List PanicEntry}(hm:fr.mode=.panicking chain)(hd:fr.defers=[])(hf:P.funcs[fr.fn]?=some fn) :
  step P (lone fr (c ::cs) w)=.next (lone (c.raise chain) cs w):=
 PO (by simp[hm]) (by simp[unwind,hd,hm,Frame.catches,hf,G1])
theorem ab2{d:Deferred}{ds:List Deferred}{fv:Fn}{cap args:Array Value}{f:FuncId}(hm:fr.mode≠.run)(hd:fr.defers=d ::ds)(ht:d.target=.fn fv cap)
  (hi:(invoke d.target d.args).run P w=.ok (.enter f args) w):step P (lone fr cs w)=.next (lone (Frame.enter P f args .deferred) ({fr with defers:=ds} ::cs) w):=
 step_defer hm hd ht hi
theorem ZI{b:Nat}{ds Cx:List Deferred}(hm:fr.mode≠.run)(hd:fr.defers=⟨.collected b,#[]⟩ ::ds)(h:(Instr.takeDeferred b).run P w=.ok Cx w') :
  step P (lone fr cs w)=.next (lone {fr with defers:=Cx++ds} cs w'):=
 PO hm (by simp[unwind,hd,h,G1])
theorem Vp{l:Nat}{v:Value}(hm:fr.mode=.run)(ht:fr.todo=[])(hr:fr.roundOf=some l)(hk:fr.kind=.normal)(h:(Instr.endRound l none).run P w=.ok v w') :
  step P (lone fr (c ::cs) w)=.next (lone (c.finish v) cs w'):=
 eP hm (by simp[stepG.exec,ht,hr,h,doReturn,hk,G1])
theorem aab{l:Nat}{v:Value}(hm:fr.mode=.run)(ht:fr.todo=.code .ret ::k)(hr:fr.roundOf=some l)(hk:fr.kind=.normal)(h:(Instr.endRound l (some .ret)).run P w=.ok v w') :
  step P (lone fr (c ::cs) w)=.next (lone (c.finish v) cs w'):=
 eP hm (by simp[stepG.exec,ht,hr,h,doReturn,hk,G1])
theorem Xp{l id:Nat}{v:Value}(hm:fr.mode=.run)(ht:fr.todo=.code (.exit id) ::k)(he:exitTo id k=none)(hr:fr.roundOf=some l)(hk:fr.kind=.normal)(h:(Instr.endRound l (some (.exit id))).run P w=.ok v w') :
  step P (lone fr (c ::cs) w)=.next (lone (c.finish v) cs w'):=
 eP hm (by simp[stepG.exec,ht,he,hr,h,doReturn,hk,G1])
theorem WY{l:Nat}(hm:fr.mode=.run)(ht:fr.todo=.beginRound ::k)(hr:fr.roundOf=some l)(h:(Instr.beginRound l).run P w=.ok () w') :
  step P (lone fr cs w)=.next (lone {fr with todo:=k} cs w'):=
 eP hm (by simp[stepG.exec,ht,hr,stepG.apply,h,G1,Frame.finish])
theorem an7{l:Nat}{j:Option Code}(hm:fr.mode=.run)(ht:fr.todo=.endRangeFunc l ::k)(h:(Instr.endLoop l).run P w=.ok j w') :
  step P (lone fr cs w)=.next (lone {fr with todo:=(j.map Item.code).toList++k} cs w'):=
 eP hm (by simp[stepG.exec,ht,h,G1])
theorem as8 (ev : Operand → Value) {f : Operand} {g : FuncId} {first cap : Array Value} (hev : ev f = .func (.func g) first cap) {y : Value} (hy : ev (.const y) = y) {fn' : Func} (hf : P.funcs[g]? = some fn') (hb : fn'.body.isSome = true) (hn : fn'.name ≠ "runtime.NumGoroutine") :
  (do let d ←resolve ev {callee:=.value f,args:=#[.const y],argTypes:=#[]} 0;invoke d.target d.args:Sem Next).run P w=.ok (.enter g (first ++ #[y]++cap)) w:=by
 simp[resolve,hev,Deferred.ofValue,invoke,hy,sE hf hb hn]
theorem aac{f:Operand}{params:Array Tmp}{as bd:Code}{l:Nat}{mk:List Deferred}{w1:World}{g:FuncId}{first cap:Array Value}{fn':Func}(hm:fr.mode=.run)(ht:fr.todo=.code (.rangeFunc f params as bd) ::k)(hr:fr.roundOf=none)
  (h:(Instr.enterLoop fr.fn fr.tmps params as bd none).run P w=.ok (l,mk) w1) (hev:fr.eval f=.func (.func g) first cap)
  (hf : P.funcs[g]? = some fn') (hb : fn'.body.isSome = true) (hn : fn'.name ≠ "runtime.NumGoroutine") :
  step P (lone fr cs w)=.next (lone (Frame.enter P g (first ++ #[.func (.yield l) #[] #[]]++cap) .normal) ({fr with todo:=.inRangeFunc l ::k,defers:=mk++fr.defers} ::cs) w1):=by
 obtain⟨fn0,ave,aOe,ai9,aOf,avf,aJH⟩:=fr;simp only at hm ht hr h hev;subst hm ht hr;refine eP rfl ?_;have aJI:({fn:=fn0,tmps:=ave,todo:=Item.inRangeFunc l ::k,defers:=mk++ai9,mode:=.run,kind:=avf}:Frame).eval f=.func (.func g) first cap:=by rw[←hev];cases f<;>rfl
 have RF:=as8 (w:=w1) ({fn:=fn0,tmps:=ave,todo:=Item.inRangeFunc l ::k,defers:=mk++ai9,mode:=.run,kind:=avf}:Frame).eval aJI (y:=.func (.yield l) #[] #[]) rfl hf hb hn;simp only[stepG.exec,Sem.runT_eq,h,GStep.bare_after];simp only[stepG.apply,Sem.runT_eq,RF,GStep.bare_after];simp[G1]
end
structure XX(P:Program)(nt:Nat)(ops:Array Oper)(pl:List aA)(bf:List Nat):Prop where
 ud:pB P nt ops (List.range ops.size)=some pl
 atU:SS ops bf=true
 aAf:YN ops bf=true
section
variable{P:Program}{ρ:Nat→Int}{nt:Nat}{ops:Array Oper}{pl:List aA}{bf:List Nat}
theorem LG:∀{l:List Nat} {pl:List aA},pB P nt ops l=some pl→pl.length=l.length∧∀(q i:Nat),l[q]?=some i→∃o po,ops[i]?=some o∧P9 P nt ops o=some po∧pl[q]?=some po
 | [],pl,h=>by simp only[pB,eM]at h;subst h;exact⟨rfl,fun q i hq=>by simp at hq⟩
 |j ::l,pl,h=>by
  simp only[pB]at h;split at h
  ·cases h
  ·rename_i o ho;split at h
   ·rename_i a r h1 h2;cases h;obtain⟨e1,e2⟩:=LG h2;refine⟨by simp[e1],fun q i hq=>?_⟩;cases q with
    |zero=>simp at hq;subst hq;exact⟨o,a,ho,h1,by simp⟩
    |succ q=>simpa using e2 q i (by simpa using hq)
   ·cases h
theorem XX.at(R:XX P nt ops pl bf){i:Nat}(hi:i<ops.size):∃o po,ops[i]?=some o∧P9 P nt ops o=some po∧pl[i]?=some po:=by obtain⟨_,h⟩:=LG R.ud;exact h i i (by simp[hi])
theorem XX.YU(R:XX P nt ops pl bf){i:Nat}{po:aA}(h:pl[i]?=some po):i<ops.size:=by
 obtain⟨h1,_⟩:=LG R.ud;rcases MO i ops.size with h'|h'
 ·exact h'
 ·rw[zqo (by rw[h1];simpa using h')]at h;cases h
theorem XX.aAg(R:XX P nt ops pl bf){i:Nat}{o:Oper}(ho:ops[i]?=some o){e:Edge}(he:e∈o.after.toList)(hb:Region.binds .any e=true):e.on<i∧hasB (gK bf i) e.on=true:=by
 have hi:i<ops.size:=by
  rcases MO i ops.size with h'|h'
  ·exact h'
  ·rw[zqj h']at ho;cases ho
 have h:=R.atU;unfold SS at h;rw[wG]at h;have h:=h i (by simpa using hi);rw[ho]at h;simp only[mP,wG]at h;have h:=h.1 e he;simp only[hb,Bool.not_true,Bool.false_or,mP,bltN_eq,decide_eq_true_eq]at h;exact h
theorem XX.down(R:XX P nt ops pl bf):OQ ops:=fun _ _ ho _ he hb=>(R.aAg ho he hb).1
theorem XX.pred(R:XX P nt ops pl bf){i:Nat}{o:Oper}(ho:ops[i]?=some o){j:Nat}(hj:j<ops.size)(hb:hasB (gK bf i) j=true) :
  ∃e∈o.after.toList,Region.binds .any e=true∧(e.on=j∨hasB (gK bf e.on) j=true):=by
 have hi:i<ops.size:=by
  rcases MO i ops.size with h'|h'
  ·exact h'
  ·rw[zqj h']at ho;cases ho
 have h:=R.atU;unfold SS at h;rw[wG]at h;have h:=h i (by simpa using hi);rw[ho]at h;simp only[mP,wG]at h;have h:=h.2 j (by simpa using hj);simp only[hb,Bool.not_true,Bool.false_or,List.any_eq_true,mP,Bool.or_eq_true,beqN_eq,decide_eq_true_eq]at h;exact h
def aeE(ops:Array Oper)(D:Nat→Bool):Prop:=∀(i:Nat) (o:Oper),D i=true→ops[i]?=some o→∀e∈o.after.toList,Region.binds .any e=true→D e.on=true
theorem XX.closed(R:XX P nt ops pl bf){D:Nat→Bool}(hD:aeE ops D):∀(i:Nat) (o:Oper),ops[i]?=some o→(∀e∈o.after.toList,Region.binds .any e=true→D e.on=true)→∀j,j<ops.size→hasB (gK bf i) j=true→D j=true:=by
 intro i
 induction i using Nat.strongRecOn with
 |_ i ih=>
  intro o ho hp j hj hb;obtain⟨e,he,heb,hor⟩:=R.pred ho hj hb;have cD:=(R.aAg ho he heb).1;have hi:i<ops.size:=by
   rcases MO i ops.size with h'|h'
   ·exact h'
   ·rw[zqj h']at ho;cases ho
  rcases hor with h|h
  ·rw[←h];exact hp e he heb
  ·have RJ:ops[e.on]?=some ops[e.on]:=by
    have:e.on<ops.size:=by omega
    simp[this]
   exact ih e.on cD _ RJ (fun e' he' iS=>hD e.on _ (hp e he heb) RJ e' he' iS) j hj h
theorem XX.slot(R:XX P nt ops pl bf){i j t:Nat}{o:Oper}(ho:ops[i]?=some o)(hj:pC ops j=some t) :
  (i=j→t∉mT ops o)∧(i≠j→o.dst≠some t∧(t∈mT ops o→hasB (gK bf i) j=true∨hasB (gK bf j) i=true)):=by
 have hi:i<ops.size:=by
  rcases MO i ops.size with h'|h'
  ·exact h'
  ·rw[zqj h']at ho;cases ho
 have bW:j<ops.size:=by
  rcases MO j ops.size with h'|h'
  ·exact h'
  ·simp[pC,zqj h']at hj
 have h:=R.aAf;unfold YN at h;rw[wG]at h;have h:=h i (by simpa using hi);rw[ho]at h;simp only[wG]at h;have h:=h j (by simpa using bW);rw[hj]at h;simp only[beqN_eq]at h;constructor
 ·rintro rfl;simpa using h
 ·intro bX;simp only[bX,decide_false,cond_false,mP,Bool.not_eq_true',Bool.or_eq_true]at h;refine⟨by simpa using h.1,fun hm=>?_⟩;have h2:=h.2;have hc:(mT ops o).contains t=true:=by simpa using hm
  rw[hc]at h2;simpa using h2
theorem aeG{j t:Nat}(hj:pC ops j=some t):∃o,ops[j]?=some o∧o.dst=some t:=by
 unfold pC at hj;cases h:ops[j]? with
 |none=>rw[h]at hj;cases hj
 |some o=>rw[h]at hj;exact⟨o,rfl,by simpa using hj⟩
theorem XX.SY(R:XX P nt ops pl bf){i j t:Nat}(hi:pC ops i=some t)(hj:pC ops j=some t):i=j:=by
 rcases Nat.decEq i j with bX|h
 ·obtain⟨o,ho,hd⟩:=aeG hi;exact absurd hd ((R.slot ho hj).2 bX).1
 ·exact h
end
theorem MP(m i j:Nat):hasB (MH m i) j=(hasB m j||decide (i=j)):=by unfold hasB MH;rw[Nat.testBit_or,Nat.testBit_two_pow]
theorem Jv(j:Nat):hasB 0 j=false:=by simp[hasB]
theorem Jw{n a b:Nat}:aez n a b=true↔∀j,j<n→hasB a j=true→hasB b j=true:=by
 unfold aez;rw[wG];constructor
 ·intro h j hj ha;have:=h j (by simpa using hj);simpa[ha]using this
 ·intro h j hj;have hj:j<n:=by simpa using hj
  cases ha:hasB a j with
  |false=>rfl
  |true=>simpa using h j hj ha
theorem qR{nt i:Nat}{k:Key}(h:J8 nt i=some k):k.toNat=i∧i<nt:=by unfold J8 at h;replace h:=aX h;obtain⟨hc,h⟩:=h;simp only[eM]at h;subst h;simp only[mP,bltN_eq,decide_eq_true_eq]at hc;exact⟨rZ hc.2,hc.1⟩
theorem jz{P:Program}{nt:Nat}{ops:Array Oper}{o:Oper}{po:aA}(h:P9 P nt ops o=some po) :
  ky P nt o=some po.op∧Tp nt ops o.guard=some po.guard∧((o.dst=none∧po.dst=none)∨∃k,o.dst=some k.toNat∧po.dst=some k∧k.toNat<nt):=by
 unfold P9 at h;split at h
 ·rename_i op g h1 h2;split at h
  ·rename_i hd;cases h;exact⟨h1,h2,.inl ⟨hd,rfl⟩⟩
  ·rename_i d hd;split at h
   ·rename_i k hk;cases h;obtain⟨e,cD⟩:=qR hk;exact⟨h1,h2,.inr ⟨k,by rw[e];exact hd,rfl,by omega⟩⟩
   ·cases h
 ·cases h
noncomputable def dJ(p:List (Nat×Key×ah))(h:T ah):T ah:=p.foldl (fun h x=>aw x.2.1 (some x.2.2) h) h
theorem Jm{R:Type}:∀(p:List (Nat×Key×ah)) (h:T ah) (c:T ah→R),Ig p h c=c (dJ p h)
 | [],h,c=>rfl
 |x ::p,h,c=>by show yM x.2.1 (some x.2.2) h (fun h=>Ig p h c)=_;rw[sTCe,Jm p];rfl
theorem zH{R:Type}(l:List Nat):∀(p:List (Nat×Key×ah)) (h:T ah) (c:List (Nat×Key×ah)→T ah→R),HS l p h c=c (p.filter fun x=>!(memN x.1 l)) (dJ (p.filter fun x=>memN x.1 l) h)
 | [],h,c=>rfl
 |x ::p,h,c=>by
  show(bif memN x.1 l then yM x.2.1 (some x.2.2) h (fun h=>HS l p h c)else HS l p h fun p h=>c (x ::p) h)=_;cases hm:memN x.1 l with
  |true=>simp only[cond_true,sTCe,zH l p,List.filter_cons,hm,Bool.not_true,XY,if_false,if_true];rfl
  |false=>simp only[cond_false,zH l p,List.filter_cons,hm,Bool.not_false,XY,if_false,if_true]
theorem Og{i:Nat}:∀{l:List Nat},memN i l=true→i∈l
 | [],h=>by cases h
 |j ::l,h=>by
  simp only[memN]at h;cases hb:Nat.beq i j with
  |true=>have:=rZ hb;simp[this]
  |false=>rw[hb]at h;exact List.mem_cons_of_mem _ (Og h)
theorem VT:∀{p:List (Nat×Key×ah)} {h:T ah} {b:Key} {B:ah},ae b (dJ p h)=some B→ae b h=some B∨∃x∈p,x.2.1=b∧x.2.2=B
 | [],_,_,_,e=>.inl e
 |x ::p,h,b,B,e=>by
  rcases VT (p:=p) e with h1|⟨y,h1,h2⟩
  ·by_cases hb:b=x.2.1
   ·subst hb;rw[gTSm]at h1;cases h1;exact .inr ⟨x,by simp,rfl,rfl⟩
   ·rw[aU _ _ _ _ hb]at h1;exact .inl h1
  ·exact .inr ⟨y,List.mem_cons_of_mem _ h1,h2⟩
theorem alq{l:List Nat}{au:List (Nat×Key×ah)}{h:T ah}{b:Key}{B:ah}(e:ae b (zf l au h)=some B):ae b h=some B∨∃j,(j,b,B)∈au∧j∈l:=by
 unfold zf at e;split at e
 ·exact .inl e
 ·rw[zH]at e;rcases VT e with h1|⟨⟨j,k,B'⟩,h1,h2,h3⟩
  ·exact .inl h1
  ·obtain⟨h4,h5⟩:=List.mem_filter.1 h1;simp only at h2 h3;subst h2 h3;exact .inr ⟨j,h4,Og h5⟩
theorem aeb{bf:List Nat}:∀{kB:List (Nat×List Nat)},CA bf kB=true→∀i j,j∈HF i kB→hasB (gK bf i) j=true
 | [],_,i,j,h=>by cases h
 |(q,l) ::r,ha,i,j,h=>by
  simp only[CA,mP,wG]at ha;simp only[HF]at h;cases hb:Nat.beq i q with
  |true=>rw[hb]at h;have:=rZ hb;subst this;exact ha.1 j h
  |false=>rw[hb]at h;exact aeb ha.2 i j h
def VOk(bf:List Nat)(H:T ah)(au:List (Nat×Key×ah))(i:Nat)(V:T ah):Prop:=∀b B,ae b V=some B→ae b H=some B∨∃j,(j,b,B)∈au∧hasB (gK bf i) j=true
theorem VOk.refl(bf:List Nat)(H:T ah)(au:List (Nat×Key×ah))(i:Nat):VOk bf H au i H:=fun _ _ h=>.inl h
theorem VOk.view{bf:List Nat}{kB:List (Nat×List Nat)}(ha:CA bf kB=true)(H:T ah)(au:List (Nat×Key×ah))(i:Nat):VOk bf H au i (zf (HF i kB) au H):=by
 intro b B e;rcases alq e with h|⟨j,h1,h2⟩
 ·exact .inl h
 ·exact .inr ⟨j,h1,aeb ha i j h2⟩
structure Gh where
 L:Nat
 D:Nat→Bool
 a0:Key→Option AV
 val:Nat→Option AV
section
variable(P:Program)(ρ:Nat→Int)(orc:jR)(nt:Nat)(ops:Array Oper)(pl:List aA)(bf:List Nat)
def aaC(g:Gh)(i:Nat)(k:Key)(a:AV):Prop:=
 (∃j,pC ops j=some k.toNat∧hasB (gK bf i) j=true∧g.val j=some a)∨((∀j,pC ops j=some k.toNat→hasB (gK bf j) i=true)∧g.a0 k=some a)
def acm(g:Gh)(i:Nat)(oh:T AV):Prop:=∀o,ops[i]?=some o→∀(k:Key) a,k.toNat∈mT ops o→ae k oh=some a→aaC ops bf g i k a
inductive zD(H:T ah)(g:Gh)(au:List (Nat×Key×ah))(Gk:Nat→Prop)(i:Nat):Prop
 |skip (po:aA) (oh:T AV) (h1:pl[i]?=some po) (h2:acm ops bf g i oh) (h3:di po.guard oh=some false) (h4:g.val i=some (.tuple [])) (h5:∀x∈au,x.1≠i):zD H g au Gk i
 |light (po:aA) (oh:T AV) (v:AV) (h1:pl[i]?=some po) (h2:acm ops bf g i oh) (h3:di po.guard oh=some true) (hk:uc pl i=0) (h4:¬Gk i→∃V,lightOp orc po.op oh V=some v∧VOk bf H au i V) (h5:g.val i=some v)
   (h6:∀x∈au,x.1≠i):zD H g au Gk i
 |alloc (po:aA) (oh:T AV) (f:Key→AV) (B:ah) (k:Key) (h1:pl[i]?=some po) (h2:acm ops bf g i oh) (h3:di po.guard oh=some true) (hk:uc pl i=1) (h4:allocOp po.op oh=some (f,B))
   (h5:g.val i=some (f k)) (h6:(i,k,B)∈au):zD H g au Gk i
structure iw(μ:Mu)(G:Key→Option ah)(H:T ah)(nx:Key)(g:Gh)(Gk:Nat→Prop)(au:List (Nat×Key×ah))(tm:T AV)(tmps:Array Value)(rest:List Nat):Prop where
 Th:XX P nt ops pl bf
 ord:SG ops g.D rest
 cl:aeE ops g.D
 sub:∀i,g.D i=true→hasB g.L i=true
 L8:∀i,hasB g.L i=true→i<ops.size
 lcl:∀i,hasB g.L i=true→∀j,j<ops.size→hasB (gK bf i) j=true→hasB g.L j=true
 a1:∀(k:Key) j,hasB g.L j=true→pC ops j=some k.toNat→ae k tm=g.val j
 a2:∀(k:Key),(∀j,hasB g.L j=true→pC ops j≠some k.toNat)→ae k tm=g.a0 k
 sz:nt≤tmps.size
 c1:∀(k:Key) j a,g.D j=true→pC ops j=some k.toNat→g.val j=some a→∃v,tmps[k.toNat]?=some v∧aY ρ μ a v
 c2:∀(k:Key) a,(∀j,g.D j=true→pC ops j≠some k.toNat)→g.a0 k=some a→∃v,tmps[k.toNat]?=some v∧aY ρ μ a v
 pd:∀i,hasB g.L i=true→g.D i=false→zD orc ops pl bf H g au Gk i
 pe:∀x∈au,hasB g.L x.1=true∧(g.D x.1=true→G x.2.1=some x.2.2)∧(g.D x.1=false→μ x.2.1=none∧G x.2.1=none)∧ae x.2.1 H=none∧x.2.1.toNat<nx.toNat
 nk:(au.map (·.2.1.toNat)).Nodup
 ni:(au.map (·.1)).Nodup
end
section
variable{P:Program}{ρ:Nat→Int}{orc:jR}{nt:Nat}{ops:Array Oper}{pl:List aA}{bf:List Nat}{w0:W0}{w:World}{μ:Mu}{G:Key→Option ah}{H:T ah}{nx:Key}{g:Gh}{Gk:Nat→Prop}{au:List (Nat×Key×ah)}{tm:T AV}{rest:List Nat}{fr:Frame}{cs:List Frame}{K:List Item}
theorem aju(hM:bA P ρ w0 μ G nx.toNat w){x:Operand}{px:PX}{a:AV}{oh:T AV}(hp:pX P nt x=some px)(ha:px.at oh=some a)
  (ht:∀t k,x=.tmp t→k.toNat=t→ae k oh=some a→∃v,fr.tmps[t]?=some v∧aY ρ μ a v):aY ρ μ a (fr.eval x):=by
 cases x with
 |tmp t=>
  simp only[pX]at hp;split at hp
  ·rename_i k hk;cases hp;obtain⟨v,hv,hr⟩:=ht t k rfl (qR hk).1 ha;have:fr.eval (.tmp t)=v:=by simp[Frame.eval,Array.getD_eq_getD_getElem?,hv]
   rw[this];exact hr
  ·cases hp
 |const v=>
  simp only[pX]at hp;split at hp
  ·rename_i b hb;cases hp;simp only[PX.at,eM]at ha;subst ha;exact ji _ _ _ hb
  ·cases hp
 |global gl=>
  simp only[pX]at hp;split at hp
  ·rename_i k hk;cases hp;simp only[PX.at,eM]at ha;subst ha;obtain⟨e,cD⟩:=qR hk;obtain⟨ext,he⟩:=hM.RW k (by omega);exact .ptr _ _ _ _ he (by simp[e])
  ·cases hp
 |func f=>simp only[pX,eM]at hp;subst hp;simp only[PX.at,eM]at ha;subst ha;exact .fn _ _ _ _ _ .nil .nil
theorem Ju(hM:bA P ρ w0 μ G nx.toNat w){o:Oper}{oh:T AV}(ht:∀(k:Key) a,k.toNat∈mT ops o→ae k oh=some a→∃v,fr.tmps[k.toNat]?=some v∧aY ρ μ a v) :
  CE P ρ μ nt o.op.operands.toList oh fr.eval:=by
 intro x hx px a hp ha;refine aju hM hp ha fun t k hxt hkt hg=>?_;subst hxt;rw[←hkt];refine ht k a ?_ hg;unfold mT;rw[List.mem_append,List.mem_filterMap];exact .inl ⟨_,hx,by rw[hkt]⟩
theorem DB{o:Oper}{gd:Option (Key×Bool)}(hg:Tp nt ops o.guard=some gd){oh:T AV}{tmps:Array Value}(ht:∀(k:Key) a,k.toNat∈mT ops o→ae k oh=some a→∃v,tmps[k.toNat]?=some v∧aY ρ μ a v)
  {b:Bool} (hw:di gd oh=some b):Region.wanted o (yielded ops tmps)=b:=by
 cases YR:o.guard with
 |none=>rw[YR]at hg;simp only[Tp,eM]at hg;subst hg;simp only[di,eM]at hw;simp[Region.wanted,YR,hw]
 |some p=>
  obtain⟨j,want⟩:=p;rw[YR]at hg;simp only[Tp]at hg;split at hg
  ·rename_i oj hoj;split at hg
   ·rename_i d hd;split at hg
    ·rename_i k hk;cases hg;obtain⟨e,_⟩:=qR hk;have qK:k.toNat∈mT ops o:=by unfold mT;rw[List.mem_append,YR,e];right;simp[hoj,hd]
     simp only[di]at hw;split at hw
     ·rename_i b' iS;cases hw;obtain⟨v,hv,hr⟩:=ht k _ qK iS;cases hr;rw[e]at hv;simp only[Region.wanted,YR,yielded,hoj,Option.bind_some,hd,hv];cases b'<;>cases want<;>rfl
     ·rename_i iS;cases hw;obtain⟨v,hv,hr⟩:=ht k _ qK iS;cases hr with|tuple _ vs hvs=>
      rw[e]at hv;simp only[Region.wanted,YR,yielded,hoj,Option.bind_some,hd,hv];cases want<;>rfl
     ·cases hw
    ·cases hg
   ·cases hg
  ·cases hg
end
section
variable{P:Program}{ρ:Nat→Int}{orc:jR}{nt:Nat}{ops:Array Oper}{pl:List aA}{bf:List Nat}{w0:W0}{w:World}{μ μ':Mu}{G G':Key→Option ah}{H:T ah}{nx:Key}{g:Gh}{Gk:Nat→Prop}{au:List (Nat×Key×ah)}{tm:T AV}{tmps:Array Value}{rest:List Nat}{fr:Frame}{cs:List Frame}{K:List Item}{i:Nat}
theorem iw.ready(S:iw P ρ orc nt ops pl bf μ G H nx g Gk au tm tmps (i ::rest)) :
  i<ops.size∧g.D i=false∧(∀j,j<ops.size→hasB (gK bf i) j=true→g.D j=true):=by
 obtain⟨h1,h2,h3,_⟩:=S.ord;exact⟨h1,h2,fun j hj hb=>S.Th.closed S.cl i ops[i] (by simp[h1]) (fun e he yv=>h3 _ (by simp[h1]) e he yv) j hj hb⟩
theorem PD{j t:Nat}(h:pC ops j=some t):j<ops.size:=by
 obtain⟨o,ho,_⟩:=aeG h;rcases MO j ops.size with h'|h'
 ·exact h'
 ·rw[zqj h']at ho;cases ho
theorem iw.NT(S:iw P ρ orc nt ops pl bf μ G H nx g Gk au tm tmps (i ::rest)){oh:T AV}(ht:acm ops bf g i oh){o:Oper}(ho:ops[i]?=some o) :
  ∀(k:Key) a,k.toNat∈mT ops o→ae k oh=some a→∃v,tmps[k.toNat]?=some v∧aY ρ μ a v:=by
 intro k a hk hg;obtain⟨h1,h2,h3⟩:=S.ready;rcases ht o ho k a hk hg with⟨j,hj,hb,hv⟩|⟨CX,ha⟩
 ·exact S.c1 k j a (h3 j (PD hj) hb) hj hv
 ·refine S.c2 k a (fun j hD hj=>?_) ha;have hb:=CX j hj;obtain⟨oj,hoj,_⟩:=aeG hj;have:=S.Th.closed S.cl j oj hoj (fun e he yv=>S.cl j oj hD hoj e he yv) i h1 hb;rw[h2]at this;cases this
def JX(d:Option Nat)(v:Value)(tmps:Array Value):Array Value:=match d with
 |some d=>tmps.setIfInBounds d v
 |none=>tmps
theorem dm{o:Oper}(ht:fr.todo=.inRegion ops (i ::rest) ::K)(ho:ops[i]?=some o)(v:Value) :
  fr.finish v={fr with tmps:=JX o.dst v fr.tmps,todo:=.inRegion ops rest ::K}:=by
 simp only[Frame.finish,ht,ho,Option.bind_some,JX];cases o.dst<;>rfl
theorem IW{o:Oper}{op:MD}(hp:ky P nt o=some op)(hd:gi o.op=true):ME op=true:=by
 obtain⟨dst,JF,ty,pos,after,guard⟩:=o;cases JF<;>first|(cases hd;done)|skip
 rename_i c;simp only[ky]at hp;split at hp
 ·split at hp
  ·cases hp;rfl
  ·cases hp
 ·cases hp
theorem Yu{po:aA}(h:pl[i]?=some po):uc pl i=(bif ME po.op then 2 else bif SP po.op then 1 else 0):=by simp[uc,h]
theorem aiB{tmps:Array Value}{d:Option Nat}{v:Value}(t:Nat)(h:∀x,d=some x→x<tmps.size) :
  (JX d v tmps)[t]?=if d=some t then some v else tmps[t]?:=by
 cases d with
 |none=>simp[JX]
 |some x=>
  have:=h x rfl;simp only[JX];by_cases e:x=t
  ·subst e;simp[this]
  ·rw[if_neg (by simpa using e),zqn e]
theorem iw.done(S:iw P ρ orc nt ops pl bf μ G H nx g Gk au tm tmps (i ::rest))(hm:μ.le μ'){o:Oper}(ho:ops[i]?=some o){a:AV}{v:Value}(hL:hasB g.L i=true)(L9:g.val i=some a)(hv:aY ρ μ' a v)
  (Yv:∀x∈au,(x.1=i→G' x.2.1=some x.2.2)∧(x.1≠i→μ' x.2.1=μ x.2.1∧G' x.2.1=G x.2.1)) :
  iw P ρ orc nt ops pl bf μ' G' H nx {g with D:=fun j=>g.D j||j==i} Gk au tm (JX o.dst v tmps) rest:=by
 obtain⟨hi,hDi,qx⟩:=S.ready;obtain⟨o',po,RJ,YQ,ud⟩:=S.Th.at hi;rw[ho]at RJ;cases RJ;obtain⟨mg,YR,EP⟩:=jz YQ;have axv:∀x,o.dst=some x→x<tmps.size:=by
  intro x hx;rcases EP with⟨h,_⟩|⟨k,h,_,cD⟩
  ·rw[h]at hx;cases hx
  ·rw[h]at hx;cases hx;exact OX cD S.sz
 have hdi:pC ops i=o.dst:=by simp[pC,ho]
 have HJ:=fun t=>aiB (v:=v) t axv;have aoF:(JX o.dst v tmps).size=tmps.size:=by cases o.dst<;>simp[JX]
 have hD':∀j,((g.D j||j==i)=true)↔(g.D j=true∨j=i):=by intro j;simp
 refine⟨S.Th,S.ord.2.2.2,?_,?_,S.L8,S.lcl,S.a1,S.a2,by rw[aoF];exact S.sz,?_,?_,?_,?_,S.nk,S.ni⟩
 ·intro j oj hj hoj e he hb;rcases (hD' j).1 hj with h|h
  ·exact(hD' _).2 (.inl (S.cl j oj h hoj e he hb))
  ·subst h;exact(hD' _).2 (.inl (S.ord.2.2.1 oj hoj e he hb))
 ·intro j hj;rcases (hD' j).1 hj with h|h
  ·exact S.sub j h
  ·subst h;exact hL
 ·intro k j b hj hjd hjv;rw[HJ];rcases (hD' j).1 hj with h|h
  ·by_cases e:o.dst=some k.toNat
   ·have:i=j:=S.Th.SY (hdi.trans e) hjd;subst this;rw[hDi]at h;cases h
   ·rw[if_neg e];obtain⟨u,hu,hr⟩:=S.c1 k j b h hjd hjv;exact⟨u,hu,hr.mono hm⟩
  ·subst h;rw[hdi]at hjd;rw[if_pos hjd];have hjv:g.val j=some b:=hjv;rw[L9]at hjv;cases hjv;exact⟨v,rfl,hv⟩
 ·intro k b sx ha;rw[HJ];have hni:o.dst≠some k.toNat:=by intro e;exact sx i ((hD' i).2 (.inr rfl)) (hdi.trans e)
  rw[if_neg hni];obtain⟨u,hu,hr⟩:=S.c2 k b (fun j hj=>sx j ((hD' j).2 (.inl hj))) ha;exact⟨u,hu,hr.mono hm⟩
 ·intro j hj hjD;have hjD:(g.D j||j==i)=false:=hjD;rw[Bool.or_eq_false_iff]at hjD;cases S.pd j hj hjD.1 with
  |skip po oh h1 h2 h3 h4 h5=>exact .skip po oh h1 h2 h3 h4 h5
  |light po oh v h1 h2 h3 hk h4 h5 h6=>exact .light po oh v h1 h2 h3 hk h4 h5 h6
  |alloc po oh f B k h1 h2 h3 hk h4 h5 h6=>exact .alloc po oh f B k h1 h2 h3 hk h4 h5 h6
 ·intro x hx;obtain⟨p1,p2,p3,p4,p5⟩:=S.pe x hx;obtain⟨q1,q2⟩:=Yv x hx;refine⟨p1,fun h=>?_,fun h=>?_,p4,p5⟩
  ·by_cases e:x.1=i
   ·exact q1 e
   ·rw[(q2 e).2];exact p2 (((hD' _).1 h).resolve_right e)
  ·have h:(g.D x.1||x.1==i)=false:=h;rw[Bool.or_eq_false_iff]at h;have e:x.1≠i:=by simpa using h.2
   rw[(q2 e).1,(q2 e).2];exact p3 h.1
theorem ZR(hM:bA P ρ w0 μ G nx.toNat w)(hH:HSub H G)(ho:fK ρ orc)(S:iw P ρ orc nt ops pl bf μ G H nx g Gk au tm fr.tmps (i ::rest))(hL:hasB g.L i=true)(hu:¬Gk i)
  (hm:fr.mode=.run) (ht:fr.todo=.inRegion ops (i ::rest) ::K) :
  ∃eQ w' μ' G',step P (lone fr cs w)=.next (lone {fr with tmps:=eQ,todo:=.inRegion ops rest ::K} cs w')∧μ.le μ'∧bA P ρ w0 μ' G' nx.toNat w'∧HSub H G'∧
   iw P ρ orc nt ops pl bf μ' G' H nx {g with D:=fun j=>g.D j||j==i} Gk au tm eQ rest∧(∀b,(∀x∈au,x.2.1≠b)→μ' b=μ b∧G' b=G b):=by
 obtain⟨hi,hDi,qx⟩:=S.ready;obtain⟨o,po,mg,YQ,ud⟩:=S.Th.at hi;obtain⟨hp,YR,EP⟩:=jz YQ;cases S.pd i hL hDi with
 |skip Xc oh h1 h2 h3 h4 h5=>rw[ud]at h1;cases h1;have hs:=S.NT h2 mg;have hw:=DB YR hs h3;have GF:=Mb (P:=P) (cs:=cs) (w:=w) hm ht mg hw;rw[dm ht mg]at GF;refine⟨_,w,μ,G,GF,μ.le_refl,hM,hH,?_,fun b _=>⟨rfl,rfl⟩⟩;refine S.done μ.le_refl mg hL h4 (v:=undef) (.tuple _ _ .nil) ?_;intro x hx;exact⟨fun e=>absurd e (h5 x hx),fun _=>⟨rfl,rfl⟩⟩
 |light Xc oh v h1 h2 h3 hk h4 h5 h6=>
  rw[ud]at h1;cases h1;have hs:=S.NT h2 mg;have hw:=DB YR hs h3;obtain⟨V,hlV,hV⟩:=h4 hu;have hVG:HSub V G:=by
   intro b B hb;rcases hV b B hb with h|⟨j,h1,h2⟩
   ·exact hH b B h
   ·obtain⟨p1,p2,_⟩:=S.pe _ h1;exact p2 (qx j (S.L8 j p1) h2)
  obtain⟨u,gM,hr⟩:=QZ hM hVG ho hp (Ju hM hs) hlV;have SV:gi o.op=false:=by
   cases hd:gi o.op with
   |false=>rfl
   |true=>rw[Yu ud,IW hp hd]at hk;cases hk
  have GF:=ZS (P:=P) (cs:=cs) hm ht mg hw (.inr SV) gM;rw[dm ht mg]at GF;refine⟨_,w,μ,G,GF,μ.le_refl,hM,hH,?_,fun b _=>⟨rfl,rfl⟩⟩;refine S.done μ.le_refl mg hL h5 hr ?_;intro x hx;exact⟨fun e=>absurd e (h6 x hx),fun _=>⟨rfl,rfl⟩⟩
 |alloc Xc oh f B k h1 h2 h3 hk h4 h5 h6=>
  rw[ud]at h1;cases h1;have hs:=S.NT h2 mg;have hw:=DB YR hs h3;obtain⟨_,_,p3,p4,p5⟩:=S.pe _ h6;obtain⟨hmk,hgk⟩:=p3 hDi;obtain⟨u,w',l,gM,hle,hM',hr⟩:=Q0 hM hp (Ju hM hs) h4 hmk (nx':=nx.toNat) (fg _) p5;have SV:gi o.op=false:=by
   cases hd:gi o.op with
   |false=>rfl
   |true=>rw[Yu ud,IW hp hd]at hk;cases hk
  have GF:=ZS (P:=P) (cs:=cs) hm ht mg hw (.inr SV) gM;rw[dm ht mg]at GF;refine⟨_,w',_,_,GF,hle,hM',?_,?_,?_⟩
  ·intro b B' hb;have:b≠k:=by intro e;subst e;rw[p4]at hb;cases hb
   rw[bU _ _ this];exact hH b B' hb
  ·refine S.done hle mg hL h5 hr ?_;intro x hx;constructor
   ·intro e;have:x=(i,k,B):=by
     have hni:=S.ni;have:=List.pairwise_iff_getElem.1 hni;obtain⟨p,hp',hpx⟩:=List.getElem_of_mem hx;obtain⟨q,hq,hqx⟩:=List.getElem_of_mem h6;rcases Nat.lt_trichotomy p q with hpq|hpq|hpq
     ·have:=this p q (by simpa using hp') (by simpa using hq) hpq;simp[hpx,hqx,e]at this
     ·subst hpq;rw[←hpx,←hqx]
     ·have:=this q p (by simpa using hq) (by simpa using hp') hpq;simp[hpx,hqx,e]at this
    subst this;exact fR _ _ _
   ·intro e;have bX:x.2.1≠k:=by
     intro KG;have hnk:=S.nk;have:=List.pairwise_iff_getElem.1 hnk;obtain⟨p,hp',hpx⟩:=List.getElem_of_mem hx;obtain⟨q,hq,hqx⟩:=List.getElem_of_mem h6;rcases Nat.lt_trichotomy p q with hpq|hpq|hpq
     ·have:=this p q (by simpa using hp') (by simpa using hq) hpq;simp[hpx,hqx,KG]at this
     ·subst hpq;rw[hpx]at hqx;subst hqx;exact e rfl
     ·have:=this q p (by simpa using hq) (by simpa using hp') hpq;simp[hpx,hqx,KG]at this
    exact⟨bU _ _ bX,bU _ _ bX⟩
  ·intro b hb;have:b≠k:=fun e=>hb _ h6 e.symm;exact⟨bU _ _ this,bU _ _ this⟩
end
theorem Od(orc:jR)(op:MD)(tm:T AV)(H H':T ah)(h:OM op=false):lightOp orc op tm H=lightOp orc op tm H':=by cases op<;>first|(cases h;done)|rfl
section
variable{P:Program}{ρ:Nat→Int}{orc:jR}{nt:Nat}{ops:Array Oper}{pl:List aA}{bf:List Nat}{w0:W0}{w:World}{μ μ':Mu}{G G':Key→Option ah}{H H':T ah}{nx nx':Key}{g:Gh}{Gk aC1:Nat→Prop}{au pend':List (Nat×Key×ah)}{tm:T AV}{tmps:Array Value}{rest:List Nat}{fr:Frame}{cs:List Frame}{K:List Item}{i:Nat}
theorem iw.aqn(S:iw P ρ orc nt ops pl bf μ G H nx g Gk au tm tmps rest)(hi:i<ops.size)(hL:hasB g.L i=false)(hb:∀j,j<ops.size→hasB (gK bf i) j=true→hasB g.L j=true):acm ops bf g i tm:=by
 intro o ho k a hk ha;by_cases h:∃j,hasB g.L j=true∧pC ops j=some k.toNat
 ·obtain⟨j,hj,hd⟩:=h;left;refine⟨j,hd,?_,by rw[←S.a1 k j hj hd];exact ha⟩;have bX:i≠j:=by intro e;subst e;rw[hL]at hj;cases hj
  rcases ((S.Th.slot ho hd).2 bX).2 hk with h|h
  ·exact h
  ·have:=S.lcl j hj i hi h;rw[hL]at this;cases this
 ·right;have h:∀j,hasB g.L j=true→pC ops j≠some k.toNat:=fun j hj hd=>h ⟨j,hj,hd⟩;refine⟨fun j hd=>?_,by rw[←S.a2 k h];exact ha⟩;by_cases bX:i=j
  ·subst bX;exact absurd hk ((S.Th.slot ho hd).1 rfl)
  ·rcases ((S.Th.slot ho hd).2 bX).2 hk with iS|iS
   ·exact absurd hd (h j (hb j (PD hd) iS))
   ·exact iS
def Az(f:Nat→Option AV)(i:Nat)(x:Option AV):Nat→Option AV:=fun j=>if j=i then x else f j
theorem ad9{x:Option AV}{L':Nat}{D':Nat→Bool}{p:Nat}{k:Key}{a:AV}(hp:hasB (gK bf p) i=false)(h:aaC ops bf g p k a):aaC ops bf {L:=L',D:=D',a0:=g.a0,val:=Az g.val i x} p k a:=by
 rcases h with⟨j,h1,h2,h3⟩|⟨h1,h2⟩
 ·left;refine⟨j,h1,h2,?_⟩;have:j≠i:=by intro e;subst e;rw[hp]at h2;cases h2
  simpa[Az,this]using h3
 ·exact .inr ⟨h1,h2⟩
theorem Ak{x:Option AV}{L':Nat}{D':Nat→Bool}{p:Nat}{oh:T AV}(hp:hasB (gK bf p) i=false)(h:acm ops bf g p oh):acm ops bf {L:=L',D:=D',a0:=g.a0,val:=Az g.val i x} p oh:=
 fun o ho k a hk hg=>ad9 hp (h o ho k a hk hg)
theorem zD.pQ{x:Option AV}{L':Nat}{D':Nat→Bool}{p:Nat}(hp:hasB (gK bf p) i=false)(bX:p≠i)(VR:∀y∈au,y∈pend')(aaD:∀y∈pend',y∈au∨y.1=i)(h:zD orc ops pl bf H g au Gk p) :
  zD orc ops pl bf H {L:=L',D:=D',a0:=g.a0,val:=Az g.val i x} pend' Gk p:=by
 have hv:∀v,g.val p=some v→Az g.val i x p=some v:=by intro v hv;simpa[Az,bX]using hv
 have hq:(∀y∈au,y.1≠p)→∀y∈pend',y.1≠p:=by
  intro hh y hy;rcases aaD y hy with h|h
  ·exact hh y h
  ·rw[h];exact fun e=>bX e.symm
 cases h with
 |skip po oh h1 h2 h3 h4 h5=>exact .skip po oh h1 (Ak hp h2) h3 (hv _ h4) (hq h5)
 |light po oh v h1 h2 h3 hk h4 h5 h6=>
  refine .light po oh v h1 (Ak hp h2) h3 hk (fun hu=>?_) (hv _ h5) (hq h6);obtain⟨V,a1,a2⟩:=h4 hu;refine⟨V,a1,fun b B hb=>?_⟩;rcases a2 b B hb with h|⟨j,h,h'⟩
  ·exact .inl h
  ·exact .inr ⟨j,VR _ h,h'⟩
 |alloc po oh f B k h1 h2 h3 hk h4 h5 h6=>exact .alloc po oh f B k h1 (Ak hp h2) h3 hk h4 (hv _ h5) (VR _ h6)
noncomputable def cr(d:Option Key)(v:AV)(tm:T AV):T AV:=match d with
 |none=>tm
 |some k=>aw k (some v) tm
theorem fO{R:Type}(d:Option Key)(v:AV)(tm:T AV)(c:T AV→R):ze d (some v) tm c=c (cr d v tm):=by
 cases d with
 |none=>rfl
 |some k=>simp only[ze,cr,sTCe]
theorem iw.add(S:iw P ρ orc nt ops pl bf μ G H nx g Gk au tm tmps rest){po:aA}(ud:pl[i]?=some po)(hL:hasB g.L i=false)(hb:∀j,j<ops.size→hasB (gK bf i) j=true→hasB g.L j=true)
  {v:AV} (VR:∀y∈au,y∈pend') (aaD:∀y∈pend',y∈au∨y.1=i)
  (vH:zD orc ops pl bf H {L:=MH g.L i,D:=g.D,a0:=g.a0,val:=Az g.val i (some v)} pend' Gk i)
  (Yv:∀y∈pend',y∉au→μ y.2.1=none∧G y.2.1=none∧ae y.2.1 H=none∧y.2.1.toNat<nx'.toNat) (hn:nx.toNat≤nx'.toNat)
  (hnk:(pend'.map (·.2.1.toNat)).Nodup) (hni:(pend'.map (·.1)).Nodup) :
  iw P ρ orc nt ops pl bf μ G H nx' {L:=MH g.L i,D:=g.D,a0:=g.a0,val:=Az g.val i (some v)} Gk pend' (cr po.dst v tm) tmps rest:=by
 have hi:=S.Th.YU ud;obtain⟨o,Xc,ho,YQ,JZ⟩:=S.Th.at hi;rw[ud]at JZ;cases JZ;obtain⟨mg,YR,EP⟩:=jz YQ;have hdi:pC ops i=o.dst:=by simp[pC,ho]
 have hDi:g.D i=false:=by
  cases h:g.D i with
  |false=>rfl
  |true=>have:=S.sub i h;rw[hL]at this;cases this
 have P3:∀j,hasB (MH g.L i) j=true↔(hasB g.L j=true∨j=i):=by intro j;rw[MP,Bool.or_eq_true,decide_eq_true_eq];exact⟨fun h=>h.imp id Eq.symm,fun h=>h.imp id Eq.symm⟩
 have hnb:∀p,hasB g.L p=true→hasB (gK bf p) i=false:=by
  intro p hp;cases h:hasB (gK bf p) i with
  |false=>rfl
  |true=>have:=S.lcl p hp i hi h;rw[hL]at this;cases this
 refine⟨S.Th,S.ord,S.cl,?_,?_,?_,?_,?_,S.sz,?_,S.c2,?_,?_,hnk,hni⟩
 ·intro j hj;exact(P3 j).2 (.inl (S.sub j hj))
 ·intro j hj;rcases (P3 j).1 hj with h|h
  ·exact S.L8 j h
  ·subst h;exact hi
 ·intro j hj q hq hbq;rcases (P3 j).1 hj with h|h
  ·exact(P3 q).2 (.inl (S.lcl j h q hq hbq))
  ·subst h;exact(P3 q).2 (.inl (hb q hq hbq))
 ·intro k j hj hd;rcases EP with⟨e1,e2⟩|⟨kd,e1,e2,_⟩
  ·rcases (P3 j).1 hj with h|h
   ·have bX:j≠i:=by intro e;subst e;rw[hL]at h;cases h
    rw[e2];simp only[cr,Az,bX,if_false];exact S.a1 k j h hd
   ·subst h;rw[hdi,e1]at hd;cases hd
  ·rw[e2];simp only[cr];rcases (P3 j).1 hj with h|h
   ·have bX:j≠i:=by intro e;subst e;rw[hL]at h;cases h
    have hk:k≠kd:=by intro e;subst e;exact bX (S.Th.SY hd (hdi.trans e1))
    rw[aU _ _ _ _ hk];simp only[Az,bX,if_false];exact S.a1 k j h hd
   ·subst h;rw[hdi,e1]at hd;have hk:k=kd:=Key.toNat_inj (by simpa using hd.symm);subst hk;rw[gTSm];simp[Az]
 ·intro k sx;rcases EP with⟨e1,e2⟩|⟨kd,e1,e2,_⟩
  ·rw[e2];exact S.a2 k fun j hj=>sx j ((P3 j).2 (.inl hj))
  ·rw[e2];simp only[cr];have hk:k≠kd:=by intro e;subst e;exact sx i ((P3 i).2 (.inr rfl)) (hdi.trans e1)
   rw[aU _ _ _ _ hk];exact S.a2 k fun j hj=>sx j ((P3 j).2 (.inl hj))
 ·intro k j a hj hd hv;have bX:j≠i:=by intro e;subst e;rw[hDi]at hj;cases hj
  exact S.c1 k j a hj hd (by simpa[Az,bX]using hv)
 ·intro j hj hjD;rcases (P3 j).1 hj with h|h
  ·have bX:j≠i:=by intro e;subst e;rw[hL]at h;cases h
   exact(S.pd j h hjD).pQ (hnb j h) bX VR aaD
  ·subst h;exact vH
 ·intro y hy;by_cases MB:y∈au
  ·obtain⟨p1,p2,p3,p4,p5⟩:=S.pe y MB;exact⟨(P3 _).2 (.inl p1),p2,p3,p4,OX p5 hn⟩
  ·obtain⟨q1,q2,q3,q4⟩:=Yv y hy MB;have e:=(aaD y hy).resolve_left MB;refine⟨(P3 _).2 (.inr e),fun h=>?_,fun _=>⟨q1,q2⟩,q3,q4⟩;rw[e]at h;have h:g.D i=true:=h;rw[hDi]at h;cases h
theorem iw.cF(S:iw P ρ orc nt ops pl bf μ G H nx g (fun i=>iv pl i=true) au tm tmps rest)(hm:μ.le μ')(hn:nx.toNat≤nx'.toNat)
  (hk:∀x∈au,μ' x.2.1=μ x.2.1∧G' x.2.1=G x.2.1∧ae x.2.1 H'=none):iw P ρ orc nt ops pl bf μ' G' H' nx' g (fun i=>iv pl i=true) au tm tmps rest:=by
 refine⟨S.Th,S.ord,S.cl,S.sub,S.L8,S.lcl,S.a1,S.a2,S.sz,?_,?_,?_,?_,S.nk,S.ni⟩
 ·intro k j a h1 h2 h3;obtain⟨v,hv,hr⟩:=S.c1 k j a h1 h2 h3;exact⟨v,hv,hr.mono hm⟩
 ·intro k a h1 h2;obtain⟨v,hv,hr⟩:=S.c2 k a h1 h2;exact⟨v,hv,hr.mono hm⟩
 ·intro i hi hD;cases S.pd i hi hD with
  |skip po oh h1 h2 h3 h4 h5=>exact .skip po oh h1 h2 h3 h4 h5
  |light po oh v h1 h2 h3 yG h4 h5 h6=>
   refine .light po oh v h1 h2 h3 yG (fun hu=>?_) h5 h6;obtain⟨V,a1,_⟩:=h4 hu;refine⟨H',?_,VOk.refl _ _ _ _⟩;rw[←a1];apply Od;have:iv pl i=OM po.op:=by simp[iv,h1]
   rw[this]at hu;simpa using hu
  |alloc po oh f B k h1 h2 h3 yG h4 h5 h6=>exact .alloc po oh f B k h1 h2 h3 yG h4 h5 h6
 ·intro x hx;obtain⟨p1,p2,p3,p4,p5⟩:=S.pe x hx;obtain⟨q1,q2,q3⟩:=hk x hx;refine⟨p1,fun h=>by rw[q2];exact p2 h,fun h=>by rw[q1,q2];exact p3 h,q3,OX p5 hn⟩
end
section
variable{P:Program}{ρ:Nat→Int}{orc:jR}{nt:Nat}{ops:Array Oper}{pl:List aA}{bf:List Nat}{w0:W0}{w:World}{μ μ':Mu}{G G':Key→Option ah}{H H':T ah}{nx nx':Key}{g:Gh}{Gk aC1:Nat→Prop}{au pend':List (Nat×Key×ah)}{tm:T AV}{tmps:Array Value}{rest:List Nat}{fr:Frame}{cs:List Frame}{K:List Item}{i:Nat}
def ayH(P:Program)(ρ:Nat→Int)(orc:jR)(nt:Nat)(ops:Array Oper)(pl:List aA)(bf:List Nat)(w0:W0)(H:T ah)(nx:Key)(g:Gh)(au:List (Nat×Key×ah))(tm:T AV)(K:List Item)
  (fr:Frame) (cs:List Frame) (w:World) (μ:Mu) (G:Key→Option ah) (CU:List Nat→Prop):Prop:=
 ∃eQ w' μ' G' D' me,Steps P (lone fr cs w) (lone {fr with tmps:=eQ,todo:=.inRegion ops me ::K} cs w')∧μ.le μ'∧bA P ρ w0 μ' G' nx.toNat w'∧HSub H G'∧
  iw P ρ orc nt ops pl bf μ' G' H nx {g with D:=D'} (fun _=>False) au tm eQ me∧(∀b,(∀x∈au,x.2.1≠b)→μ' b=μ b∧G' b=G b)∧CU me
theorem aqF(CU:List Nat→Prop)(ho:fK ρ orc)
  (hgo:∀(D:Nat→Bool) (rest:List Nat),(∀i,D i=true→hasB g.L i=true)→SG ops D rest→CU rest∨∃q r,rest=q ::r∧((∀j,j<ops.size→hasB (gK bf q) j=true→D j=true)→hasB g.L q=true)) :
  ∀(rest:List Nat) (D:Nat→Bool) (fr:Frame) (w:World) (μ:Mu) (G:Key→Option ah),bA P ρ w0 μ G nx.toNat w→HSub H G→iw P ρ orc nt ops pl bf μ G H nx {g with D:=D} (fun _=>False) au tm fr.tmps rest→
   fr.mode=.run→fr.todo=.inRegion ops rest ::K→ayH P ρ orc nt ops pl bf w0 H nx g au tm K fr cs w μ G CU:=by
 intro rest
 induction rest with
 |nil=>
  intro D fr w μ G hM hH S hm ht;rcases hgo D [] S.sub S.ord with h|⟨q,r,h,_⟩
  ·refine⟨fr.tmps,w,μ,G,D,[],?_,μ.le_refl,hM,hH,S,fun _ _=>⟨rfl,rfl⟩,h⟩;rw[←ht];exact Steps.refl _ _
  ·cases h
 |cons q r ih=>
  intro D fr w μ G hM hH S hm ht;rcases hgo D (q ::r) S.sub S.ord with h|⟨q',r',h,hq⟩
  ·refine⟨fr.tmps,w,μ,G,D,q ::r,?_,μ.le_refl,hM,hH,S,fun _ _=>⟨rfl,rfl⟩,h⟩;rw[←ht];exact Steps.refl _ _
  ·cases h;have hL:=hq S.ready.2.2;obtain⟨eQ,w',μ',G',h1,h2,h3,h4,h5,h6⟩:=ZR (cs:=cs) hM hH ho S hL (fun h=>h) hm ht;obtain⟨tmps2,w2,μ2,G2,D2,rest2,k1,k2,k3,k4,k5,k6,k7⟩:=ih _ {fr with tmps:=eQ,todo:=.inRegion ops r ::K} w' μ' G' h3 h4 h5 hm rfl;exact⟨tmps2,w2,μ2,G2,D2,rest2,.head h1 k1,Mu.le_trans h2 k2,k3,k4,k5,fun b hb=>⟨(k6 b hb).1.trans (h6 b hb).1,(k6 b hb).2.trans (h6 b hb).2⟩,k7⟩
theorem aaE(hM:bA P ρ w0 μ G nx.toNat w)(hH:HSub H G)(ho:fK ρ orc)(S:iw P ρ orc nt ops pl bf μ G H nx g (fun _=>False) au tm fr.tmps rest){h:Nat}(cD:h<ops.size)(hh:hasB g.L h=false)
  (ad7:∀j,j<ops.size→hasB g.L j=true∨j=h∨∃q,q<ops.size∧hasB (gK bf j) q=true∧hasB g.L q=false) (hm:fr.mode=.run) (ht:fr.todo=.inRegion ops rest ::K) :
  ayH P ρ orc nt ops pl bf w0 H nx g au tm K fr cs w μ G (fun r=>∃r',r=h ::r'):=by
 refine aqF _ ho ?_ rest g.D fr w μ G hM hH S hm ht;intro D rest atn atJ;cases rest with
 |nil=>have:=atn h (atJ h cD);rw[hh]at this;cases this
 |cons q r=>
  by_cases e:q=h
  ·subst e;exact .inl ⟨r,rfl⟩
  ·refine .inr ⟨q,r,rfl,fun hb=>?_⟩;rcases ad7 q atJ.1 with h1|h1|⟨p,hp,hpb,hpL⟩
   ·exact h1
   ·exact absurd h1 e
   ·have:=atn p (hb p hp hpb);rw[hpL]at this;cases this
theorem ahF(hM:bA P ρ w0 μ G nx.toNat w)(hH:HSub H G)(ho:fK ρ orc)(S:iw P ρ orc nt ops pl bf μ G H nx g (fun _=>False) au tm fr.tmps rest)
  (CX:∀j,j<ops.size→hasB g.L j=true) (hm:fr.mode=.run) (ht:fr.todo=.inRegion ops rest ::K) :
  ayH P ρ orc nt ops pl bf w0 H nx g au tm K fr cs w μ G (fun r=>r=[]):=by
 refine aqF _ ho ?_ rest g.D fr w μ G hM hH S hm ht;intro D rest atn atJ;cases rest with
 |nil=>exact .inl rfl
 |cons q r=>exact .inr ⟨q,r,rfl,fun _=>CX q atJ.1⟩
theorem Jr{kB:List (Nat×List Nat)}:∀{os:List (Nat×aA)},recheck orc kB au tm H os=true→∀i po,(i,po)∈os→
  ∃d,po.dst=some d∧((di po.guard tm=some false∧ae d tm=some (.tuple []))∨(di po.guard tm=some true∧∃v,ae d tm=some v∧lightOp orc po.op tm (zf (HF i kB) au H)=some v))
 | [],_,_,_,h=>by simp at h
 |(q,o) ::os,hr,i,po,hm=>by
  simp only[recheck]at hr;split at hr
  ·rename_i hw;split at hr
   ·cases hr
   ·rename_i d hd;split at hr
    ·rename_i hg;rcases OG.1 hm with h|h
     ·cases h;exact⟨d,hd,.inl ⟨hw,hg⟩⟩
     ·exact Jr hr i po h
    ·cases hr
  ·rename_i hw;split at hr
   ·cases hr
   ·rename_i d hd;split at hr
    ·rename_i v u hg hl;cases hb:AV.beq v u with
     |false=>rw[hb]at hr;cases hr
     |true=>
      rw[hb]at hr;simp only[cond_true]at hr;have:=AV.eq_of_beq v u hb;subst this;rcases OG.1 hm with h|h
      ·cases h;exact⟨d,hd,.inr ⟨hw,v,hg,hl⟩⟩
      ·exact Jr hr i po h
    ·cases hr
  ·cases hr
theorem aeg{i:Nat}{o:Oper}(h:HR ops bf i=true)(ho:ops[i]?=some o){j t:Nat}(hj:pC ops j=some t)(ht:t∈mT ops o):hasB (gK bf i) j=true:=by
 unfold HR at h;rw[ho]at h;simp only[wG]at h;have h:=h j (by simpa using PD hj);rw[hj]at h;have hc:(mT ops o).contains t=true:=by simpa using ht
 simp only[hc,Bool.not_true,Bool.false_or]at h;exact h
theorem iw.Yk(S:iw P ρ orc nt ops pl bf μ G H nx g Gk au tm tmps rest){os:List (Nat×aA)}{kB:List (Nat×List Nat)}(aec:CA bf kB=true)(hr:recheck orc kB au tm H os=true)
  (hos:∀i po,(i,po)∈os→pl[i]?=some po∧HR ops bf i=true∧uc pl i=0) (LC:∀i,hasB g.L i=true→g.D i=false→Gk i→∃po,(i,po)∈os) :
  iw P ρ orc nt ops pl bf μ G H nx g (fun _=>False) au tm tmps rest:=by
 refine⟨S.Th,S.ord,S.cl,S.sub,S.L8,S.lcl,S.a1,S.a2,S.sz,S.c1,S.c2,?_,S.pe,S.nk,S.ni⟩;intro i hi hD;by_cases hu:Gk i
 ·obtain⟨po,hm⟩:=LC i hi hD hu;obtain⟨ud,MM,hk⟩:=hos i po hm;obtain⟨d,hd,UD⟩:=Jr hr i po hm;have aLc:=S.L8 i hi;obtain⟨o,Xc,ho,YQ,JZ⟩:=S.Th.at aLc;rw[ud]at JZ;cases JZ;obtain⟨_,_,EP⟩:=jz YQ;have hdd:pC ops i=some d.toNat:=by
   rcases EP with⟨_,e2⟩|⟨k,e1,e2,_⟩
   ·rw[e2]at hd;cases hd
   ·rw[e2]at hd;cases hd;simp[pC,ho,e1]
  have L9:=S.a1 d i hi hdd;have htm:acm ops bf g i tm:=by
   intro o' RJ k a BL hg;rw[ho]at RJ;cases RJ;by_cases hex:∃j,pC ops j=some k.toNat
   ·obtain⟨j,hj⟩:=hex;have hb:=aeg MM ho hj BL;exact .inl ⟨j,hj,hb,by rw[←S.a1 k j (S.lcl i hi j (PD hj) hb) hj];exact hg⟩
   ·have sx:∀j,pC ops j≠some k.toNat:=fun j hj=>hex ⟨j,hj⟩;exact .inr ⟨fun j hj=>absurd hj (sx j),by rw[←S.a2 k fun j _=>sx j];exact hg⟩
  have VR:∀x∈au,x.1≠i:=by
   cases S.pd i hi hD with
   |skip po oh h1 h2 h3 h4 h5=>exact h5
   |light po oh v h1 h2 h3 yG h4 h5 h6=>exact h6
   |alloc po oh f B k h1 h2 h3 yG h4 h5 h6=>rw[hk]at yG;cases yG
  rcases UD with⟨hw,hg⟩|⟨hw,v,hg,hl⟩
  ·exact .skip po tm ud htm hw (by rw[←L9];exact hg) VR
  ·exact .light po tm v ud htm hw hk (fun _=>⟨_,hl,VOk.view aec _ _ _⟩) (by rw[←L9];exact hg) VR
 ·cases S.pd i hi hD with
  |skip po oh h1 h2 h3 h4 h5=>exact .skip po oh h1 h2 h3 h4 h5
  |light po oh v h1 h2 h3 yG h4 h5 h6=>exact .light po oh v h1 h2 h3 yG (fun _=>h4 hu) h5 h6
  |alloc po oh f B k h1 h2 h3 yG h4 h5 h6=>exact .alloc po oh f B k h1 h2 h3 yG h4 h5 h6
end
inductive SC(P:Program)(μ:Mu)(nt:Nat):dD→Item→Prop
 |code (pc:aI) (c:Code) (h:iQ P nt c=some pc):SC P μ nt (.code pc) (.code c)
 |inBlock (id:Nat):SC P μ nt (.inBlock id) (.inBlock id)
 |inLoop (pc:aI) (c:Code) (h:iQ P nt c=some pc):SC P μ nt (.inLoop pc) (.inLoop c)
 |ops (l:List aA) (ops:Array Oper) (rest:List Nat) (h:pB P nt ops rest=some l):SC P μ nt (.ops l) (.inRegion ops rest)
 |inRF (k:Key) (l:Loc) (r:Nat) (h:μ k=some l) (hr:r=l.c):SC P μ nt (.inRF k) (.inRangeFunc r)
 |endRF (k:Key) (l:Loc) (r:Nat) (h:μ k=some l) (hr:r=l.c):SC P μ nt (.endRF k) (.endRangeFunc r)
 |beginRound:SC P μ nt .beginRound .beginRound
 |scope (c:Code):SC P μ nt (.code .skip) (.inScope c)
inductive pn(P:Program)(μ:Mu)(nt:Nat):List dD→List Item→Prop
 |nil:pn P μ nt [] []
 |cons (a:dD) (x:Item) (l:List dD) (k:List Item) (h:SC P μ nt a x) (h':pn P μ nt l k):pn P μ nt (a ::l) (x ::k)
theorem SC.mono{P:Program}{μ μ':Mu}(hm:μ.le μ'){nt:Nat}{a:dD}{x:Item}(h:SC P μ nt a x):SC P μ' nt a x:=by
 cases h with
 |code pc c h=>exact .code pc c h
 |inBlock id=>exact .inBlock id
 |inLoop pc c h=>exact .inLoop pc c h
 |ops l ops rest h=>exact .ops l ops rest h
 |inRF k l r h hr=>exact .inRF k l r (hm.l _ _ h) hr
 |endRF k l r h hr=>exact .endRF k l r (hm.l _ _ h) hr
 |beginRound=>exact .beginRound
 |scope c=>exact .scope c
theorem pn.mono{P:Program}{μ μ':Mu}(hm:μ.le μ'){nt:Nat}{a:List dD}{x:List Item}(h:pn P μ nt a x):pn P μ' nt a x:=by
 induction h with
 |nil=>exact .nil
 |cons a x l k h h' ih=>exact .cons _ _ _ _ (h.mono hm) ih
def atr(ρ:Nat→Int)(μ:Mu):YS→Deferred→Prop
 |.fn f args,d=>∃ws,d.target=.fn (.func f) ws∧az ρ μ args (d.args++ws).toList
 |.coll b,d=>∃l,μ b=some l∧d=⟨.collected l.c,#[]⟩
def UQ(ρ:Nat→Int)(μ:Mu):List YS→List Deferred→Prop
 | [],[]=>True
 |a ::l,d ::ds=>atr ρ μ a d∧UQ ρ μ l ds
 |_,_=>False
theorem atr.mono{ρ:Nat→Int}{μ μ':Mu}(hm:μ.le μ'){a:YS}{d:Deferred}(h:atr ρ μ a d):atr ρ μ' a d:=by
 cases a with
 |fn f args=>obtain⟨ws,h1,h2⟩:=h;exact⟨ws,h1,h2.mono hm⟩
 |coll b=>obtain⟨l,h1,h2⟩:=h;exact⟨l,hm.l _ _ h1,h2⟩
theorem UQ.mono{ρ:Nat→Int}{μ μ':Mu}(hm:μ.le μ'):∀{a:List YS} {d:List Deferred},UQ ρ μ a d→UQ ρ μ' a d
 | [],[],_=>trivial
 |_ ::_,_ ::_,h=>⟨h.1.mono hm,UQ.mono hm h.2⟩
 | [],_ ::_,h=>h.elim
 |_ ::_,[],h=>h.elim
def aCU(μ:Mu):Option Key→Option Nat→Prop
 |none,none=>True
 |some k,some r=>∃l,μ k=some l∧r=l.c
 |_,_=>False
structure CD(P:Program)(ρ:Nat→Int)(μ:Mu)(nt:Nat)(af:nN)(fr:Frame):Prop where
 fn:fr.fn=af.fn
 fnr:alW P af.fn nt af.res
 dfs:UQ ρ μ af.dfs fr.defers
 kind:fr.kind=if af.H6 then .deferred else .normal
 vW:aCU μ af.vW fr.roundOf
 rd:af.vW≠none→af.H6=false
theorem CD.mono{P:Program}{ρ:Nat→Int}{μ μ':Mu}(hm:μ.le μ'){nt:Nat}{af:nN}{fr:Frame}(h:CD P ρ μ nt af fr):CD P ρ μ' nt af fr:=by
 refine⟨h.fn,h.fnr,h.dfs.mono hm,h.kind,?_,h.rd⟩;have:=h.vW;cases h1:af.vW<;>cases h2:fr.roundOf<;>rw[h1,h2]at this
 ·trivial
 ·exact this.elim
 ·exact this.elim
 ·obtain⟨l,e1,e2⟩:=this;exact⟨l,hm.l _ _ e1,e2⟩
def OP(ops:Array Oper)(jT:List Key):Prop:=∀j t,pC ops j=some t→∃k∈jT,k.toNat=t
inductive aa2(P:Program)(ρ:Nat→Int)(orc:jR)(μ:Mu)(G:Key→Option ah)(H:T ah)(nx:Key)(nt:Nat):List dD→T AV→List Item→Array Value→Prop
 |plain (k:List dD) (K:List Item) (tm:T AV) (tmps:Array Value) (h:pn P μ nt k K) (ht:lV ρ μ nt tm tmps):aa2 P ρ orc μ G H nx nt k tm K tmps
 |ready (ops:Array Oper) (pl:List aA) (bf:List Nat) (g:Gh) (xI:List IIt) (items:List aS) (jT:SD) (au:List (Nat×Key×ah)) (k:List dD) (K:List Item) (tm:T AV) (tmps:Array Value) (rest:List Nat)
   (hf:xI.mapM (HT pl)=some items) (hc:BH ops pl bf g.L xI=true) (hd:OP ops jT.ds∧CA bf jT.kB=true) (h:pn P μ nt k K) (S:iw P ρ orc nt ops pl bf μ G H nx g (fun _=>False) au tm tmps rest) :
   aa2 P ρ orc μ G H nx nt (.staged items jT au ::k) tm (.inRegion ops rest ::K) tmps
 |back (ops:Array Oper) (pl:List aA) (bf:List Nat) (g:Gh) (os:List (Nat×aA)) (xI:List IIt) (items:List aS) (jT:SD) (au:List (Nat×Key×ah)) (k:List dD) (K:List Item) (tm:T AV) (tmps:Array Value) (rest:List Nat)
   (hf:xI.mapM (HT pl)=some items) (hc:BH ops pl bf g.L xI=true) (hd:OP ops jT.ds∧CA bf jT.kB=true) (h:pn P μ nt k K)
   (hos:∀i po,(i,po)∈os→pl[i]?=some po∧HR ops bf i=true∧uc pl i=0) (LC:∀i,hasB g.L i=true→g.D i=false→iv pl i=true→∃po,(i,po)∈os)
   (S:iw P ρ orc nt ops pl bf μ G H nx g (fun i=>iv pl i=true) au tm tmps rest) :
   aa2 P ρ orc μ G H nx nt (.staged (.R os ::items) jT au ::k) tm (.inRegion ops rest ::K) tmps
inductive ML(P:Program)(ρ:Nat→Int)(orc:jR)(μ:Mu)(G:Key→Option ah)(H:T ah)(nx:Key)(nt:Nat):List dD→T AV→List Item→Array Value→Prop
 |ops (o:aA) (l:List aA) (ops:Array Oper) (i:Nat) (rest:List Nat) (k:List dD) (K:List Item) (tm:T AV) (tmps:Array Value) (hp:pB P nt ops (i ::rest)=some (o ::l)) (h:pn P μ nt k K) (ht:lV ρ μ nt tm tmps) :
   ML P ρ orc μ G H nx nt (.ops (o ::l) ::k) tm (.inRegion ops (i ::rest) ::K) tmps
 |staged (ops:Array Oper) (pl:List aA) (bf:List Nat) (g:Gh) (i:Nat) (po:aA) (ad:List Nat) (os:List (Nat×aA)) (xI:List IIt) (items:List aS) (jT:SD) (au:List (Nat×Key×ah)) (k:List dD) (K:List Item) (tm:T AV) (tmps:Array Value) (rest:List Nat)
   (ud:pl[i]?=some po) (hf:xI.mapM (HT pl)=some items) (hc:BH ops pl bf (MH g.L i) xI=true) (hL:hasB g.L i=false) (XU:∀j,j<ops.size→hasB (gK bf i) j=true→hasB g.L j=true) (hd:OP ops jT.ds∧CA bf jT.kB=true) (h:pn P μ nt k K)
   (hos:∀i po,(i,po)∈os→pl[i]?=some po∧HR ops bf i=true∧uc pl i=0) (LC:∀j,hasB g.L j=true→iv pl j=true→hasB (gK bf i) j=true∨∃po,(j,po)∈os)
   (S:iw P ρ orc nt ops pl bf μ G H nx g (fun i=>iv pl i=true) au tm tmps (i ::rest)) :
   ML P ρ orc μ G H nx nt (.staged (.H i po ad ::.R os ::items) jT au ::k) tm (.inRegion ops (i ::rest) ::K) tmps
 |rf (key:Key) (l:Loc) (k:List dD) (K:List Item) (tm:T AV) (tmps:Array Value) (hk:μ key=some l) (h:pn P μ nt k K) (ht:lV ρ μ nt tm tmps):ML P ρ orc μ G H nx nt (.inRF key ::k) tm (.inRangeFunc l.c ::K) tmps
inductive Cur(P:Program)(ρ:Nat→Int)(orc:jR)(μ:Mu)(G:Key→Option ah)(H:T ah)(nx:Key)(af:nN)(fr:Frame):Prop
 |run (nt:Nat) (hb:CD P ρ μ nt af fr) (h1:af.mode=.run) (h2:fr.mode=.run) (h:aa2 P ρ orc μ G H nx nt af.todo af.tm fr.todo fr.tmps):Cur P ρ orc μ G H nx af fr
 |ret (nt:Nat) (hb:CD P ρ μ nt af fr) (h1:af.mode=.ret) (h2:fr.mode=.returning) (h3:af.todo=[]∨∃k,af.todo=.code .ret ::k) (h:lV ρ μ nt af.tm fr.tmps):Cur P ρ orc μ G H nx af fr
 |pan (nt:Nat) (hb:CD P ρ μ nt af fr) (v:AV) (u:Value) (r:Bool) (h1:af.mode=.pan v r) (h2:fr.mode=.panicking [{v:=u,recovered:=r}]) (hv:aY ρ μ v u) (h3:af.todo=[]) (h:lV ρ μ nt af.tm fr.tmps):Cur P ρ orc μ G H nx af fr
inductive Sus(P:Program)(ρ:Nat→Int)(orc:jR)(μ:Mu)(G:Key→Option ah)(H:T ah)(nx:Key)(af:nN)(fr:Frame):Prop
 |wait (nt:Nat) (hb:CD P ρ μ nt af fr) (h1:af.mode=.run) (h2:fr.mode=.run) (h:ML P ρ orc μ G H nx nt af.todo af.tm fr.todo fr.tmps):Sus P ρ orc μ G H nx af fr
 |unw (h:Cur P ρ orc μ G H nx af fr) (hm:af.mode≠.run):Sus P ρ orc μ G H nx af fr
def eL(P:Program)(ρ:Nat→Int)(orc:jR)(μ:Mu)(G:Key→Option ah)(H:T ah)(nx:Key):List nN→List Frame→Prop
 | [],[]=>True
 |a ::l,f ::fs=>Sus P ρ orc μ G H nx a f∧eL P ρ orc μ G H nx l fs
 |_,_=>False
def pk(af:nN):List Nat:=match af.todo with
 |.staged _ _ p ::_=>p.map (·.2.1.toNat)
 |_=>[]
def bR:List nN→List Nat
 | []=>[]
 |a ::l=>pk a++bR l
structure HD(P:Program)(ρ:Nat→Int)(orc:jR)(w0:W0)(μ0:Mu)(am:AM)(fr:Frame)(cs:List Frame)(w:World):Prop where
 ex:∃μ G,μ0.le μ∧bA P ρ w0 μ G am.nx.toNat w∧HSub am.h G∧Cur P ρ orc μ G am.h am.nx am.fr fr∧eL P ρ orc μ G am.h am.nx am.cs cs∧(bR (am.fr ::am.cs)).Nodup
section
variable{P:Program}{ρ:Nat→Int}{orc:jR}{μ μ':Mu}{G G':Key→Option ah}{H H':T ah}{nx nx':Key}
theorem ML.cF(hm:μ.le μ')(hn:nx.toNat≤nx'.toNat){nt:Nat}{k:List dD}{tm:T AV}{K:List Item}{tmps:Array Value}(h:ML P ρ orc μ G H nx nt k tm K tmps)
  (hk:∀b:Key,(∀i d p k',k=.staged i d p ::k'→b.toNat∈p.map (·.2.1.toNat))→(∃i d p k',k=.staged i d p ::k')→ae b H=none→b.toNat<nx.toNat→μ' b=μ b∧G' b=G b∧ae b H'=none):ML P ρ orc μ' G' H' nx' nt k tm K tmps:=by
 cases h with
 |ops o l ops i rest k K tm tmps hp h ht=>exact .ops o l ops i rest k K tm tmps hp (h.mono hm) (ht.mono hm)
 |rf key l k K tm tmps ax6 h ht=>exact .rf key l k K tm tmps (hm.l _ _ ax6) (h.mono hm) (ht.mono hm)
 |staged ops pl bf g i po ad os xI items jT au k K tm tmps rest ud hf hc hL XU hd h hos LC S=>refine .staged ops pl bf g i po ad os xI items jT au k K tm tmps rest ud hf hc hL XU hd (h.mono hm) hos LC (S.cF hm hn fun x hx=>?_);obtain⟨_,_,_,p4,p5⟩:=S.pe x hx;refine hk x.2.1 ?_ ⟨_,_,_,_,rfl⟩ p4 p5;intro i d p k' e;cases e;exact We.2 ⟨x,hx,rfl⟩
theorem Sus.cF(hm:μ.le μ')(hn:nx.toNat≤nx'.toNat){af:nN}{fr:Frame}(h:Sus P ρ orc μ G H nx af fr)
  (hk:∀b:Key,b.toNat∈pk af→ae b H=none→b.toNat<nx.toNat→μ' b=μ b∧G' b=G b∧ae b H'=none):Sus P ρ orc μ' G' H' nx' af fr:=by
 cases h with
 |wait nt hb h1 h2 h=>refine .wait nt (hb.mono hm) h1 h2 (h.cF hm hn fun b h3 ⟨i,d,p,k',e⟩ h4 h5=>hk b ?_ h4 h5);unfold pk;rw[e];exact h3 i d p k' e
 |unw h Dk=>
  refine .unw ?_ Dk;cases h with
  |run nt hb h1=>exact absurd h1 Dk
  |ret nt hb h1 h2 h3 h=>exact .ret nt (hb.mono hm) h1 h2 h3 (h.mono hm)
  |pan nt hb v u r h1 h2 hv h3 h=>exact .pan nt (hb.mono hm) v u r h1 h2 (hv.mono hm) h3 (h.mono hm)
theorem eL.cF(hm:μ.le μ')(hn:nx.toNat≤nx'.toNat):∀{l:List nN} {fs:List Frame},eL P ρ orc μ G H nx l fs→
  (∀b:Key,b.toNat∈bR l→ae b H=none→b.toNat<nx.toNat→μ' b=μ b∧G' b=G b∧ae b H'=none)→eL P ρ orc μ' G' H' nx' l fs
 | [],[],_,_=>trivial
 |_ ::_,_ ::_,h,hk=>⟨h.1.cF hm hn fun b hb=>hk b (by simp[bR,hb]),eL.cF hm hn h.2 fun b hb=>hk b (by simp[bR,hb])⟩
 | [],_ ::_,h,_=>h.elim
 |_ ::_,[],h,_=>h.elim
end
section
variable{P:Program}{ρ:Nat→Int}{orc:jR}{nt:Nat}{w0:W0}{cs:List Frame}{K:List Item}{ops:Array Oper}
theorem lV.put{μ:Mu}{tm:T AV}{tmps:Array Value}(h:lV ρ μ nt tm tmps){o:Oper}{po:aA}(hd:(o.dst=none∧po.dst=none)∨∃k,o.dst=some k.toNat∧po.dst=some k∧k.toNat<nt){a:AV}{v:Value}(hv:aY ρ μ a v) :
  lV ρ μ nt (cr po.dst a tm) (JX o.dst v tmps):=by
 rcases hd with⟨e1,e2⟩|⟨k,e1,e2,cD⟩
 ·rw[e1,e2];exact h
 ·rw[e1,e2];refine⟨by simp[JX];exact h.1,fun q b hb=>?_⟩;simp only[cr]at hb;simp only[JX];by_cases hq:q=k
  ·subst hq;rw[gTSm]at hb;cases hb;have:q.toNat<tmps.size:=OX cD h.1;exact⟨v,by simp[this],hv⟩
  ·rw[aU _ _ _ _ hq]at hb;obtain⟨u,hu,hr⟩:=h.2 q b hb;refine⟨u,?_,hr⟩;rw[zqn]
   ·exact hu
   ·intro e;exact hq (Key.toNat_inj e.symm)
theorem akY{o:Oper}{op:MD}(hp:ky P nt o=some op)(hd:gi o.op=true):∃v l,op=.dfr v l:=by
 obtain⟨dst,JF,ty,pos,after,guard⟩:=o;cases JF<;>first|(cases hd;done)|skip
 rename_i c;simp only[ky]at hp;split at hp
 ·split at hp
  ·simp only[eM]at hp;exact⟨_,_,hp.symm⟩
  ·cases hp
 ·cases hp
theorem CG{o:Oper}{op:MD}(hp:ky P nt o=some op){tm:T AV}{H:T ah}{nx:Key}(h1:∀f l,aOp orc op tm H nx≠.dfr f l)(h2:∀n,aOp orc op tm H nx≠.bad n):gi o.op=false:=by
 cases hd:gi o.op with
 |false=>rfl
 |true=>
  obtain⟨v,l,rfl⟩:=akY hp hd;exfalso;have key:(∃f l',aOp orc (.dfr v l) tm H nx=.dfr f l')∨∃n,aOp orc (.dfr v l) tm H nx=.bad n:=by
   simp only[aOp];split
   ·exact .inl ⟨_,_,rfl⟩
   ·exact .inr ⟨_,rfl⟩
  rcases key with⟨f,l',e⟩|⟨n,e⟩
  ·exact h1 _ _ e
  ·exact h2 _ e
def aph(P:Program)(ρ:Nat→Int)(orc:jR)(nt:Nat)(w0:W0)(cs:List Frame)(K:List Item)(ops:Array Oper)(fr:Frame)(w:World)(μ:Mu)(G:Key→Option ah)(H:T ah)(nx:Key):RR→Prop
 |.fin ay h' nx'=>∃eQ w' μ' G',Steps P (lone fr cs w) (lone {fr with tmps:=eQ,todo:=K} cs w')∧μ.le μ'∧bA P ρ w0 μ' G' nx'.toNat w'∧HSub h' G'∧lV ρ μ' nt ay eQ∧Kept H h' nx nx' μ μ' G G'
 |.ev r l' ay h' nx'=>(∃n,r=.bad n)∨∃eQ w' μ' G' i me po ll o,Steps P (lone fr cs w) (lone {fr with tmps:=eQ,todo:=.inRegion ops (i ::me) ::K} cs w')∧μ.le μ'∧bA P ρ w0 μ' G' nx'.toNat w'∧HSub h' G'∧
   lV ρ μ' nt ay eQ∧Kept H h' nx nx' μ μ' G G'∧l'=po ::ll∧pB P nt ops (i ::me)=some l'∧ops[i]?=some o∧P9 P nt ops o=some po∧Region.wanted o (yielded ops eQ)=true∧aOp orc po.op ay h' nx'=r∧¬EO r
theorem ry(orc:jR)(o:aA)(rest:List aA)(tm:T AV)(h:T ah)(nx:Key):lX orc (o ::rest) tm h nx=(match di o.guard tm with
   |none=>.ev (.bad 30) (o ::rest) tm h nx
   |some false=>ze o.dst (some (.tuple [])) tm fun tm=>lX orc rest tm h nx
   |some true=>match aOp orc o.op tm h nx with
    |.val v h nx=>ze o.dst (some v) tm fun tm=>lX orc rest tm h nx
    |r=>.ev r (o ::rest) tm h nx):=rfl
theorem MN(ho:fK ρ orc):∀(l:List aA) (rest:List Nat) (fr:Frame) (w:World) (μ:Mu) (G:Key→Option ah) (H:T ah) (nx:Key) (tm:T AV),pB P nt ops rest=some l→bA P ρ w0 μ G nx.toNat w→HSub H G→lV ρ μ nt tm fr.tmps→
  fr.mode=.run→fr.todo=.inRegion ops rest ::K→aph P ρ orc nt w0 cs K ops fr w μ G H nx (lX orc l tm H nx)
 | [],rest,fr,w,μ,G,H,nx,tm,hp,hM,hH,hT,hm,ht=>by
  cases rest with
  |cons i r=>simp only[pB]at hp;split at hp;cases hp;split at hp<;>cases hp
  |nil=>exact⟨fr.tmps,w,μ,G,.one (KZ hm ht),μ.le_refl,hM,hH,hT,Kept.refl _ _ _ _⟩
 |po ::l,rest,fr,w,μ,G,H,nx,tm,hp,hM,hH,hT,hm,ht=>by
  cases rest with
  |nil=>simp only[pB,eM]at hp;cases hp
  |cons i r=>
  have hp0:=hp;simp only[pB]at hp;split at hp
  ·cases hp
  ·rename_i o Q8;split at hp
   ·rename_i Xc l' h1 h2;simp only[eM,List.cons.injEq]at hp;obtain⟨rfl,rfl⟩:=hp;obtain⟨mg,YR,EP⟩:=jz h1;have hs:∀(k:Key) a,k.toNat∈mT ops o→ae k tm=some a→∃v,fr.tmps[k.toNat]?=some v∧aY ρ μ a v:=fun k a _ hg=>hT.2 k a hg;have hE:=Ju (P:=P) (nt:=nt) (o:=o) hM hs;rw[ry];have go:∀(aJ:T AV) (tmps2:Array Value) (w2:World) (μ2:Mu) (G2:Key→Option ah) (H2:T ah) (aN:Key),step P (lone fr cs w)=.next (lone {fr with tmps:=tmps2,todo:=.inRegion ops r ::K} cs w2)→μ.le μ2→bA P ρ w0 μ2 G2 aN.toNat w2→HSub H2 G2→lV ρ μ2 nt aJ tmps2→Kept H H2 nx aN μ μ2 G G2→
      aph P ρ orc nt w0 cs K ops fr w μ G H nx (lX orc l' aJ H2 aN):=by
     intro aJ tmps2 w2 μ2 G2 H2 aN ei hle hM2 hH2 hT2 hK2;have ih:=MN ho l' r {fr with tmps:=tmps2,todo:=.inRegion ops r ::K} w2 μ2 G2 H2 aN aJ h2 hM2 hH2 hT2 hm rfl;cases RF:lX orc l' aJ H2 aN with
     |fin ay h' nx'=>rw[RF]at ih;obtain⟨eQ,w',μ',G',s1,s2,s3,s4,s5,s6⟩:=ih;exact⟨eQ,w',μ',G',.head ei s1,Mu.le_trans hle s2,s3,s4,s5,hK2.trans s6⟩
     |ev rr ll ay h' nx'=>
      rw[RF]at ih;rcases ih with hb|⟨eQ,w',μ',G',i',me,Xc,ll',o',s1,s2,s3,s4,s5,s6,s7,s8,s9,s10,s11,s12,s13⟩
      ·exact .inl hb
      ·exact .inr ⟨eQ,w',μ',G',i',me,Xc,ll',o',.head ei s1,Mu.le_trans hle s2,s3,s4,s5,hK2.trans s6,s7,s8,s9,s10,s11,s12,s13⟩
    cases hw:di Xc.guard tm with
    |none=>exact .inl ⟨_,rfl⟩
    |some b=>
     have sY:=DB YR hs hw;cases b with
     |false=>simp only[fO];have ei:=Mb (P:=P) (cs:=cs) (w:=w) hm ht Q8 sY;rw[dm ht Q8]at ei;exact go _ _ w μ G H nx ei μ.le_refl hM hH (hT.put EP (.tuple _ _ .nil)) (Kept.refl _ _ _ _)
     |true=>
      cases ha:aOp orc Xc.op tm H nx with
      |val a H2 aN=>
       simp only[fO];obtain⟨n,w2,μ2,G2,r1,r2,r3,r4,r5,r6⟩:=YC hM hH ho mg hE ha;have SV:fr.roundOf=none∨gi o.op=false:=.inr (CG mg (by rw[ha];intro f l e;cases e) (by rw[ha];intro n e;cases e));cases n with
       |value v=>have ei:=ZS (P:=P) (cs:=cs) hm ht Q8 sY SV r1;rw[dm ht Q8]at ei;exact go _ _ w2 μ2 G2 H2 aN ei r3 r4 r5 ((hT.mono r3).put EP r2) r6
       |skip=>have r2:a=.tuple []:=r2;subst r2;have ei:=aiO (P:=P) (cs:=cs) hm ht Q8 sY SV r1;rw[dm ht Q8]at ei;exact go _ _ w2 μ2 G2 H2 aN ei r3 r4 r5 ((hT.mono r3).put EP (.tuple _ _ .nil)) r6
       |_=>exact r2.elim
      |bad n=>exact .inl ⟨_,rfl⟩
      |call f args=>exact .inr ⟨fr.tmps,w,μ,G,i,r,Xc,l',o,by rw[←ht];exact Steps.refl _ _,μ.le_refl,hM,hH,hT,Kept.refl _ _ _ _,rfl,hp0,Q8,h1,sY,ha,by rintro(⟨_,_,_,e⟩|⟨_,e⟩)<;>cases e⟩
      |yld k args=>exact .inr ⟨fr.tmps,w,μ,G,i,r,Xc,l',o,by rw[←ht];exact Steps.refl _ _,μ.le_refl,hM,hH,hT,Kept.refl _ _ _ _,rfl,hp0,Q8,h1,sY,ha,by rintro(⟨_,_,_,e⟩|⟨_,e⟩)<;>cases e⟩
      |pan v=>exact .inr ⟨fr.tmps,w,μ,G,i,r,Xc,l',o,by rw[←ht];exact Steps.refl _ _,μ.le_refl,hM,hH,hT,Kept.refl _ _ _ _,rfl,hp0,Q8,h1,sY,ha,by rintro(⟨_,_,_,e⟩|⟨_,e⟩)<;>cases e⟩
      |dfr f args=>exact .inr ⟨fr.tmps,w,μ,G,i,r,Xc,l',o,by rw[←ht];exact Steps.refl _ _,μ.le_refl,hM,hH,hT,Kept.refl _ _ _ _,rfl,hp0,Q8,h1,sY,ha,by rintro(⟨_,_,_,e⟩|⟨_,e⟩)<;>cases e⟩
      |recover=>exact .inr ⟨fr.tmps,w,μ,G,i,r,Xc,l',o,by rw[←ht];exact Steps.refl _ _,μ.le_refl,hM,hH,hT,Kept.refl _ _ _ _,rfl,hp0,Q8,h1,sY,ha,by rintro(⟨_,_,_,e⟩|⟨_,e⟩)<;>cases e⟩
   ·cases hp
end
structure FI(E:List Nat)(H H':T ah)(nx nx':Key)(μ μ':Mu)(G G':Key→Option ah):Prop where
 k:∀b:Key,b.toNat∉E→ae b H=none→b.toNat<nx.toNat→μ' b=μ b∧G' b=G b∧ae b H'=none
 n:nx.toNat≤nx'.toNat
theorem FI.refl(E:List Nat)(H:T ah)(nx:Key)(μ:Mu)(G:Key→Option ah):FI E H H nx nx μ μ G G:=⟨fun _ _ h _=>⟨rfl,rfl,h⟩,fg _⟩
theorem FI.trans{E E2:List Nat}{H1 H2 H3:T ah}{n1 n2 n3:Key}{m1 m2 m3:Mu}{G1 G2 G3:Key→Option ah}(a:FI E H1 H2 n1 n2 m1 m2 G1 G2)(b:FI E2 H2 H3 n2 n3 m2 m3 G2 G3)(hE:∀x∈E2,x∈E∨n1.toNat≤x):FI E H1 H3 n1 n3 m1 m3 G1 G3:=by
 refine⟨fun k hk hg hl=>?_,Nat.le_trans a.n b.n⟩;obtain⟨a1,a2,a3⟩:=a.k k hk hg hl;have RY:k.toNat∉E2:=by
  intro h;rcases hE _ h with h|h
  ·exact hk h
  ·omega
 obtain⟨b1,b2,b3⟩:=b.k k RY a3 (OX hl a.n);exact⟨b1.trans a1,b2.trans a2,b3⟩
theorem Kept.toE{H H':T ah}{nx nx':Key}{μ μ':Mu}{G G':Key→Option ah}(h:Kept H H' nx nx' μ μ' G G')(E:List Nat):FI E H H' nx nx' μ μ' G G':=
 ⟨fun b _ hg hl=>⟨h.m b hl,h.g b hg hl,h.h b hg hl⟩,h.n⟩
section
variable{P:Program}{ρ:Nat→Int}{orc:jR}{nt:Nat}{ops:Array Oper}{pl:List aA}{bf:List Nat}{w0:W0}{w:World}{μ μ':Mu}{G G':Key→Option ah}{H H':T ah}{nx nx':Key}{g:Gh}{Gk aC1:Nat→Prop}{au pend':List (Nat×Key×ah)}{tm:T AV}{tmps:Array Value}{rest:List Nat}{fr:Frame}{cs:List Frame}{K:List Item}{i:Nat}
theorem iw.avm(S:iw P ρ orc nt ops pl bf μ G H nx g Gk au tm tmps (i ::rest)){po:aA}(ud:pl[i]?=some po)(hL:hasB g.L i=false)(hb:∀j,j<ops.size→hasB (gK bf i) j=true→hasB g.L j=true)
  {o:Oper} (ho:ops[i]?=some o) {a:AV} {v:Value} (hv:aY ρ μ a v) :
  iw P ρ orc nt ops pl bf μ G H nx {L:=MH g.L i,D:=fun j=>g.D j||j==i,a0:=g.a0,val:=Az g.val i (some a)} Gk au (cr po.dst a tm) (JX o.dst v tmps) rest:=by
 obtain⟨hi,hDi,qx⟩:=S.ready;obtain⟨o',Xc,RJ,YQ,JZ⟩:=S.Th.at hi;rw[ud]at JZ;cases JZ;rw[ho]at RJ;cases RJ;obtain⟨mg,YR,EP⟩:=jz YQ;have hdi:pC ops i=o.dst:=by simp[pC,ho]
 have axv:∀x,o.dst=some x→x<tmps.size:=by
  intro x hx;rcases EP with⟨h,_⟩|⟨k,h,_,cD⟩
  ·rw[h]at hx;cases hx
  ·rw[h]at hx;cases hx;exact OX cD S.sz
 have HJ:=fun t=>aiB (v:=v) t axv;have aoF:(JX o.dst v tmps).size=tmps.size:=by cases o.dst<;>simp[JX]
 have hD':∀j,((g.D j||j==i)=true)↔(g.D j=true∨j=i):=by intro j;simp
 have P3:∀j,hasB (MH g.L i) j=true↔(hasB g.L j=true∨j=i):=by intro j;rw[MP,Bool.or_eq_true,decide_eq_true_eq];exact⟨fun h=>h.imp id Eq.symm,fun h=>h.imp id Eq.symm⟩
 have hnb:∀p,hasB g.L p=true→hasB (gK bf p) i=false:=by
  intro p hp;cases h:hasB (gK bf p) i with
  |false=>rfl
  |true=>have:=S.lcl p hp i hi h;rw[hL]at this;cases this
 refine⟨S.Th,S.ord.2.2.2,?_,?_,?_,?_,?_,?_,by rw[aoF];exact S.sz,?_,?_,?_,?_,S.nk,S.ni⟩
 ·intro j oj hj hoj e he yv;rcases (hD' j).1 hj with h|h
  ·exact(hD' _).2 (.inl (S.cl j oj h hoj e he yv))
  ·subst h;exact(hD' _).2 (.inl (S.ord.2.2.1 oj hoj e he yv))
 ·intro j hj;rcases (hD' j).1 hj with h|h
  ·exact(P3 j).2 (.inl (S.sub j h))
  ·exact(P3 j).2 (.inr h)
 ·intro j hj;rcases (P3 j).1 hj with h|h
  ·exact S.L8 j h
  ·subst h;exact hi
 ·intro j hj q hq hbq;rcases (P3 j).1 hj with h|h
  ·exact(P3 q).2 (.inl (S.lcl j h q hq hbq))
  ·subst h;exact(P3 q).2 (.inl (hb q hq hbq))
 ·intro k j hj hd;rcases EP with⟨e1,e2⟩|⟨kd,e1,e2,_⟩
  ·rcases (P3 j).1 hj with h|h
   ·have bX:j≠i:=by intro e;subst e;rw[hL]at h;cases h
    rw[e2];simp only[cr,Az,bX,if_false];exact S.a1 k j h hd
   ·subst h;rw[hdi,e1]at hd;cases hd
  ·rw[e2];simp only[cr];rcases (P3 j).1 hj with h|h
   ·have bX:j≠i:=by intro e;subst e;rw[hL]at h;cases h
    have hk:k≠kd:=by intro e;subst e;exact bX (S.Th.SY hd (hdi.trans e1))
    rw[aU _ _ _ _ hk];simp only[Az,bX,if_false];exact S.a1 k j h hd
   ·subst h;rw[hdi,e1]at hd;have hk:k=kd:=Key.toNat_inj (by simpa using hd.symm);subst hk;rw[gTSm];simp[Az]
 ·intro k sx;rcases EP with⟨e1,e2⟩|⟨kd,e1,e2,_⟩
  ·rw[e2];exact S.a2 k fun j hj=>sx j ((P3 j).2 (.inl hj))
  ·rw[e2];simp only[cr];have hk:k≠kd:=by intro e;subst e;exact sx i ((P3 i).2 (.inr rfl)) (hdi.trans e1)
   rw[aU _ _ _ _ hk];exact S.a2 k fun j hj=>sx j ((P3 j).2 (.inl hj))
 ·intro k j b hj hjd hjv;rw[HJ];rcases (hD' j).1 hj with h|h
  ·have bX:j≠i:=by intro e;subst e;rw[hDi]at h;cases h
   by_cases e:o.dst=some k.toNat
   ·exact absurd (S.Th.SY (hdi.trans e) hjd).symm bX
   ·rw[if_neg e];exact S.c1 k j b h hjd (by simpa[Az,bX]using hjv)
  ·subst h;rw[hdi]at hjd;rw[if_pos hjd];have hjv:b=a:=by simpa[Az]using hjv.symm
   subst hjv;exact⟨v,rfl,hv⟩
 ·intro k b sx ha;rw[HJ];have hni:o.dst≠some k.toNat:=by intro e;exact sx i ((hD' i).2 (.inr rfl)) (hdi.trans e)
  rw[if_neg hni];exact S.c2 k b (fun j hj=>sx j ((hD' j).2 (.inl hj))) ha
 ·intro j hj hjD;have hjD:(g.D j||j==i)=false:=hjD;rw[Bool.or_eq_false_iff]at hjD;have bX:j≠i:=by simpa using hjD.2
  have hjL:=((P3 j).1 hj).resolve_right bX;exact(S.pd j hjL hjD.1).pQ (hnb j hjL) bX (fun _ h=>h) (fun _ h=>.inl h)
 ·intro x hx;obtain⟨p1,p2,p3,p4,p5⟩:=S.pe x hx;have bX:x.1≠i:=by intro e;rw[e,hL]at p1;cases p1
  refine⟨(P3 _).2 (.inl p1),fun h=>p2 (((hD' _).1 h).resolve_right bX),fun h=>p3 ?_,p4,p5⟩;have h:(g.D x.1||x.1==i)=false:=h;rw[Bool.or_eq_false_iff]at h;exact h.1
theorem iw.Tu(S:iw P ρ orc nt ops pl bf μ G H nx g Gk au tm tmps (i ::rest))(hL:hasB g.L i=false)(hb:∀j,j<ops.size→hasB (gK bf i) j=true→hasB g.L j=true){o:Oper}(ho:ops[i]?=some o) :
  ∀(k:Key) a,k.toNat∈mT ops o→ae k tm=some a→∃v,tmps[k.toNat]?=some v∧aY ρ μ a v:=
 S.NT (S.aqn S.ready.1 hL hb) ho
theorem Mo:∀{p:List (Nat×Key×ah)} {h:T ah},HSub h G→(∀x∈p,G x.2.1=some x.2.2)→HSub (dJ p h) G
 | [],h,hs,_=>hs
 |x ::p,h,hs,hp=>by
  refine Mo (p:=p) ?_ (fun y hy=>hp y (by simp[hy]));intro b B hb;by_cases e:b=x.2.1
  ·subst e;rw[gTSm]at hb;cases hb;exact hp x (by simp)
  ·rw[aU _ _ _ _ e]at hb;exact hs b B hb
theorem BC:∀{p:List (Nat×Key×ah)} {h:T ah} {b:Key},ae b h=none→(∀x∈p,x.2.1.toNat≠b.toNat)→ae b (dJ p h)=none
 | [],h,b,hb,_=>hb
 |x ::p,h,b,hb,hp=>by refine BC (p:=p) ?_ (fun y hy=>hp y (by simp[hy]));rw[aU _ _ _ _ (fun e=>hp x (by simp) (by rw[e]))];exact hb
end
end Go.Sx
