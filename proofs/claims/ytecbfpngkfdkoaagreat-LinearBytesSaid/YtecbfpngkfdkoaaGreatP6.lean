/- A part of the proof. No condition. -/
import Derived.Test.YtecbfpngkfdkoaaGreatP5
import Derived.Test.YtecbfpngkfdkoaaGreatP4
import Derived.Laws.IdiomRangeMap
set_option linter.unusedSimpArgs false
set_option linter.unusedVariables false
set_option linter.unusedSectionVars false
namespace Go.Sx
open Go.RowKit
def Km(P:Program)(ρ:Nat→Int)(w0:W0)(f:Nat)(l:List AV)(H:T ab)(nx:Key)(a:AV)(H':T ab)(nx':Key):Prop:=∀(args:Array Value) (w:World) (μ:Mu) (G:Key→Option ab),aL P ρ w0 μ G nx.toNat w→HSub H G→ao ρ μ l args.toList→
 Calls P f args w fun e w'=>∃u μ' G',e=.returned u∧aA ρ μ' a u∧μ.le μ'∧aL P ρ w0 μ' G' nx'.toNat w'∧HSub H' G'∧Kept H H' nx nx' μ μ' G G'
structure Ctx(P:Program)(ρ:Nat→Int)(w0:W0)(C:cX):Prop where
 sum:∀f l H nx a H' nx',C.sum f l H nx=some (a,H',nx')→Km P ρ w0 f l H nx a H' nx'
 has : ∀ f l H nx r, C.sum f l H nx = some r → ∃ fn, P.funcs[f]? = some fn ∧ fn.body.isSome = true ∧ fn.name ≠ "runtime.NumGoroutine"
 orc:cD ρ C.orc
 fns:∀f p,(bif Nat.beq (Key.dL 12 f).toNat f then ae (Key.dL 12 f) C.fns else none)=some p→Ay P f=some p
 mix:P.follows .mixedOrders=true
section
variable{P:Program}{ρ:Nat→Int}{orc:dP}{nt:Nat}{w0:W0}{w:World}{μ:Mu}{G:Key→Option ab}{H:T ab}{nx:Key}
theorem MB{id:Nat}{k:List cv}{K:List Item}(h:jj P μ nt k K) :
  (∀k',lM id k=some k'→∃K',exitTo id K=some K'∧jj P μ nt k' K')∧(lM id k=none→exitTo id K=none):=by
 induction h with
 |nil=>exact⟨fun k' e=>(by cases e),fun _=>rfl⟩
 |cons a x l k h h' ih=>
  cases h with
  |inBlock id'=>
   simp only[lM,exitTo,beqN_eq];by_cases e:id'=id
   ·subst e;simp only[decide_true,cond_true,beq_self_eq_true,if_true];exact⟨fun k' e=>(by cases e;exact⟨_,rfl,h'⟩),fun e=>(by cases e)⟩
   ·have:(id'==id)=false:=by simpa using e
    simp only[e,decide_false,cond_false,this,Gy,if_false];exact ih
  |code pc c h=>exact ih
  |inLoop pc c h=>exact ih
  |ops l ops rest h=>exact ih
  |inRF k l r h hr=>exact ih
  |endRF k l r h hr=>exact ih
  |beginRound=>exact ih
  |scope c=>exact ih
noncomputable def eH:List AV→Key→T AV→T AV
 | [],_,tm=>tm
 |v ::l,k,tm=>eH l k.succ (ar k (some v) tm)
theorem AB{R:Type}:∀(l:List AV) (k:Key) (tm:T AV) (c:T AV→R),Ip l k tm c=c (eH l k tm)
 | [],_,_,_=>rfl
 |v ::l,k,tm,c=>by show pw k (some v) tm (fun tm=>Ip l k.succ tm c)=_;rw[sTCe,AB l];rfl
theorem Dy:∀(l:List AV) (k:Key) (tm:T AV) (q:Key) (a:AV),ae q (eH l k tm)=some a→(k.toNat≤q.toNat∧l[q.toNat-k.toNat]?=some a)∨ae q tm=some a
 | [],_,_,_,_,h=>.inr h
 |v ::l,k,tm,q,a,h=>by
  have hs:=kTSu k;rcases Dy l k.succ _ q a h with⟨h1,h2⟩|h1
  ·refine .inl ⟨by omega,?_⟩;have:q.toNat-k.toNat=(q.toNat-k.succ.toNat)+1:=by omega
   rw[this];simpa using h2
  ·by_cases e:q=k
   ·subst e;rw[gTSm]at h1;cases h1;exact .inl ⟨cI _,by simp⟩
   ·rw[bQ _ _ _ _ e]at h1;exact .inr h1
theorem MC{args:Array Value}{l:List AV}(h:ao ρ μ l args.toList):gG ρ μ nt (eH l .z .nil) (args++Array.replicate (nt-args.size) undef):=by
 refine⟨by simp;omega,fun q a hq=>?_⟩;rcases Dy l .z .nil q a hq with⟨_,h2⟩|h2
 ·have h2:l[q.toNat]?=some a:=by simpa[Key.toNat]using h2
  obtain⟨v,hv,hr⟩:=h.get _ _ h2;refine⟨v,?_,hr⟩;have bF:q.toNat<args.size:=by
   rcases zE q.toNat args.size with h'|h'
   ·exact h'
   ·rw[JE (by simpa using h')]at hv;cases hv
  rw[Array.getElem?_append_left bF];simpa using hv
 ·simp at h2
theorem ua {f : Nat} {p : dB} (h : Ay P f = some p) : ∃ fn c, P.funcs[f]? = some fn ∧ fn.body = some c ∧ fn.name ≠ "runtime.NumGoroutine" ∧ eu P fn.ntmps c = some p.body ∧ Gt P fn.ntmps fn.results.toList = some p.res := by
 unfold Ay at h;split at h
 ·cases h
 ·rename_i fn XO;split at h
  ·cases h
  ·rename_i c hc;cases hn : (fn.name == "runtime.NumGoroutine") with
   |true=>rw[hn]at h;cases h
   |false=>
    rw[hn]at h;simp only[cond_false]at h;split at h
    ·rename_i b r hb hr;cases h;exact⟨fn,c,XO,hc,by simpa using hn,hb,hr⟩
    ·cases h
theorem uc{f:Nat}{p:dB}(hp:Ay P f=some p){l:List AV}{args:Array Value}(hl:ao ρ μ l args.toList)(xP:Bool) :
  LI P ρ orc μ G H nx {fn:=f,tm:=eH l .z .nil,todo:=[.code p.body],dfs:=[],mode:=.run,xP,pz:=none,res:=p.res} (Frame.enter P f args (if xP then .deferred else .normal)):=by
 obtain⟨fn,c,h1,h2,h3,h4,h5⟩:=ua hp;refine .run fn.ntmps ⟨rfl,⟨fn,h1,rfl,h5⟩,trivial,rfl,trivial,fun h=>absurd rfl h⟩ rfl rfl ?_;simp only[Frame.enter,h1,Option.map_some,Option.getD_some,Option.bind_some,h2];exact .plain _ _ _ _ (.cons _ _ _ _ (.code _ _ h4) .nil) (MC hl)
theorem gG.set{tm:T AV}{tmps:Array Value}(h:gG ρ μ nt tm tmps){k:Key}(bF:k.toNat<nt){a:AV}{v:Value}(hv:aA ρ μ a v):gG ρ μ nt (ar k (some a) tm) (tmps.setIfInBounds k.toNat v):=by
 refine⟨by simp;exact h.1,fun q b hb=>?_⟩;by_cases hq:q=k
 ·subst hq;rw[gTSm]at hb;cases hb;have:q.toNat<tmps.size:=GD bF h.1;exact⟨v,by simp[this],hv⟩
 ·rw[bQ _ _ _ _ hq]at hb;obtain⟨u,hu,hr⟩:=h.2 q b hb;refine⟨u,?_,hr⟩;rw[Px]
  ·exact hu
  ·intro e;exact hq (Key.toNat_inj e.symm)
noncomputable def TJ:List Key→List AV→T AV→T AV
 |k ::l,v ::m,tm=>TJ l m (ar k (some v) tm)
 |_,_,tm=>tm
theorem Hi{R:Type}:∀(ks:List Key) (vs:List AV) (tm:T AV) (bad:R) (c:T AV→R),Iq ks vs tm bad c=bad∨(ks.length=vs.length∧Iq ks vs tm bad c=c (TJ ks vs tm))
 | [],[],tm,bad,c=>.inr ⟨rfl,rfl⟩
 | [],_ ::_,tm,bad,c=>.inl rfl
 |_ ::_,[],tm,bad,c=>.inl rfl
 |k ::l,v ::m,tm,bad,c=>by
  have e:Iq (k ::l) (v ::m) tm bad c=Iq l m (ar k (some v) tm) bad c:=by show pw k (some v) tm (fun tm=>Iq l m tm bad c)=_;rw[sTCe]
  rw[e];rcases Hi l m (ar k (some v) tm) bad c with h|⟨h1,h2⟩
  ·exact .inl h
  ·exact .inr ⟨by simp[h1],h2⟩
theorem Jy:∀{ks:List Key} {vs:List AV} {us:List Value} {tm:T AV} {tmps:Array Value},(∀k∈ks,k.toNat<nt)→ks.length=vs.length→ao ρ μ vs us→gG ρ μ nt tm tmps→
  gG ρ μ nt (TJ ks vs tm) (((ks.map Key.toNat).zip us).foldl (fun tmps (x:Nat×Value)=>tmps.setIfInBounds x.1 x.2) tmps)
 | [],[],_,_,_,_,_,.nil,h=>h
 | [],_ ::_,_,_,_,_,hl,_,_=>by cases hl
 |_ ::_,[],_,_,_,_,hl,_,_=>by cases hl
 |k ::ks,v ::vs,_,tm,tmps,hk,hl,.cons _ _ u us h h',ht=>by exact Jy (ks:=ks) (vs:=vs) (fun q hq=>hk q (by simp[hq])) (by simpa using hl) h' (ht.set (hk k (by simp)) h)
noncomputable def gh:List Key→T AV→T AV
 | [],tm=>tm
 |k ::l,tm=>gh l (ar k none tm)
theorem kO{R:Type}:∀(l:List Key) (tm:T AV) (c:T AV→R),AD l tm c=c (gh l tm)
 | [],_,_=>rfl
 |k ::l,tm,c=>by show pw k none tm (fun tm=>AD l tm c)=_;rw[sTCe,kO l];rfl
theorem FQ:∀(l:List Key) (tm:T AV) (q:Key) (a:AV),ae q (gh l tm)=some a→(∀k∈l,k≠q)∧ae q tm=some a
 | [],_,_,_,h=>⟨fun _ h=>(by cases h),h⟩
 |k ::l,tm,q,a,h=>by
  obtain⟨h1,h2⟩:=FQ l _ q a h;have cL:k≠q:=by intro e;subst e;rw[gTSm]at h2;cases h2
  rw[bQ _ _ _ _ (fun e=>cL e.symm)]at h2;refine⟨fun x hx=>?_,h2⟩;rcases zk.1 hx with e|e
  ·rw[e];exact cL
  ·exact h1 x e
theorem dS.erase{ops:Array Oper}{pl:List aq}{bf:List Nat}{g:Gh}{wP:Nat→Prop}{ak:List (Nat×Key×ab)}{tm:T AV}{tmps:Array Value}{rest:List Nat}(S:dS P ρ orc nt ops pl bf μ G H nx g wP ak tm tmps rest){fD:List Key}(hd:Ck ops fD) :
  gG ρ μ nt (gh fD tm) tmps:=by
 refine⟨S.sz,fun q a hq=>?_⟩;obtain⟨h1,h2⟩:=FQ _ _ _ _ hq;have Dn:∀j,jx ops j≠some q.toNat:=by intro j hj;obtain⟨k,hk,e⟩:=hd j _ hj;exact h1 k hk (Key.toNat_inj e)
 rw[S.a2 q fun j _=>Dn j]at h2;exact S.c2 q a (fun j _=>Dn j) h2
theorem By.finish{k:List cv}{tm:T AV}{K:List Item}{tmps:Array Value}(h:By P ρ orc μ G H nx nt k tm K tmps){af MR:jL}(hk:af.todo=k)(ht:af.tm=tm){fr:Frame}(hK:fr.todo=K)(hT:fr.tmps=tmps){a:AV}{v:Value}(hv:aA ρ μ a v)
  (hf:bc a af=some MR):Jz P ρ orc μ G H nx nt MR.todo MR.tm (fr.finish v).todo (fr.finish v).tmps∧pk MR=pk af∧(∃dR k2,MR={af with tm:=dR,todo:=k2})∧(∃tmps2 K2,fr.finish v={fr with tmps:=tmps2,todo:=K2}):=by
 cases h with
 |ops o l ops i rest k K tm tmps hp h ht'=>
  subst ht hT;simp only[bc,hk,cj,bB]at hf;subst hf;have Qs:=hp;simp only[jw]at hp;split at hp
  ·cases hp
  ·rename_i oo CW;split at hp
   ·rename_i Gq l' h1 h2;simp only[bB,List.cons.injEq]at hp;obtain⟨rfl,rfl⟩:=hp;obtain⟨qF,Ig,vV⟩:=fb h1;rw[bI hK CW];exact⟨.plain _ _ _ _ (.cons _ _ _ _ (.ops _ _ _ h2) h) (ht'.put vV hv),by simp[pk,hk],⟨_,_,rfl⟩,⟨_,_,rfl⟩⟩
   ·cases hp
 |staged ops pl bf g i po ad os pA items fD ak k K tm tmps rest nH hf' hc hL Hg hd h LH Az S=>
  subst ht hT;simp only[bc,hk,cj,bB]at hf;subst hf;obtain⟨hi,Tv,hbf⟩:=S.ready;obtain⟨o,Gq,CW,Ie,uJ⟩:=S.EA.at hi;rw[nH]at uJ;cases uJ;rw[bI hK CW];have S4:=S.Xy nH hL Hg CW hv;refine⟨.back ops pl bf _ os pA items fD ak k K _ _ rest hf' hc hd h LH ?_ S4,by simp[pk,hk],⟨_,_,rfl⟩,⟨_,_,rfl⟩⟩;intro j hj Sz hrj;have Sz:(g.D j||j==i)=false:=Sz;rw[Bool.or_eq_false_iff]at Sz;have cL:j≠i:=by simpa using Sz.2
  have hj:hasB (Bq g.L i) j=true:=hj;rw[BB,Bool.or_eq_true,decide_eq_true_eq]at hj;have Xz:=hj.resolve_right (fun e=>cL e.symm);rcases Az j Xz hrj with h|h
  ·have:=hbf j (S.AT j Xz) h;rw[Sz.1]at this;cases this
  ·exact h
 |rf key l k K tm tmps aar h ht'=>
  subst ht hT;simp only[bc,hk,bB]at hf;subst hf;have e:fr.finish v={fr with todo:=.endRangeFunc l.c ::K}:=by simp[Frame.finish,hK]
  rw[e];exact⟨.plain _ _ _ _ (.cons _ _ _ _ (.endRF _ _ _ aar rfl) h) ht',by simp[pk,hk],⟨_,_,rfl⟩,⟨_,_,rfl⟩⟩
def Pn(tmps:Array Value):ResultVar→Sem Value
 |.tmp t=>pure (tmps.getD t undef)
 |.cell a t=>do loadVar t (←asAddr (tmps.getD a undef))
theorem wu(hM:aL P ρ w0 μ G nx.toNat w)(hH:HSub H G){tm:T AV}{tmps:Array Value}(hT:gG ρ μ nt tm tmps):∀{rs:List ResultVar} {res:List RV} {l:List AV},Gt P nt rs=some res→resultsA H tm res=some l→
  ∃vs,(rs.mapM (Pn tmps)).run P w=.ok vs w∧ao ρ μ l vs
 | [],res,l,hp,hr=>by simp only[Gt,bB]at hp;subst hp;simp only[resultsA,bB]at hr;subst hr;exact⟨[],by simp[nJ],.nil⟩
 |.tmp t ::rs,res,l,hp,hr=>by
  simp only[Gt]at hp;split at hp
  ·rename_i k r hk hrs;cases hp;simp only[resultsA]at hr;split at hr
   ·rename_i a l' ha IA;cases hr;obtain⟨vs,h1,h2⟩:=wu hM hH hT hrs IA;obtain⟨v,hv,XV⟩:=hT.2 _ _ ha;rw[(kK hk).1]at hv;refine⟨v ::vs,?_,.cons _ _ _ _ XV h2⟩;have hg:tmps.getD t undef=v:=by simp[Array.getD_eq_getD_getElem?,hv]
    rw[List.mapM_cons];simp only[Pn,kb,nJ,gC,hg,h1]
   ·cases hr
  ·cases hp
 |.cell a t ::rs,res,l,hp,hr=>by
  simp only[Gt]at hp;split at hp
  ·rename_i k i r hk hi hrs;cases hp;simp only[resultsA]at hr;split at hr
   ·rename_i b off l' ha IA;split at hr
    ·rename_i x hx;cases hr;obtain⟨vs,h1,h2⟩:=wu hM hH hT hrs IA;obtain⟨v,hv,XV⟩:=hT.2 _ _ ha;rw[(kK hk).1]at hv;have hg:tmps.getD a undef=v:=by simp[Array.getD_eq_getD_getElem?,hv]
     cases XV with|ptr _ _ lc ad fY ja=>
     subst ja;simp only[loadB]at hx;split at hx
     ·rename_i L ck hL;obtain⟨ii,d,z,e1,e2,e3,e4,e5,e6⟩:=gk hi;rw[e5,e6]at hx;obtain⟨u,hu,hur⟩:=zF hM (hH _ _ hL) e1 e2 hx fY;refine⟨u ::vs,?_,.cons _ _ _ _ hur h2⟩;rw[List.mapM_cons];simp only[Pn,kb,nJ,gC,hg,asAddr,hu,h1]
     ·cases hx
    ·cases hr
   ·cases hr
  ·cases hp
def BP(vs:List Value):Value:=if h:vs.toArray.size=1 then vs.toArray[0]else .tuple vs.toArray
theorem Mj{l:List AV}{vs:List Value}(h:ao ρ μ l vs):aA ρ μ (lN l) (BP vs):=by
 cases h with
 |nil=>exact .tuple _ _ .nil
 |cons a l v vs h h'=>
  cases h' with
  |nil=>exact h
  |cons b l v2 vs h5 h6=>
   have:BP (v ::v2 ::vs)=.tuple (v ::v2 ::vs).toArray:=by simp[BP]
   rw[this];exact .tuple _ _ (.cons _ _ _ _ h (.cons _ _ _ _ h5 h6))
theorem GM(hM:aL P ρ w0 μ G nx.toNat w)(hH:HSub H G){tm:T AV}{tmps:Array Value}(hT:gG ρ μ nt tm tmps){fn:Func}{res:List RV}{l:List AV}(hp:Gt P nt fn.results.toList=some res)(hr:resultsA H tm res=some l) :
  ∃vs,(results fn tmps).run P w=.ok (BP vs) w∧ao ρ μ l vs:=by
 obtain⟨vs,h1,h2⟩:=wu hM hH hT hp hr;have ajC:results fn tmps=(do
   let vs ←fn.results.mapM (Pn tmps)
   pure (if h:vs.size=1 then vs[0]else .tuple vs)):=by
  unfold results;congr 1
 refine⟨vs,?_,h2⟩;have hm:fn.results.mapM (Pn tmps)=Functor.map List.toArray (fn.results.toList.mapM (Pn tmps)):=by rw[←List.mapM_toArray]
 rw[ajC,hm];simp only[map_eq_pure_bind,bind_assoc,pure_bind,kb,h1,gC,nJ];rfl
end
section
variable{P:Program}{ρ:Nat→Int}{w0:W0}{w:World}{μ:Mu}{G:Key→Option ab}{nx:Key}{orc:dP}{nt:Nat}{tm:T AV}{H:T ab}{ev:Operand→Value}
theorem MT(i:Nat):∀(l:List Nat),TK i l=l.contains i
 | []=>rfl
 |j ::l=>by
  simp only[TK,beqN_eq,MT i l,List.contains_cons];by_cases h:i=j
  ·subst h;simp
  ·have:(i==j)=false:=by simpa using h
   simp[h,this]
theorem EM{seen:List Nat}:∀{L:List (Nat×AV×AV)} {es:List MapEntry},fc ρ μ L es→fc ρ μ (BA seen L) (es.filter fun e=>!seen.contains e.born)
 | [],[],_=>trivial
 |(s,k,a) ::l,e ::es,h=>by
  obtain⟨h0,h1,h2,h3⟩:=h;subst h0;simp only[BA,MT,List.filter_cons];cases hc:seen.contains e.born with
  |true=>simp only[cond_true,Bool.not_true,Gy,if_false];exact EM h3
  |false=>simp only[cond_false,Bool.not_false,if_true];exact⟨rfl,h1,h2,EM h3⟩
 | [],_ ::_,h=>h.elim
 |(_,_,_) ::_,[],h=>h.elim
theorem EN{n:Nat}:∀{L:List (Nat×AV×AV)} {es:List MapEntry},fc ρ μ L es→Cl n L=true→∀e∈es,e.born<n
 | [],[],_,_,e,he=>by cases he
 |(s,k,a) ::l,e ::es,h,hu,x,hx=>by
  obtain⟨h0,h1,h2,h3⟩:=h;simp only[Cl,fa,bltN_eq,decide_eq_true_eq]at hu;rcases zk.1 hx with rfl|hx
  ·omega
  ·exact EN h3 hu.2 x hx
 | [],_ ::_,h,_,_,_=>h.elim
 |(_,_,_) ::_,[],h,_,_,_=>h.elim
theorem fc.get:∀{L:List (Nat×AV×AV)} {es:List MapEntry} {t:Nat} {e:MapEntry},fc ρ μ L es→es[t]?=some e→∃s k a,(s,k,a)∈L∧e.born=s∧aA ρ μ k e.key∧aA ρ μ a e.val
 | [],[],t,e,_,h=>by simp at h
 |(s,k,a) ::l,x ::es,t,e,hp,h=>by
  obtain⟨h0,h1,h2,h3⟩:=hp;cases t with
  |zero=>simp at h;subst h;exact⟨s,k,a,by simp,h0,h1,h2⟩
  |succ t=>obtain⟨s',k',a',q,r⟩:=fc.get h3 (t:=t) (by simpa using h);exact⟨s',k',a',by simp[q],r⟩
 | [],_ ::_,_,_,h,_=>h.elim
 |(_,_,_) ::_,[],_,_,h,_=>h.elim
theorem Hk{b m:Key}{n:Nat}{seen:List Nat}{s:Nat}{k v:AV}:∀{L:List (Nat×AV×AV)},(s,k,v)∈L→(AV.tuple [.bool true,k,v],ar b (some (.iter m n (seen ++ [s]))) H)∈JB b m n seen H L
 | [],h=>by cases h
 |(s',k',v') ::l,h=>by
  simp only[JB,sTCe];rcases zk.1 h with e|h
  ·cases e;simp
  ·exact List.mem_cons_of_mem _ (Hk h)
theorem JC(ty:TypeId){r bm n:Nat}{seen:Array Nat}{es:Array MapEntry}(hi:w.heap[r]?=some (.mapIter (some bm) n seen n))(hb:w.heap[bm]?=some (.map es n))(hold:∀x∈es.toList,x.born<n) :
  ((leftOf es seen).size=0∧(Instr.next (.pointer (some ⟨r,0,none⟩)) false ty).run P w=.ok (.tuple #[.bool false]) w)∨
  ∃e∈(leftOf es seen).toList,∃d:Nat,w.drawn≤d∧(Instr.next (.pointer (some ⟨r,0,none⟩)) false ty).run P w=.ok (.tuple #[.bool true,e.key,e.val]) {w with drawn:=d,heap:=w.heap.setIfInBounds r (.mapIter (some bm) n (seen.push e.born) n)}:=by
 simp only[Instr.next,getObj,kb,Sem.run,hi,hb,Result.andThen,next_test_false seen es n n hold (cI _),Gy,if_false];unfold leftOf;have jM:∀x∈(Array.filter (fun e=>!seen.contains e.born) es).toList,x.born<n:=fun x hx=>hold x (by simp at hx ⊢;exact hx.1);generalize Array.filter (fun e=>!seen.contains e.born) es=L at jM ⊢;have e1:L.filter (fun x=>decide (x.born<n))=L:=Array.filter_eq_self.2 (fun x hx=>by simpa using jM x (by simpa using hx));have e2:L.filter (fun x=>decide (x.born≥n))=#[]:=by rw[Array.filter_eq_empty_iff];intro x hx;have:=jM x (by simpa using hx);simp;omega
 simp only[e1,e2,Array.append_empty];by_cases h0:L.size=0
 ·left;have:L=#[]:=Array.eq_empty_of_size_eq_zero h0;subst this;refine⟨rfl,?_⟩;simp[choose,Sem.run,Question.forced]
 ·right;have cL:L.isEmpty=false:=by simp[Array.isEmpty,h0]
  simp only[cL,Gy,if_false,Array.empty_append,Array.size_map];have hch:∃(j d:Nat),j<L.size∧w.drawn≤d∧(choose (Question.mapNext L.size)).run P w=.ok j {w with drawn:=d}:=by
   by_cases hf:L.size≤1
   ·exact⟨0,w.drawn,by omega,cI _,by simp[choose,Sem.run,Question.forced,hf]⟩
   ·exact⟨_,w.drawn+1,Nat.mod_lt _ (by omega),Nat.le_succ _,by simp only[choose,Sem.run,Question.forced,decide_eq_true_eq,hf,if_false,Question.cut];rfl⟩
  obtain⟨j,d,hj,hd,cR⟩:=hch;refine⟨L[j],by simp,d,hd,?_⟩;simp only[cR,Result.andThen];have lD:(L.map some)[j]?=some (some L[j]):=by simp[hj]
  simp only[lD];simp[setObj,Sem.run,hi,Result.andThen]
theorem Of(hM:aL P ρ w0 μ G nx.toNat w)(hH:HSub H G){o:Oper}{op:Aw}(hp:eZ P nt o=some op)(hE:qn P ρ μ nt o.op.operands.toList tm ev){alts:List (AV×T ab)}(h:aOp orc op tm H nx=.alt alts) :
  ∃a H' v w' μ' G',(a,H')∈alts∧(Go.execOp ev o).run P w=.ok (.value v) w'∧aA ρ μ' a v∧μ.le μ'∧aL P ρ w0 μ' G' nx.toNat w'∧HSub H' G'∧Kept H H' nx nx μ μ' G G':=by
 have he:=yW h (by rintro(⟨_,_,_,e⟩|⟨_,e⟩)<;>cases e);obtain⟨dst,qz,ty,pos,after,guard⟩:=o;cases op<;>first|(cases he;done)|skip
 ·rename_i px;obtain⟨x,e0,hx⟩:=dv hp;simp only at e0;subst e0;simp only[aOp]at h;split at h
  ·rename_i b hb;split at h
   ·rename_i m n seen hit;split at h
    ·rename_i L c dH;cases nI:(Nat.beq c n&&Cl n L)with
     |false=>rw[nI]at h;cases h
     |true=>
      rw[nI]at h;simp only[cond_true]at h;simp only[fa]at nI;obtain⟨MU,hun⟩:=nI;have MU:=mo MU;subst MU;have hv:=hE x (by simp[Op.operands]) px _ hx hb;generalize fu:ev x=xx at hv;cases hv with|ptr _ _ l a fY ha=>
      subst ha;have hg:=hH _ _ hit;obtain⟨l',o',h1,h2,h3⟩:=hM.DI b _ hg;rw[fY]at h1;cases h1;cases h3 with|iter _ _ _ _ lm sa Gi LO hzero=>
      obtain⟨B,l2,es,hB,k1,k2,cJ,aj8,amF⟩:=vW hM hH dH;rw[Gi]at k1;cases k1;subst LO;have VT:(⟨l.c,l.base+0,none⟩:Addr)=⟨l.c,l.base,none⟩:=rfl;have mn:w0.heap.size≤l.c:=(hM.own b _ l hg fY).resolve_left (by simp[ab.ro]);have ud:l.c<w.heap.size:=hM.Dc b l fY;have hex:∀v w',(Instr.next (ev x) false ty).run P w=.ok v w'→(Go.execOp ev ⟨dst,.next x false,ty,pos,after,guard⟩).run P w=.ok (.value v) w':=fun v w' hr=>bR hr;have JD:=EM (seen:=sa.toList) cJ;have sf:(leftOf es sa).toList=es.toList.filter fun e=>!sa.toList.contains e.born:=by simp[leftOf]
      rw[←sf]at JD;rcases JC (P:=P) (w:=w) ty h2 k2 (EN cJ hun)with⟨hz,hr⟩|⟨e,jM,d,hd,hr⟩
      ·have afC:BA sa.toList L=[]:=by
        have h0:(leftOf es sa).toList=[]:=by simpa using hz
        rw[h0]at JD;cases hl:BA sa.toList L with
        |nil=>rfl
        |cons y r=>rw[hl]at JD;obtain⟨_,_,_⟩:=y;exact JD.elim
       rw[afC]at h;simp only[OR.alt.injEq]at h;subst h;refine⟨.tuple [.bool false],H,.tuple #[.bool false],w,μ,G,by simp,hex _ _ (by rw[fu,hzero];exact hr),.tuple _ _ (.one (.bool _)),μ.le_refl,hM,hH,Kept.refl _ _ _ _⟩
      ·obtain⟨t,ht⟩:=List.getElem?_of_mem jM;obtain⟨s,k,a,q1,q2,q3,q4⟩:=JD.get ht;have hal:alts=JB b m c sa.toList H (BA sa.toList L):=by
        cases hl:BA sa.toList L with
        |nil=>rw[hl]at q1;cases q1
        |cons y r=>rw[hl]at h;simp only[OR.alt.injEq]at h;exact h.symm
       have hMd:=hM.drawn d hd;have xQ:μ.le (μ.put b l):=Mu.qH (.inr fY);obtain⟨g1,g2⟩:=hMd.put (w':={w with drawn:=d,heap:=w.heap.setIfInBounds l.c (.mapIter (some lm.c) c (sa.push e.born) c)}) b (.iter m c (sa.toList ++ [s])) l (.mapIter (some lm.c) c (sa.push e.born) c) (.inr fY)
        ⟨rfl,rfl,rfl,by simp,fun j hj _=>by show(w.heap.setIfInBounds l.c _)[j]?=_;rw[Px (Ne.symm hj)],cI _⟩
        (by show(w.heap.setIfInBounds l.c _)[l.c]?=_;simp[ud]) (.iter m c _ l lm _ (xQ.l _ _ Gi) (by simp[q2]) hzero) (fun b' B' l' g m' ne=>hM.sep b' b B' _ l' l g hg m' fY ne) mn (cI _) (hM.new b l fY) (hM.VU hg fY rfl)
       refine⟨.tuple [.bool true,k,a],ar b (some (.iter m c (sa.toList ++ [s]))) H,.tuple #[.bool true,e.key,e.val],_,_,_,by rw[hal];exact Hk q1,hex _ _ (by rw[fu,hzero];exact hr),.tuple _ _ (.cons _ _ _ _ (.bool _) (.cons _ _ _ _ (q3.mono xQ) (.one (q4.mono xQ)))),g1,g2,hH.set b _,kQ hit fY _ _⟩
    ·cases h
   ·cases h
  ·cases h
 all_goals (simp only[aOp]at h;repeat' (first|(cases h;done)|split at h))
end
def Good(P:Program)(ρ:Nat→Int)(C:cX)(w0:W0)(μ0:Mu)(rest:List Frame)(m:Machine):SR→Prop
 |.next MP=>∃dG vQ w',Steps P m (lone dG (vQ++rest) w')∧xk P ρ C.orc w0 μ0 MP dG vQ w'
 |.alt l=>∃MP∈l,∃dG vQ w',Steps P m (lone dG (vQ++rest) w')∧xk P ρ C.orc w0 μ0 MP dG vQ w'
 |.done f v h nx=>∃dG w' μ G u,Steps P m (lone dG rest w')∧dG.fn=f∧dG.leaving P w' (.returned u)∧aA ρ μ v u∧μ0.le μ∧aL P ρ w0 μ G nx.toNat w'∧HSub h G
 |_=>True
section
variable{P:Program}{ρ:Nat→Int}{C:cX}{nt:Nat}{w0:W0}{w:World}{μ0 μ:Mu}{G:Key→Option ab}{H:T ab}{nx:Key}{rest cs:List Frame}{fr:Frame}{af:jL}{fP:List jL}{K:List Item}{k:List cv}
theorem Good.steps{m m':Machine}{r:SR}(h:Steps P m m')(g:Good P ρ C w0 μ0 rest m' r):Good P ρ C w0 μ0 rest m r:=by
 cases r with
 |next MP=>obtain⟨dG,vQ,w',h1,h2⟩:=g;exact⟨dG,vQ,w',h.trans h1,h2⟩
 |done f v hh nx=>obtain⟨dG,w',μ,G,u,h1,h2⟩:=g;exact⟨dG,w',μ,G,u,h.trans h1,h2⟩
 |alt l=>obtain⟨MP,hm,dG,vQ,w',h1,h2⟩:=g;exact⟨MP,hm,dG,vQ,w',h.trans h1,h2⟩
 |pan v hh nx=>trivial
 |bad n m=>trivial
theorem Jw{fr dG:jL}{cs:List jL}{nx:Key}{v:AV}{h:T ab}(hf:bc v fr=some dG):∀{l:List (AV×T ab)},(v,h)∈l→(⟨dG,cs,h,nx⟩:AM)∈LG fr cs nx l
 | [],hm=>by cases hm
 |(v',h') ::l,hm=>by
  simp only[LG];rcases zk.1 hm with e|hm
  ·cases e;rw[hf];simp
  ·exact List.mem_cons_of_mem _ (Jw hf hm)
theorem Jx{fr dG:jL}{v:AV}(hf:bc v fr=some dG)(u:AV):∃C9,bc u fr=some C9:=by
 unfold bc at hf ⊢;split at hf
 ·exact⟨_,by simp only[cj];rfl⟩
 ·exact⟨_,by simp only[cj];rfl⟩
 ·exact⟨_,rfl⟩
 ·cases hf
theorem tX.todo(h:tX P ρ μ nt af fr)(t:T AV)(k:List cv)(T:Array Value)(K:List Item):tX P ρ μ nt {af with tm:=t,todo:=k} {fr with tmps:=T,todo:=K}:=
 ⟨h.fn,h.Lq,h.dfs,h.kind,h.pz,h.rd⟩
theorem PO{af:jL}(h:jj P μ nt af.todo K):pk af=[]:=by
 unfold pk;split
 ·rename_i i d p k' e;rw[e]at h;cases h with|cons _ _ _ _ h _=>cases h
 ·rfl
theorem VN:∀{fP:List jL} {cs:List Frame},bW P ρ C.orc μ G H nx fP cs→∀x∈aU fP,x<nx.toNat
 | [],[],_,x,hx=>by cases hx
 | [],_ ::_,h,_,_=>h.elim
 |_ ::_,[],h,_,_=>h.elim
 |a ::fP,f ::cs,h,x,hx=>by
  simp only[aU,List.mem_append]at hx;rcases hx with hx|hx
  ·cases h.1 with
   |wait nt hb h1 h2 h=>
    unfold pk at hx;split at hx
    ·rename_i i d p k' e;rw[e]at h;generalize f.todo=KK at h;generalize f.tmps=TT at h;generalize a.tm=tt at h;cases h with
     |staged ops pl bf g i po ad os pA items fD ak k K tm tmps rest nH hf hc hL Hg hd h LH Az S=>obtain⟨y,hy,e⟩:=Pu.1 hx;rw[←e];exact(S.pe y hy).2.2.2.2
    ·cases hx
   |unw h hm=>
    cases h with
    |run nt hb h1=>exact absurd h1 hm
    |ret nt hb h1 h2 h3 h=>unfold pk at hx;rcases h3 with h3|⟨k,h3⟩<;>rw[h3]at hx<;>cases hx
    |pan nt hb v u r h1 h2 hv h3 h=>unfold pk at hx;rw[h3]at hx;cases hx
  ·exact VN h.2 x hx
theorem bW.kept{μ':Mu}{G':Key→Option ab}{H':T ab}{nx':Key}(hm:μ.le μ')(hk:Kept H H' nx nx' μ μ' G G')(h:bW P ρ C.orc μ G H nx fP cs):bW P ρ C.orc μ' G' H' nx' fP cs:=
 h.tY hm hk.n fun b _ hg hl=>⟨hk.m b hl,hk.g b hg hl,hk.h b hg hl⟩
theorem bW.VO{E:List Nat}{μ':Mu}{G':Key→Option ab}{H':T ab}{nx':Key}(hm:μ.le μ')(hk:wx E H H' nx nx' μ μ' G G')(hE:∀x∈E,x∉aU fP)(h:bW P ρ C.orc μ G H nx fP cs):bW P ρ C.orc μ' G' H' nx' fP cs:=
 h.tY hm hk.n fun b hb hg hl=>hk.k b (fun he=>hE _ he hb) hg hl
theorem mL(h0:μ0.le μ)(hM:aL P ρ w0 μ G nx.toNat w)(hH:HSub H G)(hb:tX P ρ μ nt af fr)(h1:af.mode=.run)(h2:fr.mode=.run)(hk:jj P μ nt af.todo fr.todo)(hT:gG ρ μ nt af.tm fr.tmps)
  (hS:bW P ρ C.orc μ G H nx fP cs) (hn:(aU fP).Nodup):xk P ρ C.orc w0 μ0 ⟨af,fP,H,nx⟩ fr cs w:=
 ⟨μ,G,h0,hM,hH,.run nt hb h1 h2 (.plain _ _ _ _ hk hT),hS,by simp[aU,PO hk,hn]⟩
theorem Pv.finish{c c':jL}{cf:Frame}(h:Pv P ρ C.orc μ G H nx c cf){a:AV}{v:Value}(hv:aA ρ μ a v)(hf:bc a c=some c'):LI P ρ C.orc μ G H nx c' (cf.finish v)∧pk c'=pk c:=by
 cases h with
 |wait nt hb h1 h2 h=>obtain⟨h3,h4,⟨dR,k2,h5⟩,⟨T2,K2,h6⟩⟩:=h.finish rfl rfl rfl rfl hv hf;refine⟨?_,h4⟩;rw[h6]at h3 ⊢;subst h5;exact .run nt (hb.todo _ _ _ _) h1 h2 h3
 |unw h hm=>
  cases h with
  |run nt hb h1=>exact absurd h1 hm
  |ret nt hb h1 h2 h3 h=>rcases h3 with h3|⟨k,h3⟩<;>simp[bc,h3]at hf
  |pan nt hb v u r h1 h2 hv h3 h=>simp[bc,h3]at hf
noncomputable def bG(raw:Bool)(l:List AV)(H:T ab):List AV×T ab:=bif raw then(l,H)else aO (aK 9999) l H
theorem tZ{R:Type}(raw:Bool)(l:List AV)(H:T ab)(c:List AV→T ab→R):PQ raw l H c=c (bG raw l H).1 (bG raw l H).2:=by
 cases raw
 ·show Cj (TH 9999) l H c=_;rw[qm (xN 9999)];rfl
 ·rfl
theorem Bw(raw:Bool)(hM:aL P ρ w0 μ G nx.toNat w)(hH:HSub H G){l:List AV}{us:List Value}(h:ao ρ μ l us):∃μ' G',fp P ρ w0 w nx μ G H μ' G' (bG raw l H).2∧ao ρ μ' (bG raw l H).1 us:=by
 cases raw
 ·exact kN (vT 9999) l us μ G H hM hH h
 ·exact⟨μ,G,fp.refl hM hH,h⟩
theorem xO(X:Ctx P ρ w0 C)(f:Nat)(args:List AV)(xP:Bool)(bad:SR)(c:jL→SR):AA C f args xP bad c=bad∨
  ∃p,Ay P f=some p∧AA C f args xP bad c=c {fn:=f,tm:=eH args .z .nil,todo:=[.code p.body],dfs:=[],mode:=.run,xP,pz:=none,res:=p.res}:=by
 unfold AA;split
 ·rename_i p hp;exact .inr ⟨p,X.fns f p hp,by rw[AB]⟩
 ·exact .inl rfl
theorem Ob{l:Nat}{L:Loop}{args:Array Value}(h:w.heap[l]?=some (.loop L))(hs:args.size=L.params.size) :
  (Instr.yield l args).run P w=.ok (.round l L.fn ((L.params.zip args).foldl (fun tmps (x:Nat×Value)=>tmps.setIfInBounds x.1 x.2) L.tmps) L.assign L.body) w:=by
 simp[Instr.yield,Instr.getLoop,getObj,Sem.run,h,hs]
theorem Bx(hM:aL P ρ w0 μ G nx.toNat w){b:Key}{st:LS}{pd:Option av}{fn:Nat}{tm:T AV}{res:List RV}{params:List Key}{as bd:av}{dfs:Key}(hb:G b=some (.loop st pd fn tm res params as bd dfs)) :
  ∃l L nt ld,μ b=some l∧w.heap[l.c]?=some (.loop L)∧MQ st L.state∧(∀n,Hh P n pd L.pending)∧L.fn=fn∧gG ρ μ nt tm L.tmps∧Ic params L.params.toList∧(∀k∈params,k.toNat<nt)∧PR P nt as L.assign∧PR P nt bd L.body∧μ dfs=some ld∧L.defers=ld.c∧PS P fn nt res:=by
 obtain⟨l,o,h1,h2,h3⟩:=hM.DI b _ hb;cases h3 with
 |loop st pd fn nt tm res params as bd dfs ld l L e1 e2 e3 e4 e5 VP e6 e7 e8 e9 VQ=>exact⟨l,L,nt,ld,h1,h2,e1,e2,e3,e4,e5,VP,e6,e7,e8,e9,VQ⟩
theorem EI(X:Ctx P ρ w0 C){ops:Array Oper}{i:Nat}{g9:List Nat}{o:Oper}{po:aq}{r:OR}{dR:T AV}(h0:μ0.le μ)(hM:aL P ρ w0 μ G nx.toNat w)(hH:HSub H G)(hb:tX P ρ μ nt af fr)(h1:af.mode=.run)(hm:fr.mode=.run)
  (ht:fr.todo=.inRegion ops (i ::g9) ::K) (ho:ops[i]?=some o) (Ie:C8 P nt ops o=some po) (hw:Region.wanted o (yielded ops fr.tmps)=true)
  (hE:qn P ρ μ nt o.op.operands.toList af.tm fr.eval) (ha:aOp C.orc po.op af.tm H nx=r) (hr:¬vU r)
  (hW:By P ρ C.orc μ G H nx nt af.todo af.tm fr.todo fr.tmps) (hS:bW P ρ C.orc μ G H nx fP cs) (hn:(aU (af ::fP)).Nodup) (hT2:gG ρ μ nt dR fr.tmps) :
  Good P ρ C w0 μ0 rest (lone fr (cs++rest) w) (ez C r af {af with tm:=dR,todo:=[]} fP H nx):=by
 obtain⟨qF,Ig,vV⟩:=fb Ie;have Oc:Pv P ρ C.orc μ G H nx af fr:=.wait nt hb h1 hm hW;have LJ:(aU fP).Nodup:=(List.nodup_append.1 hn).2.1;cases r with
 |val a H' nx'=>exact absurd (jy _ _ _) hr
 |bad n=>exact absurd (br _) hr
 |call f l=>
  have Da:fr.roundOf=none∨cW o.op=false:=.inr (qy qF (by rw[ha];intro f l e;cases e) (by rw[ha];intro n e;cases e));simp only[ez,tZ];have key : ∀ {fn : Func}, P.funcs[f]? = some fn → fn.body.isSome = true → fn.name ≠ "runtime.NumGoroutine" → ∃ args μ1 G1, step P (lone fr (cs ++ rest) w) = .next (lone (Frame.enter P f args .normal) (fr :: cs ++ rest) w) ∧
    fp P ρ w0 w nx μ G H μ1 G1 (bG (C.raw f) l H).2∧ao ρ μ1 (bG (C.raw f) l H).1 args.toList:=by
   intro fn f1 f2 f3;obtain⟨args,q1,q2⟩:=LK (w:=w) qF hE ha f1 f2 f3;obtain⟨μ1,G1,x1,x2⟩:=Bw (C.raw f) hM hH q2;exact⟨args,μ1,G1,PT (P:=P) (cs:=cs++rest) hm ht ho hw Da q1,x1,x2⟩
  generalize bG (C.raw f) l H=lh at key;obtain⟨l1,H1⟩:=lh;simp only at key ⊢;split
  ·rename_i v H2 aP PU;split
   ·rename_i MR hf;have hso:=X.sum f l1 H1 nx v H2 aP PU;obtain⟨fn,f1,f2,f3⟩:=X.has f l1 H1 nx _ PU;obtain⟨args,μ1,G1,dH,x1,x2⟩:=key f1 f2 f3;obtain⟨e,w',dG,⟨u,μ',G',rfl,y2,y3,y4,y5,y6⟩,XN,XO,XP⟩:=hso args w μ1 G1 x1.M x1.hs x2 (fr ::cs++rest);have hS1:bW P ρ C.orc μ1 G1 H1 nx (af ::fP) (fr ::cs):=bW.kept x1.le x1.kept ⟨Oc,hS⟩;have hS2:bW P ρ C.orc μ' G' H2 aP (af ::fP) (fr ::cs):=bW.kept y3 y6 hS1;obtain⟨EJ,MS⟩:=hS2.1.finish y2 hf;refine⟨_,cs,w',Steps.trans (.head dH XN) (.one (step_leave_returned XP)),μ',G',Mu.le_trans h0 (Mu.le_trans x1.le y3),y4,y5,EJ,hS2.2,?_⟩;show(aU (MR ::fP)).Nodup;simp only[aU,MS]at hn ⊢;exact hn
   ·trivial
  ·rcases xO X f l1 false (.bad 40 ⟨af,fP,H1,nx⟩) (fun dG=>.next ⟨dG,af ::fP,H1,nx⟩)with e|⟨p,hp,e⟩
   ·rw[e];trivial
   ·rw[e];obtain⟨fn,c,f1,f2,f3,f4,f5⟩:=ua hp;obtain⟨args,μ1,G1,dH,x1,x2⟩:=key f1 (by rw[f2];rfl) f3;refine⟨_,fr ::cs,w,.one dH,μ1,G1,Mu.le_trans h0 x1.le,x1.M,x1.hs,uc hp x2 false,bW.kept x1.le x1.kept ⟨Oc,hS⟩,?_⟩;show(aU (_ ::af ::fP)).Nodup;simp only[aU,pk,List.nil_append];exact hn
 |yld key l=>
  have Da:fr.roundOf=none∨cW o.op=false:=.inr (qy qF (by rw[ha];intro f l e;cases e) (by rw[ha];intro n e;cases e));simp only[ez];split
  ·rename_i st pd fn tm res params as bd dfs hk;rcases Hi params l tm (SR.bad 41 ⟨af,fP,H,nx⟩) (fun tm=>.next ⟨{fn,tm,todo:=[.code as,.beginRound,.code bd],dfs:=[],mode:=.run,xP:=false,pz:=some key,res},af ::fP,H,nx⟩)with e|⟨hlen,e⟩
   ·rw[e];trivial
   ·rw[e];obtain⟨args,lc,q1,q2,q3⟩:=Od (w:=w) qF hE ha;obtain⟨lc',L,XQ,ld,e0,Oe,e1,e2,e3,e4,e5,VP,e6,e7,e8,e9,VQ⟩:=Bx hM (hH _ _ hk);rw[q1]at e0;cases e0;have oq:args.size=L.params.size:=by
     have a1:=q3.length;have a2:(params.map Key.toNat).length=L.params.toList.length:=by rw[e5]
     simp at a1 a2;omega
    rw[Ob Oe oq]at q2;have dH:=PV (P:=P) (cs:=cs++rest) hm ht ho hw Da q2;refine⟨_,fr ::cs,w,.one dH,μ,G,h0,hM,hH,?_,⟨Oc,hS⟩,?_⟩
    ·refine .run XQ ⟨e3,VQ,trivial,rfl,⟨_,q1,rfl⟩,fun _=>rfl⟩ rfl rfl (.plain _ _ _ _ (.cons _ _ _ _ (.code _ _ e6) (.cons _ _ _ _ .beginRound (.cons _ _ _ _ (.code _ _ e7) .nil))) ?_);have:=Jy (ks:=params) VP hlen q3 e4;have hl:(L.params.zip args).foldl (fun tmps (x:Nat×Value)=>tmps.setIfInBounds x.1 x.2) L.tmps=((params.map Key.toNat).zip args.toList).foldl (fun tmps (x:Nat×Value)=>tmps.setIfInBounds x.1 x.2) L.tmps:=by rw[e5,←Array.foldl_toList,Array.toList_zip]
     show gG ρ μ XQ (TJ params l tm) ((L.params.zip args).foldl (fun tmps (x:Nat×Value)=>tmps.setIfInBounds x.1 x.2) L.tmps);rw[hl];exact this
    ·show(aU (_ ::af ::fP)).Nodup;simp only[aU,pk,List.nil_append];exact hn
  ·trivial
 |alt la=>
  have Da:fr.roundOf=none∨cW o.op=false:=.inr (qy qF (by rw[ha];intro f l e;cases e) (by rw[ha];intro n e;cases e));simp only[ez];split
  ·trivial
  ·rename_i fr0 hf0;obtain⟨a,H',v,w',μ',G',jM,q1,q2,q3,q4,q5,q6⟩:=Of (w:=w) hM hH qF hE ha;obtain⟨fr1,Lr⟩:=Jx hf0 a;have dH:=EK (P:=P) (cs:=cs++rest) hm ht ho hw Da q1;have hS1:bW P ρ C.orc μ' G' H' nx (af ::fP) (fr ::cs):=bW.kept q3 q6 ⟨Oc,hS⟩;obtain⟨EJ,MS⟩:=hS1.1.finish q2 Lr;refine⟨⟨fr1,fP,H',nx⟩,Jw Lr jM,_,cs,w',.one dH,μ',G',Mu.le_trans h0 q3,q4,q5,EJ,hS1.2,?_⟩;show(aU (fr1 ::fP)).Nodup;simp only[aU,MS]at hn ⊢;exact hn
 |pan a=>
  have Da:fr.roundOf=none∨cW o.op=false:=.inr (qy qF (by rw[ha];intro f l e;cases e) (by rw[ha];intro n e;cases e));obtain⟨v,q1,q2⟩:=Og (w:=w) qF hE ha;have dH:=PW (P:=P) (cs:=cs++rest) hm ht ho hw Da q1;refine⟨_,cs,w,.one dH,μ,G,h0,hM,hH,?_,hS,?_⟩
  ·exact .pan nt ⟨hb.fn,hb.Lq,hb.dfs,hb.kind,hb.pz,hb.rd⟩ a v false rfl rfl q2 rfl hT2
  ·show(aU (_ ::fP)).Nodup;simp only[aU,pk,List.nil_append];exact LJ
 |dfr f l=>
  simp only[ez];split
  ·rename_i Ls;split
   ·rename_i MR hf;obtain⟨c,ws,vs,q0,q1,q2,q3⟩:=Oh (w:=w) qF hE ha;have Bi:fr.roundOf=none:=by
     have:=hb.pz;rw[Ls]at this;cases hh:fr.roundOf with
     |none=>rfl
     |some x=>rw[hh]at this;exact this.elim
    have dH:=PY (P:=P) (cs:=cs++rest) hm ht ho hw (.inl Bi) q2;obtain⟨h3,h4,⟨t2,k2,h5⟩,⟨T2,K2,h6⟩⟩:=hW.finish (fr:=fr) rfl rfl rfl rfl (aA.tuple (ρ:=ρ) (μ:=μ) [] #[] .nil) hf;have DJ:({fr with defers:=⟨.fn (.func f) ws,vs⟩ ::fr.defers}:Frame).finish undef={fr with defers:=⟨.fn (.func f) ws,vs⟩ ::fr.defers,tmps:=T2,todo:=K2}:=by have Lr:=bI ht ho undef;have Jl:=bI (fr:={fr with defers:=⟨.fn (.func f) ws,vs⟩ ::fr.defers}) ht ho undef;rw[Jl];have h6:fr.finish undef={fr with tmps:=T2,todo:=K2}:=h6;rw[Lr]at h6;have e1:=congrArg Frame.tmps h6;have e2:=congrArg Frame.todo h6;simp only at e1 e2;rw[e1,e2]
    rw[DJ]at dH;have h3:Jz P ρ C.orc μ G H nx nt MR.todo MR.tm (fr.finish undef).todo (fr.finish undef).tmps:=h3;have h6:fr.finish undef={fr with tmps:=T2,todo:=K2}:=h6;rw[h6]at h3;refine⟨_,cs,w,.one dH,μ,G,h0,hM,hH,?_,hS,?_⟩
    ·subst h5;exact .run nt ⟨hb.fn,hb.Lq,⟨⟨ws,rfl,q3⟩,hb.dfs⟩,hb.kind,hb.pz,hb.rd⟩ h1 hm h3
    ·have:pk {MR with dfs:=LM.fn f l ::MR.dfs}=pk af:=by rw[←h4];rfl
     show(aU (_ ::fP)).Nodup;simp only[aU,this];exact hn
   ·trivial
  ·trivial
 |recover=>
  simp only[ez];split
  ·rename_i c abK Ls Pw;have Bi:fr.roundOf=none:=by
    have:=hb.pz;rw[Ls]at this;cases hh:fr.roundOf with
    |none=>rfl
    |some x=>rw[hh]at this;exact this.elim
   have VR:fr.kind=.deferred:=by rw[hb.kind,Pw];rfl
   have q1:=Gu (P:=P) (w:=w) (ev:=fr.eval) qF ha;cases cs with
   |nil=>exact hS.elim
   |cons cf vQ=>
   split
   ·rename_i v Hj;split
    ·rename_i MR hf;cases hS.1 with
     |wait En eA sj=>rw[sj]at Hj;cases Hj
     |unw Gv cL=>
      cases Gv with
      |run En eA sj=>rw[sj]at Hj;cases Hj
      |ret En eA sj=>rw[sj]at Hj;cases Hj
      |pan En eA v' u r' sj Jm Ih h3' hT'=>
       rw[sj]at Hj;simp only[PZ.pan.injEq]at Hj;obtain⟨rfl,rfl⟩:=Hj;have LN:tryRecover fr (cf ::(vQ++rest))=some (u,{cf with mode:=.panicking [{v:=u,recovered:=true}]} ::(vQ++rest)):=by simp[tryRecover,VR,Jm]
       have dH:=DK (P:=P) (cs:=cf ::(vQ++rest)) hm ht ho hw Bi q1 LN;obtain⟨EJ,MS⟩:=Oc.finish Ih hf;refine⟨_,{cf with mode:=.panicking [{v:=u,recovered:=true}]} ::vQ,w,.one dH,μ,G,h0,hM,hH,EJ,⟨.unw (.pan En ⟨eA.fn,eA.Lq,eA.dfs,eA.kind,eA.pz,eA.rd⟩ v' u true rfl rfl Ih h3' hT') (by intro e;cases e),hS.2⟩,?_⟩;show(aU (_ ::_ ::abK)).Nodup;simp only[aU,MS]at hn ⊢;exact hn
    ·trivial
   ·rename_i Hj;split
    ·rename_i MR hf;cases hS.1 with
     |wait En eA sj=>rw[sj]at Hj;cases Hj
     |unw Gv cL=>
      have LN:tryRecover fr (cf ::(vQ++rest))=none:=by
       cases Gv with
       |run En eA sj=>rw[sj]at Hj;cases Hj
       |ret En eA sj Jm=>simp[tryRecover,VR,Jm]
       |pan En eA v' u r' sj=>rw[sj]at Hj;cases Hj
      have dH:=DL (P:=P) (cs:=cf ::(vQ++rest)) hm ht ho hw Bi q1 LN;obtain⟨EJ,MS⟩:=Oc.finish (.nili) hf;refine⟨_,cf ::vQ,w,.one dH,μ,G,h0,hM,hH,EJ,hS,?_⟩;show(aU (_ ::_ ::abK)).Nodup;simp only[aU,MS]at hn ⊢;exact hn
    ·trivial
   ·trivial
  ·trivial
theorem P0(X:Ctx P ρ w0 C){l:List aq}(h0:μ0.le μ)(hM:aL P ρ w0 μ G nx.toNat w)(hH:HSub H G)(hb:tX P ρ μ nt af fr)(h1:af.mode=.run)(hm:fr.mode=.run)
  {ops:Array Oper} {rs:List Nat} (hp:jw P nt ops rs=some l) (ht:fr.todo=.inRegion ops rs ::K) (hk:jj P μ nt k K) (hT:gG ρ μ nt af.tm fr.tmps) (hS:bW P ρ C.orc μ G H nx fP cs) (hn:(aU fP).Nodup) :
  Good P ρ C w0 μ0 rest (lone fr (cs++rest) w) (match fX C.orc l af.tm H nx with
   |.fin tm h nx=>.next ⟨{af with tm,todo:=k},fP,h,nx⟩
   |.ev r rest tm h nx=>ez C r {af with tm,todo:=.ops rest ::k} {af with tm,todo:=[]} fP h nx):=by
 have key:=Bz (P:=P) (ρ:=ρ) (orc:=C.orc) (nt:=nt) (w0:=w0) (cs:=cs++rest) (K:=K) (ops:=ops) X.orc l rs fr w μ G H nx af.tm hp hM hH hT hm ht;cases Gw:fX C.orc l af.tm H nx with
 |fin aD h' nx'=>rw[Gw]at key;obtain⟨cy,w',μ',G',s1,s2,s3,s4,s5,s6⟩:=key;exact⟨_,cs,w',s1,mL (Mu.le_trans h0 s2) s3 s4 ((hb.mono s2).todo _ _ _ _) h1 hm (hk.mono s2) s5 (hS.kept s2 s6) hn⟩
 |ev r l' aD h' nx'=>
  rw[Gw]at key;rcases key with⟨n,rfl⟩|⟨cy,w',μ',G',i,g9,po,ll,o,s1,s2,s3,s4,s5,s6,rfl,s8,s9,VS,XR,XS,s13⟩
  ·trivial
  ·have hE:=yV (P:=P) (nt:=nt) (ops:=ops) (o:=o) (fr:={fr with tmps:=cy,todo:=.inRegion ops (i ::g9) ::K}) s3 (fun k a _ hg=>s5.2 k a hg);refine Good.steps s1 ?_;have MS:(aU ({af with tm:=aD,todo:=.ops (po ::ll) ::k} ::fP)).Nodup:=by simp only[aU,pk,List.nil_append];exact hn
   exact EI (fr:={fr with tmps:=cy,todo:=.inRegion ops (i ::g9) ::K}) (af:={af with tm:=aD,todo:=.ops (po ::ll) ::k}) X (Mu.le_trans h0 s2) s3 s4 ((hb.mono s2).todo _ _ _ _) h1 hm rfl s9 VS XR hE XS s13
    (.ops po ll ops i g9 k K aD cy s8 (hk.mono s2) s5) (hS.kept s2 s6) MS s5
theorem Db(X:Ctx P ρ w0 C){ops:Array Oper}{pl:List aq}{bf:List Nat}{g:Gh}{pA:List Oa}{items:List aT}{fD:SD}{ak:List (Nat×Key×ab)}{rs:List Nat}(h0:μ0.le μ)(hM:aL P ρ w0 μ G nx.toNat w)(hH:HSub H G)(hb:tX P ρ μ nt af fr)(h1:af.mode=.run)(hm:fr.mode=.run)
  (hf:pA.mapM (xK pl)=some items) (hc:tn ops pl bf g.L pA=true) (hd:Ck ops fD.ds∧tT bf fD.fQ=true) (ht:fr.todo=.inRegion ops rs ::K) (hk:jj P μ nt k K)
  (S:dS P ρ C.orc nt ops pl bf μ G H nx g (fun _=>False) ak af.tm fr.tmps rs) (hS:bW P ρ C.orc μ G H nx fP cs) (hn:(lC ak++aU fP).Nodup) :
  Good P ρ C w0 μ0 rest (lone fr (cs++rest) w) (match eJ C.orc fD.fQ items ak af.tm H nx with
   |.fin tm h nx=>.next ⟨{af with tm,todo:=k},fP,h,nx⟩
   |.ev r rest ak tm h nx=>AD fD.ds tm fun aD=>ez C r {af with tm,todo:=.staged rest fD ak ::k} {af with tm:=aD,todo:=[]} fP h nx):=by
 have key:=JA (P:=P) (ρ:=ρ) (orc:=C.orc) (nt:=nt) (w0:=w0) (cs:=cs++rest) (K:=K) (ops:=ops) (pl:=pl) (bf:=bf) hd.2 X.orc pA.length pA items rs g fr w μ G H nx af.tm ak (cI _) hf hc hM hH S hm ht;have XT:∀x∈lC ak,x∉aU fP:=fun x hx hx'=>(List.nodup_append.1 hn).2.2 x hx x hx' rfl;have LJ:=(List.nodup_append.1 hn).2.1;cases Gw:eJ C.orc fD.fQ items ak af.tm H nx with
 |fin aD h' nx'=>rw[Gw]at key;obtain⟨cy,w',μ',G',s1,s2,s3,s4,s5,s6⟩:=key;exact⟨_,cs,w',s1,mL (Mu.le_trans h0 s2) s3 s4 ((hb.mono s2).todo _ _ _ _) h1 hm (hk.mono s2) s5 (hS.VO s2 s6 XT) LJ⟩
 |ev r AE pend' aD h' nx'=>
  rw[Gw]at key;simp only[kO];rcases key with⟨n,rfl⟩|⟨cy,w',μ',G',g',i,po,o,ad,os,Gx,iu,g9,s1,s2,s3,s4,rfl,s6,s7,s8,s9,VS,XR,XS,S',s14,s15,s16,s17,s18,s19,s20⟩
  ·trivial
  ·have Te:=S'.EL s9 VS s14;have hE:=yV (P:=P) (nt:=nt) (ops:=ops) (o:=o) (fr:={fr with tmps:=cy,todo:=.inRegion ops (i ::g9) ::K}) s3 Te;refine Good.steps s1 ?_;have MS:(aU ({af with tm:=aD,todo:=.staged (.H i po ad ::.R os ::iu) fD pend' ::k} ::fP)).Nodup:=by
    simp only[aU,pk];refine List.nodup_append.2 ⟨S'.nk,LJ,?_⟩;rintro x hx y hy rfl;rcases s20 x hx with h|h
    ·exact XT x h hy
    ·exact absurd (VN hS x hy) (by omega)
   exact EI (fr:={fr with tmps:=cy,todo:=.inRegion ops (i ::g9) ::K}) (af:={af with tm:=aD,todo:=.staged (.H i po ad ::.R os ::iu) fD pend' ::k}) X (Mu.le_trans h0 s2) s3 s4 ((hb.mono s2).todo _ _ _ _) h1 hm rfl s14 s15 s16 hE s17 s18
    (.staged ops pl bf g' i po ad os Gx iu fD pend' k K aD cy g9 s6 s7 s8 s9 VS hd (hk.mono s2) XR XS S') (hS.VO s2 s19 XT) MS (S'.erase hd.1)
end
section
variable{P:Program}{nt:Nat}{ops:Array Oper}
theorem Ps{pl:List aq}{x:Oa}{y:aT}(h:xK pl x=some y):iOf y=x:=by
 cases x with
 |L i=>obtain⟨a,_,rfl⟩:=map_some h;rfl
 |A i=>obtain⟨a,_,rfl⟩:=map_some h;rfl
 |H i l=>obtain⟨a,_,rfl⟩:=map_some h;rfl
 |R os=>
  obtain⟨l,hl,rfl⟩:=map_some h;show Oa.R (l.map (·.1))=Oa.R os;congr 1
  induction os generalizing l with
  |nil=>simp at hl;subst hl;rfl
  |cons i os ih=>obtain⟨b,r,e1,e2,rfl⟩:=fM hl;obtain⟨o,_,rfl⟩:=map_some e1;simp[ih r e2 (by simp[xK,e2])]
theorem Li{pl:List aq}:∀{pA:List Oa} {items:List aT},pA.mapM (xK pl)=some items→items.map iOf=pA
 | [],items,h=>by simp at h;subst h;rfl
 |x ::pA,items,h=>by obtain⟨y,r,e1,e2,rfl⟩:=fM h;simp[Ps e1,Li e2]
theorem Ge:∀{pl:List aq} {po:aq} {d:Key},po∈pl→po.dst=some d→d∈dstsOf pl
 | [],_,_,h,_=>by cases h
 |o ::l,po,d,h,hd=>by
  rcases zk.1 h with e|e
  ·subst e;simp[dstsOf,hd]
  ·have:=Ge e hd;simp only[dstsOf];split
   ·exact List.mem_cons_of_mem _ this
   ·exact this
theorem Hc{pc:av}(h:Br P nt ops false=some pc):∃l,jw P nt ops (List.range ops.size)=some l∧pc=.ops l:=by
 unfold Br at h;split at h
 ·cases h
 ·rename_i l hl;simp only[cond_false,bB]at h;exact⟨l,hl,h.symm⟩
theorem Ji{pc:av}(h:Br P nt ops true=some pc):∃pl pA items fQ,pc=.staged items ⟨dstsOf pl,fQ⟩∧Hl P nt ops pl (lB ops)∧pA.mapM (xK pl)=some items∧tn ops pl (lB ops) 0 pA=true∧Ck ops (dstsOf pl)∧tT (lB ops) fQ=true:=by
 unfold Br at h;split at h
 ·cases h
 ·rename_i l hl;simp only[cond_true]at h;split at h
  ·rename_i st dH;split at h
   ·rename_i st' VA;cases iR:(XM ops l (lB ops) (st'.map iOf)&&tT (lB ops) (yS (l.zip (lB ops)) (l.zip (lB ops)) 0))with
    |false=>rw[iR]at h;cases h
    |true=>
     rw[iR]at h;simp only[cond_true,bB]at h;simp only[XM,fa]at iR;obtain⟨iR,Lh⟩:=iR;have Ta:Hl P nt ops l (lB ops):=⟨hl,iR.1.1,iR.1.2⟩;refine⟨l,st'.map iOf,st',_,h.symm,Ta,by rw[Li VA];exact VA,iR.2,?_,Lh⟩;intro j t hj;obtain⟨o,po,ho,Ie,ajY⟩:=Ta.at (CN hj);obtain⟨_,_,hd⟩:=fb Ie;have OL:o.dst=some t:=by simpa[jx,ho]using hj
     rcases hd with⟨e,_⟩|⟨k,e1,e2,_⟩
     ·rw[e]at OL;cases OL
     ·rw[OL]at e1;simp only[bB]at e1;exact⟨k,Ge (List.mem_of_getElem? ajY) e2,e1.symm⟩
   ·cases h
  ·cases h
end
section
variable{P:Program}{ρ:Nat→Int}{C:cX}{nt:Nat}{w0:W0}{w:World}{μ0 μ:Mu}{G:Key→Option ab}{H:T ab}{nx:Key}{rest cs:List Frame}{fr:Frame}{af:jL}{fP:List jL}{K:List Item}{k:List cv}
theorem dS.init{ops:Array Oper}{pl:List aq}{bf:List Nat}(R:Hl P nt ops pl bf){tm:T AV}{tmps:Array Value}(hT:gG ρ μ nt tm tmps){rs:List Nat}(hv:Ee ops (fun _=>false) rs) :
  dS P ρ C.orc nt ops pl bf μ G H nx {L:=0,D:=fun _=>false,a0:=fun k=>ae k tm,val:=fun _=>none} (fun _=>False) [] tm tmps rs:=by
 refine⟨R,hv,?_,?_,?_,?_,?_,?_,hT.1,?_,?_,?_,?_,?_,?_⟩
 ·intro i o h;cases h
 ·intro i h;cases h
 ·intro i h;rw[show hasB 0 i=false from yX i]at h;cases h
 ·intro i h;rw[show hasB 0 i=false from yX i]at h;cases h
 ·intro k j h;rw[show hasB 0 j=false from yX j]at h;cases h
 ·intro k _;rfl
 ·intro k j a h;cases h
 ·intro k a _ h;exact hT.2 k a h
 ·intro i h;rw[show hasB 0 i=false from yX i]at h;cases h
 ·intro x h;cases h
 ·exact List.nodup_nil
 ·exact List.nodup_nil
theorem Jj(hM:aL P ρ w0 μ G nx.toNat w){x:Operand}{px:PX}{a:AV}(hp:pX P nt x=some px)(ha:px.at af.tm=some a)(hT:gG ρ μ nt af.tm fr.tmps):aA ρ μ a (fr.eval x):=
 N5 hM hp ha fun t k _ hk hg=>by rw[←hk];exact hT.2 k a hg
theorem Fj(hM:aL P ρ w0 μ G nx.toNat w)(hH:HSub H G){b:Key}{st st':LS}{pd pd':Option av}{fn:Nat}{tm:T AV}{res:List RV}{params:List Key}{as bd:av}{dfs:Key}(hb:ae b H=some (.loop st pd fn tm res params as bd dfs))
  {l:Loc} (hl:μ b=some l) {L:Loop} (hL:w.heap[l.c]?=some (.loop L)) {s:LoopState} {pc:Option Code} (hs:MQ st' s) (hpd:(∀n,Hh P n pd L.pending)→∀n,Hh P n pd' pc) :
  let w':={w with heap:=w.heap.setIfInBounds l.c (.loop {L with state:=s,pending:=pc})}
  let B':=ab.loop st' pd' fn tm res params as bd dfs
  ∃μ' G',μ.le μ'∧aL P ρ w0 μ' G' nx.toNat w'∧HSub (ar b (some B') H) G'∧Kept H (ar b (some B') H) nx nx μ μ' G G':=by
 intro w' B';have hg:=hH _ _ hb;obtain⟨l',L',XQ,ld,e0,Oe,e1,e2,e3,e4,e5,VP,e6,e7,e8,e9,VQ⟩:=Bx hM hg;rw[hl]at e0;cases e0;rw[hL]at Oe;cases Oe;have ud:l.c<w.heap.size:=hM.Dc b l hl;have mn:w0.heap.size≤l.c:=(hM.own b _ l hg hl).resolve_left (by simp[ab.ro]);have hle:μ.le (μ.put b l):=Mu.qH (.inr hl);obtain⟨m1,m2⟩:=hM.put (w':=w') b B' l (.loop {L with state:=s,pending:=pc}) (nx':=nx.toNat) (.inr hl)
  ⟨rfl,rfl,rfl,by simp[w'],fun j hj _=>by show(w.heap.setIfInBounds l.c _)[j]?=_;rw[Px (Ne.symm hj)],cI _⟩
  (by show(w.heap.setIfInBounds l.c _)[l.c]?=_;simp[ud])
  (.loop st' pd' fn XQ tm res params as bd dfs ld l _ hs (hpd e2) e3 (e4.mono hle) e5 VP e6 e7 (hle.l _ _ e8) e9 VQ)
  (fun b' B' l' g m' ne=>hM.sep b' b B' _ l' l g hg m' hl ne) mn (cI _) (hM.new b l hl) (hM.VU hg hl rfl)
 exact⟨_,_,m1,m2,hH.set b (some B'),kQ hb hl _ _⟩
inductive VH(P:Program)(nt:Nat)(fr:Frame):Option av→Option Code→Prop
 |fin (h:fr.todo=[]):VH P nt fr none none
 |ret (K:List Item) (h:fr.todo=.code .ret ::K):VH P nt fr (some .ret) (some .ret)
 |exit (id:Nat) (K:List Item) (h:fr.todo=.code (.exit id) ::K) (he:exitTo id K=none):VH P nt fr (some (.exit id)) (some (.exit id))
theorem Jk{l:Nat}{L:Loop}(h:w.heap[l]?=some (.loop L))(j:Option Code):(Instr.endRound l j).run P w=.ok (.bool j.isNone) {w with heap:=w.heap.setIfInBounds l (.loop {L with state:=if j.isNone then .ready else .done,pending:=j})}:=by simp[Instr.endRound,Instr.getLoop,getObj,setObj,Sem.run,h]
theorem Fk{l:Nat}{L:Loop}(h:w.heap[l]?=some (.loop L))(hs:L.state=.ready):(Instr.beginRound l).run P w=.ok () {w with heap:=w.heap.setIfInBounds l (.loop {L with state:=.busy,pending:=L.pending})}:=by simp[Instr.beginRound,Instr.getLoop,getObj,setObj,Sem.run,h,hs]
theorem J4{l:Nat}{L:Loop}(h:w.heap[l]?=some (.loop L))(hs:L.state≠.busy):(Instr.endLoop l).run P w=.ok L.pending {w with heap:=w.heap.setIfInBounds l (.loop {L with state:=.exhausted,pending:=L.pending})}:=by simp[Instr.endLoop,Instr.getLoop,getObj,setObj,Sem.run,h,hs]
theorem AP(X:Ctx P ρ w0 C){j:Option av}{jc:Option Code}(hj:VH P nt fr j jc)(h0:μ0.le μ)(hM:aL P ρ w0 μ G nx.toNat w)(hH:HSub H G)(hb:tX P ρ μ nt af fr)(h1:af.mode=.run)(hm:fr.mode=.run)
  (hk:af.todo=[]∨(∃k,af.todo=.code .ret ::k)∨∃id k,af.todo=.code (.exit id) ::k) (hjr:j=some .ret→∃k,af.todo=.code .ret ::k) (hjn:j=none→af.todo=[]) (hT:gG ρ μ nt af.tm fr.tmps) (hS:bW P ρ C.orc μ G H nx fP cs) (hn:(aU fP).Nodup) :
  Good P ρ C w0 μ0 rest (lone fr (cs++rest) w) (AL j af fP H nx):=by
 unfold AL;split
 ·rename_i Ls;have Bi:fr.roundOf=none:=by
   have:=hb.pz;rw[Ls]at this;cases hh:fr.roundOf with
   |none=>rfl
   |some x=>rw[hh]at this;exact this.elim
  cases hj with
  |fin ht=>refine⟨_,cs,w,.one (Z5 hm ht Bi),μ,G,h0,hM,hH,.ret nt ⟨hb.fn,hb.Lq,hb.dfs,hb.kind,hb.pz,hb.rd⟩ rfl rfl (.inl (hjn rfl)) hT,hS,?_⟩;show(aU (_ ::fP)).Nodup;simp only[aU,pk,hjn rfl,List.nil_append];exact hn
  |ret KK ht=>obtain⟨kk,vY⟩:=hjr rfl;refine⟨_,cs,w,.one (Z6 hm ht Bi),μ,G,h0,hM,hH,.ret nt ⟨hb.fn,hb.Lq,hb.dfs,hb.kind,hb.pz,hb.rd⟩ rfl rfl (.inr ⟨kk,vY⟩) hT,hS,?_⟩;show(aU (_ ::fP)).Nodup;simp only[aU,pk,vY,List.nil_append];exact hn
  |exit id KK ht he=>trivial
 ·rename_i key Ls;cases fP with
  |nil=>trivial
  |cons c fP=>
  cases cs with
  |nil=>exact hS.elim
  |cons cf cs=>
  have Pw:af.xP=false:=hb.rd (by rw[Ls];intro e;cases e);have Fa:fr.kind=.normal:=by rw[hb.kind,Pw];rfl
  have Bi:∃lc,μ key=some lc∧fr.roundOf=some lc.c:=by
   have:=hb.pz;rw[Ls]at this;cases hh:fr.roundOf with
   |none=>rw[hh]at this;exact this.elim
   |some x=>rw[hh]at this;obtain⟨lc,e1,e2⟩:=this;exact⟨lc,e1,by rw[e2]⟩
  obtain⟨lc,fY,Bi⟩:=Bi;simp only;split
  ·rename_i st pd fn tm res params as bd dfs QT;simp only[sTCe];obtain⟨lc',L,XQ,ld,e0,Oe,e1,e2,e3,e4,e5,VP,e6,e7,e8,e9,VQ⟩:=Bx hM (hH _ _ QT);rw[fY]at e0;cases e0;split
   ·rename_i c' hf;have hpd:(∀n,Hh P n pd L.pending)→∀n,Hh P n j jc:=by
     intro _ En;cases hj with
     |fin ht=>trivial
     |ret KK ht=>exact(rfl:eu P En .ret=some .ret)
     |exit id KK ht he=>exact(rfl:eu P En (.exit id)=some (.exit id))
    have hsr:MQ (match (generalizing:=false) j with|none=>LS.ready|some _=>LS.done) (if jc.isNone then .ready else .done):=by cases hj<;>trivial
    obtain⟨μ',G',g1,g2,g3,g4⟩:=Fj hM hH QT fY Oe hsr hpd;have cR:=Jk (P:=P) Oe jc;have dH:step P (lone fr (cf ::cs++rest) w)=.next (lone (cf.finish (.bool jc.isNone)) (cs++rest) {w with heap:=w.heap.setIfInBounds lc.c (.loop {L with state:=if jc.isNone then .ready else .done,pending:=jc})}):=by
     cases hj with
     |fin ht=>exact FL hm ht Bi Fa cR
     |ret KK ht=>exact I2 hm ht Bi Fa cR
     |exit id KK ht he=>exact GY hm ht he Bi Fa cR
    have hS':=hS.kept g1 g4;have hbv:aA ρ μ' (.bool (match (generalizing:=false) j with|none=>true|some _=>false)) (.bool jc.isNone):=by cases hj<;>exact .bool _
    obtain⟨q1,q2⟩:=hS'.1.finish hbv hf;refine⟨_,cs,_,.one dH,μ',G',Mu.le_trans h0 g1,g2,g3,q1,hS'.2,?_⟩;show(aU (c' ::fP)).Nodup;simp only[aU,q2]at hn ⊢;exact hn
   ·trivial
  ·trivial
theorem Hd{fn:FuncId}{tmps:Array Value}{params:Array Tmp}{as bd:Code}:(Instr.enterLoop fn tmps params as bd none).run P w =
  .ok (w.heap.size+1,[⟨.collected w.heap.size,#[]⟩]) ((w.alloc (.deferred (some []))).alloc (.loop {state:=.ready,pending:=none,fn,tmps,params,assign:=as,body:=bd,defers:=w.heap.size})):=by
 simp[Instr.enterLoop,newObj,Sem.run]
theorem Gf{nt:Nat}:∀{l:List Nat} {ks:List Key},l.mapM (zD nt)=some ks→Ic ks l∧∀k∈ks,k.toNat<nt
 | [],ks,h=>by simp at h;subst h;exact⟨rfl,fun _ h=>by cases h⟩
 |t ::l,ks,h=>by
  obtain⟨k,r,e1,e2,rfl⟩:=fM h;obtain⟨h1,h2⟩:=Gf e2;obtain⟨h3,h4⟩:=kK e1;refine⟨?_,fun q hq=>?_⟩
  ·show(k ::r).map Key.toNat=t ::l;rw[Qi,h3,h1]
  ·rcases zk.1 hq with e|e
   ·rw[e,h3];exact h4
   ·exact h2 q e
theorem OD(X:Ctx P ρ w0 C){pc:av}{c:Code}(hc:eu P nt c=some pc)(h0:μ0.le μ)(hM:aL P ρ w0 μ G nx.toNat w)(hH:HSub H G)(hb:tX P ρ μ nt af fr)(h1:af.mode=.run)(hm:fr.mode=.run)
  (xl:af.todo=.code pc ::k) (ht:fr.todo=.code c ::K) (hk:jj P μ nt k K) (hT:gG ρ μ nt af.tm fr.tmps) (hS:bW P ρ C.orc μ G H nx fP cs) (hn:(aU fP).Nodup) :
  Good P ρ C w0 μ0 rest (lone fr (cs++rest) w) (bD C af fP H nx):=by
 have go:∀(k':List cv) (K':List Item),jj P μ nt k' K'→step P (lone fr (cs++rest) w)=.next (lone {fr with todo:=K'} (cs++rest) w)→Good P ρ C w0 μ0 rest (lone fr (cs++rest) w) (.next ⟨{af with todo:=k'},fP,H,nx⟩):=by intro k' K' vO dH;exact⟨_,cs,w,.one dH,mL h0 hM hH (hb.todo af.tm k' fr.tmps K') h1 hm vO hT hS hn⟩
 unfold bD;rw[xl];cases c with
 |skip=>simp only[eu,bB]at hc;subst hc;exact go _ _ hk (UX hm ht)
 |region id ops draw=>
  simp only[eu]at hc;cases draw with
  |false=>obtain⟨l,hl,rfl⟩:=Hc hc;exact go _ _ (.cons _ _ _ _ (.ops _ _ _ hl) hk) (OV hm ht)
  |true=>obtain⟨pl,pA,items,fQ,rfl,Ta,hf,ajZ,hd,Lh⟩:=Ji hc;obtain⟨t,dH⟩:=U0 (P:=P) (cs:=cs++rest) (w:=w) hm ht;rw[X.mix]at dH;have hv:=Gg Ta.down t;refine⟨_,cs,_,.one dH,μ,G,h0,hM.drawn _ (Nat.le_succ _),hH,.run nt (hb.todo af.tm _ fr.tmps _) h1 hm (.ready ops pl _ _ pA items _ [] k K _ _ _ hf ajZ ⟨hd,Lh⟩ hk (dS.init Ta hT hv)),hS,?_⟩;show(aU (_ ::fP)).Nodup;simp only[aU,pk,List.map_nil,List.nil_append];exact hn
 |seq a b=>
  simp only[eu]at hc;split at hc
  ·rename_i a' b' ha eA;cases hc;exact go _ _ (.cons _ _ _ _ (.code _ _ ha) (.cons _ _ _ _ (.code _ _ eA) hk)) (Z4 hm ht)
  ·cases hc
 |cond x a b=>
  simp only[eu]at hc;split at hc
  ·rename_i x' a' b' hx ha eA;cases hc;simp only;split
   ·rename_i SO;have hv:=Jj hM hx SO hT;have he:fr.eval x=.bool true:=by generalize fr.eval x=u at hv;cases hv;rfl
    exact go _ _ (.cons _ _ _ _ (.code _ _ ha) hk) (NC hm ht he)
   ·rename_i SO;have hv:=Jj hM hx SO hT;have he:fr.eval x=.bool false:=by generalize fr.eval x=u at hv;cases hv;rfl
    exact go _ _ (.cons _ _ _ _ (.code _ _ eA) hk) (NC hm ht he)
   ·trivial
  ·cases hc
 |block id a=>
  simp only[eu]at hc;split at hc
  ·rename_i a' ha;cases hc;exact go _ _ (.cons _ _ _ _ (.code _ _ ha) (.cons _ _ _ _ (.inBlock _) hk)) (Rz hm ht)
  ·cases hc
 |loop a=>
  simp only[eu]at hc;split at hc
  ·rename_i a' ha;cases hc;exact go _ _ (.cons _ _ _ _ (.code _ _ ha) (.cons _ _ _ _ (.inLoop _ _ ha) hk)) (UY hm ht)
  ·cases hc
 |rangeFunc f params a b=>
  simp only[eu]at hc;split at hc
  ·rename_i f' ps a' b' hf ZT ha eA;cases hc;simp only;split
   ·rename_i g first cap Ls hfa
    simp only[sTCe];rcases xO X g (first ++ .yld nx.succ ::cap) false (.bad 61 ⟨af,fP,ar nx.succ (some (.loop .ready none af.fn af.tm af.res ps a' b' nx)) (ar nx (some (.dfs false)) H),nx⟩)
     (fun dG=>.next ⟨dG,{af with todo:=.inRF nx.succ ::k,dfs:=.coll nx ::af.dfs} ::fP,ar nx.succ (some (.loop .ready none af.fn af.tm af.res ps a' b' nx)) (ar nx (some (.dfs false)) H),nx.succ.succ⟩)with e|⟨p,hp,e⟩
    ·rw[e];trivial
    ·rw[e];have Bi:fr.roundOf=none:=by
      have:=hb.pz;rw[Ls]at this;cases hh:fr.roundOf with
      |none=>rfl
      |some x=>rw[hh]at this;exact this.elim
     obtain⟨fn,c,f1,f2,f3,f4,f5⟩:=ua hp;have hv:=Jj hM hf hfa hT;obtain⟨vs,ws,ev,hv1,hv2⟩:=Nh hv;have hs1:=kTSu nx;have Wf:=kTSu nx.succ;obtain⟨m1,M1⟩:=hM.alloc nx (.dfs false) (.deferred (some [])) 0 (nx':=nx.succ.toNat) hM.lQ (.dfs false _) (by omega) (by omega);have hu1:(μ.put nx ⟨w.heap.size,0,0⟩) nx=some ⟨w.heap.size,0,0⟩:=Mu.cC _ _ _;have oq:(w.alloc (.deferred (some []))).heap.size=w.heap.size+1:=by simp
     obtain⟨hkr,hkl⟩:=Gf ZT;have Ol:(μ.put nx ⟨w.heap.size,0,0⟩) nx.succ=none:=M1.lQ;have Kn:Mu.le (μ.put nx ⟨w.heap.size,0,0⟩) ((μ.put nx ⟨w.heap.size,0,0⟩).put nx.succ ⟨(w.alloc (.deferred (some []))).heap.size,0,0⟩):=Mu.qH (.inl Ol);obtain⟨m2,M2⟩:=M1.alloc nx.succ (.loop .ready none af.fn af.tm af.res ps a' b' nx) (.loop {state:=.ready,pending:=none,fn:=fr.fn,tmps:=fr.tmps,params,assign:=a,body:=b,defers:=w.heap.size}) 0 (nx':=nx.succ.succ.toNat) Ol
      (.loop .ready none af.fn nt af.tm af.res ps a' b' nx ⟨w.heap.size,0,0⟩ _ _ trivial (fun _=>trivial) hb.fn (hT.mono (Mu.le_trans m1 Kn)) hkr hkl ha eA (Kn.l _ _ hu1) rfl hb.Lq) (by omega) (by omega)
     have hK:Kept H (ar nx.succ (some (.loop .ready none af.fn af.tm af.res ps a' b' nx)) (ar nx (some (.dfs false)) H)) nx nx.succ.succ μ _ G _:=(uK (H:=H) (nx:=nx) (μ:=μ) (G:=G) ⟨w.heap.size,0,0⟩ (some (.dfs false)) (some (.dfs false))).trans
      (uK (nx:=nx.succ) ⟨(w.alloc (.deferred (some []))).heap.size,0,0⟩ (some (.loop .ready none af.fn af.tm af.res ps a' b' nx)) (some (.loop .ready none af.fn af.tm af.res ps a' b' nx)))
     have hle:=Mu.le_trans m1 m2;have dH:=I3 (P:=P) (cs:=cs++rest) (w:=w) hm ht Bi Hd ev f1 (by rw[f2];rfl) f3;have hu2:((μ.put nx ⟨w.heap.size,0,0⟩).put nx.succ ⟨(w.alloc (.deferred (some []))).heap.size,0,0⟩) nx.succ=some ⟨(w.alloc (.deferred (some []))).heap.size,0,0⟩:=Mu.cC _ _ _;refine⟨_,{fr with todo:=.inRangeFunc (w.heap.size+1) ::K,defers:=[⟨.collected w.heap.size,#[]⟩]++fr.defers} ::cs,_,.one dH,_,_,Mu.le_trans h0 hle,M2,(hH.set nx _).set nx.succ _,uc hp ?_ false,⟨?_,hS.kept hle hK⟩,?_⟩
     ·have hy:aA ρ ((μ.put nx ⟨w.heap.size,0,0⟩).put nx.succ ⟨(w.alloc (.deferred (some []))).heap.size,0,0⟩) (.yld nx.succ) (.func (.yield (w.heap.size+1)) #[] #[]):=.yld _ _ _ hu2 oq.symm;have:=(hv1.mono hle).append (ao.cons _ _ _ _ hy (hv2.mono hle));simpa using this
     ·refine .wait nt ⟨hb.fn,hb.Lq,⟨⟨_,m2.l _ _ hu1,rfl⟩,hb.dfs.mono hle⟩,hb.kind,?_,hb.rd⟩ h1 hm ?_
      ·have:=hb.pz;rw[Ls,Bi]at this;show aeg _ af.pz fr.roundOf;rw[Ls,Bi];trivial
      ·have:=By.rf (P:=P) (ρ:=ρ) (orc:=C.orc) (nt:=nt) (G:=zm (zm G nx (some (ab.dfs false))) nx.succ (some (.loop .ready none af.fn af.tm af.res ps a' b' nx))) (H:=ar nx.succ (some (.loop .ready none af.fn af.tm af.res ps a' b' nx)) (ar nx (some (.dfs false)) H)) (nx:=nx.succ.succ) nx.succ _ k K af.tm fr.tmps hu2 (hk.mono hle) (hT.mono hle);simp only[oq]at this ⊢;exact this
     ·show(aU (_ ::_ ::fP)).Nodup;simp only[aU,pk,List.nil_append];exact hn
   ·trivial
  ·cases hc
 |exit id=>
  simp only[eu,bB]at hc;subst hc;obtain⟨x1,x2⟩:=MB (id:=id) hk;simp only;split
  ·rename_i k' vO;obtain⟨K',e1,e2⟩:=x1 k' vO;exact go _ _ e2 (UZ hm ht e1)
  ·rename_i vO;exact AP X (.exit id K ht (x2 vO)) h0 hM hH hb h1 hm (.inr (.inr ⟨id,k,xl⟩)) (by intro e;cases e) (by intro e;cases e) hT hS hn
 |ret=>simp only[eu,bB]at hc;subst hc;exact AP X (.ret K ht) h0 hM hH hb h1 hm (.inr (.inl ⟨k,xl⟩)) (fun _=>⟨k,xl⟩) (by intro e;cases e) hT hS hn
 |scope a=>
  simp only[eu]at hc;split at hc
  ·rename_i a' ha;cases hc;exact go _ _ (.cons _ _ _ _ (.code _ _ ha) (.cons _ _ _ _ (.scope _) hk)) (RA hm ht)
  ·cases hc
 |label l=>simp only[eu,bB]at hc;subst hc;exact go _ _ hk (RB hm ht)
 |goto l=>simp[eu]at hc
 |refuse s=>simp[eu]at hc
end
section
variable{P:Program}{ρ:Nat→Int}{C:cX}{nt:Nat}{w0:W0}{w:World}{μ0 μ:Mu}{G:Key→Option ab}{H:T ab}{nx:Key}{rest cs:List Frame}{fr:Frame}{af:jL}{fP:List jL}{K:List Item}{k:List cv}
theorem QS(X:Ctx P ρ w0 C)(h0:μ0.le μ)(hM:aL P ρ w0 μ G nx.toNat w)(hH:HSub H G)(hb:tX P ρ μ nt af fr)(h1:af.mode=.run)(hm:fr.mode=.run)
  (hTd:Jz P ρ C.orc μ G H nx nt af.todo af.tm fr.todo fr.tmps) (hS:bW P ρ C.orc μ G H nx fP cs) (hn:(aU (af ::fP)).Nodup) :
  Good P ρ C w0 μ0 rest (lone fr (cs++rest) w) (bD C af fP H nx):=by
 generalize xl:af.todo=AK at hTd;generalize htt:af.tm=TM at hTd;generalize ht:fr.todo=FK at hTd;generalize XX:fr.tmps=FT at hTd;cases hTd with
 |plain k0 K0 tm tmps hk hT=>
  subst htt XX;have hn:(aU fP).Nodup:=(List.nodup_append.1 hn).2.1;cases hk with
  |nil=>unfold bD;rw[xl];exact AP X (.fin ht) h0 hM hH hb h1 hm (.inl xl) (by intro e;cases e) (fun _=>xl) hT hS hn
  |cons a x k K h hk=>
   have go:∀(k':List cv) (K':List Item),jj P μ nt k' K'→step P (lone fr (cs++rest) w)=.next (lone {fr with todo:=K'} (cs++rest) w)→Good P ρ C w0 μ0 rest (lone fr (cs++rest) w) (.next ⟨{af with todo:=k'},fP,H,nx⟩):=by intro k' K' vO dH;exact⟨_,cs,w,.one dH,mL h0 hM hH (hb.todo af.tm k' fr.tmps K') h1 hm vO hT hS hn⟩
   cases h with
   |code pc c h=>exact OD X h h0 hM hH hb h1 hm xl ht hk hT hS hn
   |inBlock id=>unfold bD;rw[xl];exact go _ _ hk (Mh hm ht)
   |scope c=>unfold bD;rw[xl];exact go _ _ hk (Mi hm ht)
   |inLoop pc c h=>unfold bD;rw[xl];exact go _ _ (.cons _ _ _ _ (.code _ _ h) (.cons _ _ _ _ (.inLoop _ _ h) hk)) (OE hm ht)
   |ops l ops rest h=>unfold bD;rw[xl];exact P0 X h0 hM hH hb h1 hm h ht hk hT hS hn
   |inRF key l r h hr=>unfold bD;rw[xl];trivial
   |endRF key l r fY hr=>
    subst hr;unfold bD;rw[xl];simp only;split
    ·rename_i st pd fn tm res params as bd dfs QT;obtain⟨lc',L,XQ,ld,e0,Oe,e1,e2,e3,e4,e5,VP,e6,e7,e8,e9,VQ⟩:=Bx hM (hH _ _ QT);rw[fY]at e0;cases e0;split
     ·trivial
     ·rename_i Tq;simp only[sTCe];have acQ:L.state≠.busy:=by intro e;rw[e]at e1;cases st<;>first|exact e1.elim|exact Tq rfl
      obtain⟨μ',G',g1,g2,g3,g4⟩:=Fj (st':=.exhausted) (pd':=pd) (s:=.exhausted) (pc:=L.pending) hM hH QT fY Oe trivial (fun h=>h);have dH:=QU (P:=P) (cs:=cs++rest) hm ht (J4 Oe acQ);have DJ:∀(k':List cv),jj P μ' nt k' ((L.pending.map Item.code).toList++K)→Good P ρ C w0 μ0 rest (lone fr (cs++rest) w) (.next ⟨{af with todo:=k'},fP,ar key (some (.loop .exhausted pd fn tm res params as bd dfs)) H,nx⟩):=by intro k' vO;exact⟨_,cs,_,.one dH,mL (Mu.le_trans h0 g1) g2 g3 ((hb.mono g1).todo af.tm k' fr.tmps _) h1 hm vO (hT.mono g1) (hS.kept g1 g4) hn⟩
      refine DJ _ ?_;cases pd with
      |none=>
       cases hp:L.pending with
       |none=>exact hk.mono g1
       |some c=>rw[hp]at e2;exact(e2 0).elim
      |some pc=>
       cases hp:L.pending with
       |none=>rw[hp]at e2;exact(e2 0).elim
       |some c=>rw[hp]at e2;exact .cons _ _ _ _ (.code _ _ (e2 nt)) (hk.mono g1)
    ·trivial
   |beginRound=>
    unfold bD;rw[xl];simp only;split
    ·trivial
    ·rename_i key Ls;have Bi:∃lc,μ key=some lc∧fr.roundOf=some lc.c:=by
      have:=hb.pz;rw[Ls]at this;cases hh:fr.roundOf with
      |none=>rw[hh]at this;exact this.elim
      |some x=>rw[hh]at this;obtain⟨lc,e1,e2⟩:=this;exact⟨lc,e1,by rw[e2]⟩
     obtain⟨lc,fY,Bi⟩:=Bi;split
     ·rename_i pd fn tm res params as bd dfs QT;simp only[sTCe];obtain⟨lc',L,XQ,ld,e0,Oe,e1,e2,e3,e4,e5,VP,e6,e7,e8,e9,VQ⟩:=Bx hM (hH _ _ QT);rw[fY]at e0;cases e0;have Y8:L.state=.ready:=by cases hs:L.state<;>rw[hs]at e1<;>first|rfl|exact e1.elim
      obtain⟨μ',G',g1,g2,g3,g4⟩:=Fj (st':=.busy) (pd':=pd) (s:=.busy) (pc:=L.pending) hM hH QT fY Oe trivial (fun h=>h);have dH:=GL (P:=P) (cs:=cs++rest) hm ht Bi (Fk Oe Y8);exact⟨_,cs,_,.one dH,mL (Mu.le_trans h0 g1) g2 g3 ((hb.mono g1).todo af.tm k fr.tmps K) h1 hm (hk.mono g1) (hT.mono g1) (hS.kept g1 g4) hn⟩
     ·trivial
 |ready ops pl bf g pA items fD ak k K tm tmps rs hf hc hd hk S=>subst htt XX;unfold bD;rw[xl];refine Db X h0 hM hH hb h1 hm hf hc hd ht hk S hS ?_;simp only[aU,pk,xl]at hn;exact hn
 |back ops pl bf g os pA items fD ak k K tm tmps rs hf hc hd hk LH Az S=>
  subst htt XX;unfold bD;rw[xl];simp only;rw[IC];cases Y9:recheck C.orc fD.fQ ak af.tm H os with
  |false=>simp only[cond_false,kO];trivial
  |true=>simp only[cond_true];have S5:=S.HC hd.2 Y9 LH Az;refine Db X h0 hM hH hb h1 hm hf hc hd ht hk S5 hS ?_;simp only[aU,pk,xl]at hn;exact hn
theorem Cy{b:Nat}(h:w.heap[b]?=some (.deferred (some []))):(Instr.takeDeferred b).run P w=.ok [] {w with heap:=w.heap.setIfInBounds b (.deferred none)}:=by simp[Instr.takeDeferred,getObj,setObj,Sem.run,h]
theorem J5(X:Ctx P ρ w0 C)(h0:μ0.le μ)(hM:aL P ρ w0 μ G nx.toNat w)(hH:HSub H G)(hb:tX P ρ μ nt af fr)(Gv:LI P ρ C.orc μ G H nx af fr)(cL:af.mode≠.run)(hS:bW P ρ C.orc μ G H nx fP cs)(hn:(aU (af ::fP)).Nodup) :
  Good P ρ C w0 μ0 rest (lone fr (cs++rest) w) (y0 C af fP H nx):=by
 have MS:pk af=[]:=by
  cases Gv with
  |run nt hb h1=>exact absurd h1 cL
  |ret nt hb h1 h2 h3 h=>unfold pk;rcases h3 with h3|⟨k,h3⟩<;>rw[h3]
  |pan nt hb v u r h1 h2 hv h3 h=>unfold pk;rw[h3]
 have hfm:fr.mode≠.run:=by
  cases Gv with
  |run nt hb h1=>exact absurd h1 cL
  |ret nt hb h1 h2 h3 h=>rw[h2];intro e;cases e
  |pan nt hb v u r h1 h2 hv h3 h=>rw[h2];intro e;cases e
 have LJ:(aU fP).Nodup:=(List.nodup_append.1 hn).2.1;have anx:∃nt,tX P ρ μ nt af fr∧gG ρ μ nt af.tm fr.tmps:=by
  cases Gv with
  |run nt hb h1=>exact absurd h1 cL
  |ret nt hb h1 h2 h3 h=>exact⟨nt,hb,h⟩
  |pan nt hb v u r h1 h2 hv h3 h=>exact⟨nt,hb,h⟩
 have move:∀{μ':Mu} {G':Key→Option ab} {H':T ab} (ds:List LM) (Ds:List Deferred),μ.le μ'→Fl ρ μ' ds Ds→LI P ρ C.orc μ' G' H' nx {af with dfs:=ds} {fr with defers:=Ds}:=by
  intro μ' G' H' ds Ds hle hd;cases Gv with
  |run nt hb h1=>exact absurd h1 cL
  |ret nt hb h1 h2 h3 h=>exact .ret nt ⟨hb.fn,hb.Lq,hd,hb.kind,(hb.mono hle).pz,hb.rd⟩ h1 h2 h3 (h.mono hle)
  |pan nt hb v u r h1 h2 hv h3 h=>exact .pan nt ⟨hb.fn,hb.Lq,hd,hb.kind,(hb.mono hle).pz,hb.rd⟩ v u r h1 h2 (hv.mono hle) h3 (h.mono hle)
 have hD:=hb.dfs;unfold y0;split
 ·rename_i b ds Tr;split
  ·rename_i QT;simp only[sTCe];rw[Tr]at hD;cases ID:fr.defers with
   |nil=>rw[ID]at hD;exact hD.elim
   |cons d Ds=>
   rw[ID]at hD;obtain⟨⟨l,hl,rfl⟩,hD2⟩:=hD;have hg:=hH _ _ QT;obtain⟨l',o,e1,e2,e3⟩:=hM.DI b _ hg;rw[hl]at e1;cases e1;have ahs:w.heap[l.c]?=some (.deferred (some [])):=by cases e3 with|dfs _ _=>exact e2
   have ud:l.c<w.heap.size:=hM.Dc b l hl;have mn:w0.heap.size≤l.c:=(hM.own b _ l hg hl).resolve_left (by simp[ab.ro]);obtain⟨m1,m2⟩:=hM.put (w':={w with heap:=w.heap.setIfInBounds l.c (.deferred none)}) b (.dfs true) l (.deferred none) (nx':=nx.toNat) (.inr hl)
    ⟨rfl,rfl,rfl,by simp,fun j hj _=>by show(w.heap.setIfInBounds l.c _)[j]?=_;rw[Px (Ne.symm hj)],cI _⟩
    (by show(w.heap.setIfInBounds l.c _)[l.c]?=_;simp[ud])
    (.dfs true l)
    (fun b' B' l' g m' ne=>hM.sep b' b B' _ l' l g hg m' hl ne) mn (cI _) (hM.new b l hl) (hM.VU hg hl rfl)
   have dH:=IE (P:=P) (cs:=cs++rest) hfm ID (Cy ahs);refine⟨_,cs,_,.one dH,_,_,Mu.le_trans h0 m1,m2,hH.set b _,move ds Ds m1 (hD2.mono m1),hS.kept m1 (kQ QT hl _ _),?_⟩;show(aU (_ ::fP)).Nodup;have:pk {af with dfs:=ds}=pk af:=rfl;simp only[aU,this,MS,List.nil_append];exact LJ
  ·trivial
 ·rename_i f args ds Tr;rcases xO X f args true (.bad 71 ⟨af,fP,H,nx⟩) (fun dG=>.next ⟨dG,{af with dfs:=ds} ::fP,H,nx⟩)with e|⟨p,hp,e⟩
  ·rw[e];trivial
  ·rw[e];rw[Tr]at hD;cases ID:fr.defers with
   |nil=>rw[ID]at hD;exact hD.elim
   |cons d Ds=>
   rw[ID]at hD;obtain⟨⟨ws,hd1,T7⟩,hD2⟩:=hD;obtain⟨fn,c,f1,f2,f3,f4,f5⟩:=ua hp;have hi:(invoke d.target d.args).run P w=.ok (.enter f (d.args++ws)) w:=by rw[hd1];simp[invoke,qv f1 (by rw[f2];rfl) f3]
   have dH:=J6 (P:=P) (cs:=cs++rest) hfm ID hd1 hi;refine⟨_,{fr with defers:=Ds} ::cs,w,.one dH,μ,G,h0,hM,hH,uc hp T7 true,⟨.unw (move ds Ds μ.le_refl hD2) cL,hS⟩,?_⟩;show(aU (_ ::_ ::fP)).Nodup;have:pk {af with dfs:=ds}=pk af:=rfl;simp only[aU,this,MS,List.nil_append];simp only[pk,List.nil_append];exact LJ
 ·rename_i Tr;have ID:fr.defers=[]:=by
   rw[Tr]at hD;cases ID:fr.defers with
   |nil=>rfl
   |cons d Ds=>rw[ID]at hD;exact hD.elim
  split
  ·trivial
  ·rename_i uN;cases Gv with
   |run nt hb h1=>exact absurd h1 cL
   |pan nt hb v u r h1=>rw[h1]at uN;cases uN
   |ret nt hb h1 h2 h3 hT=>
    split
    ·rename_i l hl;obtain⟨fn,g1,g2,g3⟩:=hb.Lq.ex;have Wv:P.funcs[fr.fn]?=some fn:=by rw[hb.fn];exact g1
     rw[g2]at g3;obtain⟨vs,q1,q2⟩:=GM hM hH hT g3 hl;rw[tZ];obtain⟨μ1,G1,x1,x2⟩:=Bw (C.lL af.fn) hM hH q2;have q2:=Mj x2;have hS:=bW.kept x1.le x1.kept hS;have h0:=Mu.le_trans h0 x1.le;have hM:=x1.M;have hH:=x1.hs;have hb:=hb.mono x1.le;have hT:=hT.mono x1.le;generalize bG (C.lL af.fn) l H=lh at q2 hS hM hH;obtain⟨l1,H1⟩:=lh;simp only at q2 hS hM hH ⊢;clear x1 x2;generalize hvv:BP vs=v at q1 q2;unfold Eu;cases fP with
     |nil=>
      cases cs with
      |cons _ _=>exact hS.elim
      |nil=>
      cases Pw:af.xP with
      |true=>trivial
      |false=>
       have Fa:fr.kind=.normal:=by rw[hb.kind,Pw];rfl
       exact⟨fr,w,μ1,G1,v,Steps.refl _ _,hb.fn,⟨h2,ID,Fa,fn,Wv,q1⟩,q2,h0,hM,hH⟩
     |cons c fP=>
      cases cs with
      |nil=>exact hS.elim
      |cons cf cs=>
      have Gl:(aU (c ::fP)).Nodup:=LJ;cases Pw:af.xP with
      |true=>
       have Fa:fr.kind=.deferred:=by rw[hb.kind,Pw];rfl
       have dH:=AQ (P:=P) (c:=cf) (cs:=cs++rest) h2 ID Fa Wv q1;simp only[cond_true];cases hS.1 with
       |wait En eA sj=>rw[sj];trivial
       |unw hc Hj=>
        cases hc with
        |run En eA sj=>exact absurd sj Hj
        |ret En eA sj Jm h3' hT'=>
         have QV:settle cf.mode=cf.mode:=by rw[Jm];rfl
         rw[QV]at dH;rw[sj];exact⟨_,cs,w,.one dH,μ1,G1,h0,hM,hH,.ret En eA sj Jm h3' hT',hS.2,Gl⟩
        |pan En eA v' u' r' sj Jm Ih h3' hT'=>
         rw[sj];cases r' with
         |true=>
          have QV:settle cf.mode=.returning:=by rw[Jm];rfl
          rw[QV]at dH;refine⟨_,cs,w,.one dH,μ1,G1,h0,hM,hH,.ret En ⟨eA.fn,eA.Lq,eA.dfs,eA.kind,eA.pz,eA.rd⟩ rfl rfl (.inl h3') hT',hS.2,?_⟩;exact Gl
         |false=>
          have QV:settle cf.mode=cf.mode:=by rw[Jm];rfl
          rw[QV]at dH;exact⟨_,cs,w,.one dH,μ1,G1,h0,hM,hH,.pan En eA v' u' false sj Jm Ih h3' hT',hS.2,Gl⟩
      |false=>
       have Fa:fr.kind=.normal:=by rw[hb.kind,Pw];rfl
       have dH:=OF (P:=P) (c:=cf) (cs:=cs++rest) h2 ID Fa Wv q1;simp only[cond_false];split
       ·rename_i c' hf;obtain⟨k1,k2⟩:=hS.1.finish q2 hf;refine⟨_,cs,w,.one dH,μ1,G1,h0,hM,hH,k1,hS.2,?_⟩;show(aU (c' ::fP)).Nodup;simp only[aU,k2]at Gl ⊢;exact Gl
       ·trivial
    ·trivial
  ·rename_i v uN;cases Gv with
   |run nt hb h1=>exact absurd h1 cL
   |ret nt hb h1=>rw[h1]at uN;cases uN
   |pan nt hb v' u r h1 h2 hv h3 hT=>
    rw[h1]at uN;simp only[PZ.pan.injEq]at uN;obtain⟨rfl,rfl⟩:=uN;obtain⟨fn,g1,g2,g3⟩:=hb.Lq.ex;have Wv:P.funcs[fr.fn]?=some fn:=by rw[hb.fn];exact g1
    cases fP with
    |nil=>trivial
    |cons c fP=>
     cases cs with
     |nil=>exact hS.elim
     |cons cf cs=>
     simp only;cases hS.1 with
     |unw hc Hj=>
      cases hc with
      |run En eA sj=>exact absurd sj Hj
      |ret En eA sj=>rw[sj];trivial
      |pan En eA v2 u2 r2 sj=>rw[sj];trivial
     |wait En eA sj Jm hW=>
      rw[sj];have dH:=J7 (P:=P) (c:=cf) (cs:=cs++rest) (w:=w) h2 ID Wv;have hra:cf.raise [{v:=u,recovered:=false}]={cf with mode:=.panicking [{v:=u,recovered:=false}]}:=by simp[Frame.raise,Jm]
      rw[hra]at dH;refine⟨_,cs,w,.one dH,μ,G,h0,hM,hH,.pan En ⟨eA.fn,eA.Lq,eA.dfs,eA.kind,eA.pz,eA.rd⟩ v' u false rfl rfl hv rfl ?_,hS.2,?_⟩
      ·show gG ρ μ En (match c.todo with|.staged _ d _ ::_=>AD d.ds c.tm (fun t=>t)|_=>c.tm) cf.tmps;generalize cf.todo=KK at hW;generalize hTT:cf.tmps=TT at hW;generalize c.todo=kk at hW;generalize c.tm=tt at hW;cases hW with
       |ops o l ops i rest k K tm tmps hp h ht=>exact ht
       |rf key l k K tm tmps hk h ht=>exact ht
       |staged ops pl bf g i po ad os pA items fD ak k K tm tmps rest nH hf hc hL Hg hd h LH Az S=>simp only[kO];exact S.erase hd.1
      ·have Gl:(aU (c ::fP)).Nodup:=LJ;show(aU (_ ::fP)).Nodup;simp only[aU,pk,List.nil_append]at Gl ⊢;exact(List.nodup_append.1 Gl).2.1
  ·trivial
theorem sm(X:Ctx P ρ w0 C){am:AM}(h:xk P ρ C.orc w0 μ0 am fr cs w):Good P ρ C w0 μ0 rest (lone fr (cs++rest) w) (fU C am):=by
 obtain⟨μ,G,h0,hM,hH,hc,hS,hn⟩:=h.ex;unfold fU;split
 ·rename_i hm;cases hc with
  |run nt hb h1 h2 h=>exact QS X h0 hM hH hb h1 h2 h hS hn
  |ret nt hb h1=>rw[h1]at hm;cases hm
  |pan nt hb v u r h1=>rw[h1]at hm;cases hm
 ·rename_i hm;have cL:am.fr.mode≠.run:=fun e=>hm e;have hb:∃nt,tX P ρ μ nt am.fr fr:=by
   cases hc with
   |run nt hb h1 h2 h=>exact⟨nt,hb⟩
   |ret nt hb h1=>exact⟨nt,hb⟩
   |pan nt hb v u r h1=>exact⟨nt,hb⟩
  obtain⟨nt,hb⟩:=hb;exact J5 X h0 hM hH hb hc cL hS hn
theorem ue(C:cX)(n:Nat)(m:AM):ou C (n+1) m=match fU C m with
  |.next m=>ou C n m
  |r=>r:=rfl
theorem q8(X:Ctx P ρ w0 C):∀(n:Nat) {am:AM} {fr:Frame} {cs:List Frame} {w:World},xk P ρ C.orc w0 μ0 am fr cs w→Good P ρ C w0 μ0 rest (lone fr (cs++rest) w) (ou C n am)
 |0,am,fr,cs,w,h=>⟨fr,cs,w,Steps.refl _ _,h⟩
 |n+1,am,fr,cs,w,h=>by
  have h1:=sm (rest:=rest) X h;rw[ue];cases hs:fU C am with
  |next m=>rw[hs]at h1;obtain⟨dG,vQ,w',s1,h2⟩:=h1;exact Good.steps s1 (q8 X n h2)
  |done f v hh nx=>rw[hs]at h1;exact h1
  |alt l=>rw[hs]at h1;exact h1
  |pan v hh nx=>trivial
  |bad k m=>trivial
end
noncomputable def eK(f:Nat)(p:dB)(l:List AV):jL:={fn:=f,tm:=eH l .z .nil,todo:=[.code p.body],dfs:=[],mode:=.run,xP:=false,pz:=none,res:=p.res}
section
variable{P:Program}{ρ:Nat→Int}{C:cX}{w0:W0}{w:World}{μ0:Mu}{G0:Key→Option ab}{H H':T ab}{nx nx':Key}
inductive Ev(C:cX)(S:AM→Prop):AM→Prop
 |now {m:AM} (h:S m):Ev C S m
 |step {m m':AM} (e:fU C m=.next m') (h:Ev C S m'):Ev C S m
 |alt {m:AM} {l:List AM} (e:fU C m=.alt l) (h:∀m'∈l,Ev C S m'):Ev C S m
theorem Ev.bind{S S':AM→Prop}{m:AM}(h:Ev C S m)(hs:∀m',S m'→Ev C S' m'):Ev C S' m:=by
 induction h with
 |now h=>exact hs _ h
 |step e _ ih=>exact .step e ih
 |alt e _ ih=>exact .alt e ih
theorem Ev.mono{S S':AM→Prop}{m:AM}(h:Ev C S m)(hs:∀m',S m'→S' m'):Ev C S' m:=h.bind fun m' q=>.now (hs m' q)
theorem Ev.same{S:AM→Prop}{m m2:AM}(hs:fU C m=fU C m2)(hn:¬S m2)(h:Ev C S m2):Ev C S m:=by
 cases h with
 |now h=>exact absurd h hn
 |step e h=>exact .step (hs.trans e) h
 |alt e h=>exact .alt (hs.trans e) h
theorem P3(a b:Nat)(m m1:AM)(h:ou C a m=.next m1):ou C (a+b) m=ou C b m1:=by
 induction a generalizing m with
 |zero=>have:SR.next m=SR.next m1:=h;cases this;rw[Nat.zero_add]
 |succ a ih=>
  rw[ue]at h;have e:a+1+b=(a+b)+1:=by omega
  rw[e,ue];cases hs:fU C m with
  |next m2=>rw[hs]at h;exact ih m2 h
  |done f v hh nx=>rw[hs]at h;cases h
  |alt l=>rw[hs]at h;cases h
  |pan v hh nx=>rw[hs]at h;cases h
  |bad k m=>rw[hs]at h;cases h
theorem Ev.P4{S:AM→Prop}:∀(n:Nat) {m m':AM},ou C n m=.next m'→Ev C S m'→Ev C S m
 |0,m,m',h,q=>by have:SR.next m=SR.next m':=h;cases this;exact q
 |n+1,m,m',h,q=>by
  rw[ue]at h;cases hs:fU C m with
  |next m2=>rw[hs]at h;exact .step hs (Ev.P4 n h q)
  |done f v hh nx=>rw[hs]at h;cases h
  |alt l=>rw[hs]at h;cases h
  |pan v hh nx=>rw[hs]at h;cases h
  |bad k m=>rw[hs]at h;cases h
def To(C:cX)(m m':AM):Prop:=∃n,ou C n m=.next m'
theorem To.refl(m:AM):To C m m:=⟨0,rfl⟩
theorem To.head{m m1 m2:AM}(h:fU C m=.next m1)(h':To C m1 m2):To C m m2:=by obtain⟨n,hn⟩:=h';exact⟨n+1,by rw[ue,h];exact hn⟩
theorem To.one{m m1:AM}(h:fU C m=.next m1):To C m m1:=.head h (.refl _)
theorem To.trans{m m1 m2:AM}(h:To C m m1)(h':To C m1 m2):To C m m2:=by obtain⟨a,ha⟩:=h;obtain⟨b,hb⟩:=h';exact⟨a+b,by rw[P3 a b m m1 ha];exact hb⟩
theorem To.ev{S:AM→Prop}{m m':AM}(h:To C m m')(q:Ev C S m'):Ev C S m:=by obtain⟨n,hn⟩:=h;exact Ev.P4 n hn q
theorem Ev.sound(X:Ctx P ρ w0 C){S:AM→Prop}{rest:List Frame}{am:AM}(h:Ev C S am):∀{fr:Frame} {cs:List Frame} {w:World},xk P ρ C.orc w0 μ0 am fr cs w→
  ∃MP dG vQ w',S MP∧Steps P (lone fr (cs++rest) w) (lone dG (vQ++rest) w')∧xk P ρ C.orc w0 μ0 MP dG vQ w':=by
 induction h with
 |now h=>intro fr cs w hm;exact⟨_,fr,cs,w,h,Steps.refl _ _,hm⟩
 |step e _ ih=>intro fr cs w hm;have hg:=sm (rest:=rest) X hm;rw[e]at hg;obtain⟨dG,vQ,w',s1,h2⟩:=hg;obtain⟨MP,C9,cs2,w2,q,s2,h3⟩:=ih h2;exact⟨MP,C9,cs2,w2,q,s1.trans s2,h3⟩
 |alt e _ ih=>intro fr cs w hm;have hg:=sm (rest:=rest) X hm;rw[e]at hg;obtain⟨am1,jM,dG,vQ,w',s1,h2⟩:=hg;obtain⟨MP,C9,cs2,w2,q,s2,h3⟩:=ih am1 jM h2;exact⟨MP,C9,cs2,w2,q,s1.trans s2,h3⟩
end
inductive Ex where
 |norm
 |ret
 |exit (id:Nat)
 |pan (a:AV)
def Aft(af:jL)(k:List cv):Ex→T AV→jL→Prop
 |.norm,tm,fr=>fr={af with tm:=tm,todo:=k}
 |.ret,tm,fr=>∃t,fr={af with tm:=tm,todo:=.code .ret ::t}
 |.exit id,tm,fr=>∃k2,lM id k2=lM id k∧fr={af with tm:=tm,todo:=.code (.exit id) ::k2}
 |.pan a,tm,fr=>fr={af with tm:=tm,todo:=[],mode:=.pan a false}
def Lv:Option Nat→av
 |none=>.ret
 |some i=>.exit i
abbrev cu:=Ex→T AV→T ab→Key→Prop
def Stop(Q:cu)(af:jL)(k:List cv)(cs:List jL)(m:AM):Prop:=∃e aD h' nx' fr,Q e aD h' nx'∧Aft af k e aD fr∧m=⟨fr,cs,h',nx'⟩
def WI(C:cX)(x:cv)(Q:cu)(tm:T AV)(h:T ab)(nx:Key):Prop:=
 ∀(af:jL) (k:List cv) (cs:List jL),af.mode=.run→True→Ev C (Stop Q af k cs) ⟨{af with tm:=tm,todo:=x ::k},cs,h,nx⟩
abbrev W(C:cX)(c:av):cu→T AV→T ab→Key→Prop:=WI C (.code c)
section
variable{C:cX}{Q Q':cu}{tm:T AV}{h:T ab}{nx:Key}
theorem WI.mono{x:cv}(hw:WI C x Q tm h nx)(hq:∀e tm h nx,Q e tm h nx→Q' e tm h nx):WI C x Q' tm h nx:=by intro af k cs h1 h2;refine(hw af k cs h1 h2).mono ?_;rintro m ⟨e,aD,h',nx',fr,q,a,t⟩;exact⟨e,aD,h',nx',fr,hq _ _ _ _ q,a,t⟩
theorem bC{m:AM}{r:SR}(hm:m.fr.mode=.run)(hr:bD C m.fr m.cs m.h m.nx=r):fU C m=r:=by unfold fU;simp only[hm];exact hr
theorem Stop.not{y:cv}{af:jL}{k:List cv}{cs cs2:List jL}(hy:∀i,y≠.code (Lv i))(h1:af.mode=.run):¬Stop Q af k cs ⟨{af with tm:=tm,todo:=y ::k},cs2,h,nx⟩:=by
 rintro⟨e,aD,h',nx',fr,q,a,t⟩;simp only[AM.mk.injEq]at t;obtain⟨e0,_⟩:=t;cases e with
 |norm=>cases a;simp at e0
 |ret=>obtain⟨_,rfl⟩:=a;simp at e0;exact hy none e0.2.1
 |exit id=>obtain⟨_,_,rfl⟩:=a;simp at e0;exact hy (some id) e0.2.1
 |pan a'=>cases a;simp at e0
theorem WI.to{x y:cv}(hs:∀(af:jL) (k:List cv) (cs:List jL),af.mode=.run→True→bD C {af with tm:=tm,todo:=x ::k} cs h nx=.next ⟨{af with tm:=tm,todo:=y ::k},cs,h,nx⟩)(hw:WI C y Q tm h nx):WI C x Q tm h nx:=by intro af k cs h1 h2;exact .step (bC h1 (hs af k cs h1 h2)) (hw af k cs h1 h2)
theorem W.skip(hq:Q .norm tm h nx):W C .skip Q tm h nx:=by intro af k cs h1 h2;exact .step (bC h1 rfl) (.now ⟨.norm,tm,h,nx,_,hq,rfl,rfl⟩)
theorem W.ret(hq:Q .ret tm h nx):W C .ret Q tm h nx:=by intro af k cs h1 h2;exact .now ⟨.ret,tm,h,nx,_,hq,⟨k,rfl⟩,rfl⟩
theorem W.exit{id:Nat}(hq:Q (.exit id) tm h nx):W C (.exit id) Q tm h nx:=by intro af k cs h1 h2;exact .now ⟨.exit id,tm,h,nx,_,hq,⟨k,rfl,rfl⟩,rfl⟩
theorem W.seq{a b:av}(hw:W C a (fun e tm h nx=>match e with|.norm=>W C b Q tm h nx|e=>Q e tm h nx) tm h nx):W C (.seq a b) Q tm h nx:=by
 intro af k cs h1 h2;refine .step (m':=⟨{af with tm:=tm,todo:=.code a ::.code b ::k},cs,h,nx⟩) (bC h1 rfl) ((hw af (.code b ::k) cs h1 h2).bind ?_);rintro m ⟨e,aD,h',nx',fr,q,ha,rfl⟩;cases e with
 |norm=>cases ha;refine(q {af with tm:=aD} k cs h1 h2).mono ?_;rintro m ⟨e2,dR,Pl,aP,C9,q2,a2,t2⟩;refine⟨e2,dR,Pl,aP,C9,q2,?_,t2⟩;cases e2<;>exact a2
 |ret=>exact .now ⟨.ret,aD,h',nx',fr,q,ha,rfl⟩
 |exit id=>obtain⟨k2,e1,e2⟩:=ha;exact .now ⟨.exit id,aD,h',nx',fr,q,⟨k2,e1,e2⟩,rfl⟩
 |pan a=>exact .now ⟨.pan a,aD,h',nx',fr,q,ha,rfl⟩
theorem W.cond{x:PX}{a b:av}{t:Bool}(hx:x.at tm=some (.bool t))(hw:W C (if t then a else b) Q tm h nx):W C (.cond x a b) Q tm h nx:=by refine WI.to (y:=.code (if t then a else b)) ?_ hw;intro af k cs h1 h2;simp only[bD,hx];cases t<;>rfl
theorem W.block{id:Nat}{c:av}(hw:W C c (fun e tm h nx=>match e with|.exit j=>if j=id then Q .norm tm h nx else Q (.exit j) tm h nx|e=>Q e tm h nx) tm h nx):W C (.block id c) Q tm h nx:=by
 intro af k cs h1 h2;refine .step (m':=⟨{af with tm:=tm,todo:=.code c ::.inBlock id ::k},cs,h,nx⟩) (bC h1 rfl) ((hw af (.inBlock id ::k) cs h1 h2).bind ?_);rintro m ⟨e,aD,h',nx',fr,q,ha,rfl⟩;cases e with
 |norm=>cases ha;exact .step (bC h1 rfl) (.now ⟨.norm,aD,h',nx',_,q,rfl,rfl⟩)
 |ret=>exact .now ⟨.ret,aD,h',nx',fr,q,ha,rfl⟩
 |exit j=>
  obtain⟨k2,e1,rfl⟩:=ha;by_cases hj:j=id
  ·subst hj;simp only[if_true]at q;refine .step (m':=⟨{af with tm:=aD,todo:=k},cs,h',nx'⟩) (bC h1 ?_) (.now ⟨.norm,aD,h',nx',_,q,rfl,rfl⟩);simp only[bD,e1,lM,beqN_eq,decide_true,cond_true]
  ·simp only[if_neg hj]at q;refine .now ⟨.exit j,aD,h',nx',_,q,⟨k2,?_,rfl⟩,rfl⟩;rw[e1];simp only[lM,beqN_eq,show ¬id=j from fun e=>hj e.symm,decide_false,cond_false]
 |pan a=>exact .now ⟨.pan a,aD,h',nx',fr,q,ha,rfl⟩
theorem W.loop{c:av}(Inv:Nat→T AV→T ab→Key→Prop)
  (hw:∀n tm h nx,Inv n tm h nx→W C c (fun e tm h nx=>match e with|.norm=>∃m,m<n∧Inv m tm h nx|e=>Q e tm h nx) tm h nx) {n:Nat} (hi:Inv n tm h nx):W C (.loop c) Q tm h nx:=by
 have key:∀(n:Nat) (tm:T AV) (h:T ab) (nx:Key),Inv n tm h nx→WI C (.inLoop c) Q tm h nx:=by
  intro n
  induction n using Nat.strongRecOn with
  |_ n ih=>
   intro tm h nx hi af k cs h1 h2;refine .step (m':=⟨{af with tm:=tm,todo:=.code c ::.inLoop c ::k},cs,h,nx⟩) (bC h1 rfl) ((hw n tm h nx hi af (.inLoop c ::k) cs h1 h2).bind ?_);rintro m ⟨e,aD,h',nx',fr,q,ha,rfl⟩;cases e with
   |norm=>cases ha;obtain⟨m,hm,him⟩:=q;refine(ih m hm aD h' nx' him {af with tm:=aD} k cs h1 h2).mono ?_;rintro m ⟨e2,dR,Pl,aP,C9,q2,a2,t2⟩;refine⟨e2,dR,Pl,aP,C9,q2,?_,t2⟩;cases e2<;>exact a2
   |ret=>exact .now ⟨.ret,aD,h',nx',fr,q,ha,rfl⟩
   |exit id=>obtain⟨k2,e1,e2⟩:=ha;exact .now ⟨.exit id,aD,h',nx',fr,q,⟨k2,e1,e2⟩,rfl⟩
   |pan a=>exact .now ⟨.pan a,aD,h',nx',fr,q,ha,rfl⟩
 intro af k cs h1 h2;exact Ev.same (by rw[bC (m:=⟨{af with tm:=tm,todo:=.inLoop c ::k},cs,h,nx⟩) h1 rfl,bC (m:=⟨{af with tm:=tm,todo:=.code (.loop c) ::k},cs,h,nx⟩) h1 rfl];rfl)
  (Stop.not (fun i e=>by cases i<;>cases e) h1) (key n tm h nx hi af k cs h1 h2)
inductive Out where
 |ret (v:AV)
 |pan (a:AV)
noncomputable def zT(C:cX)(f:Nat):Option dB:=bif Nat.beq (Key.dL 12 f).toNat f then ae (Key.dL 12 f) C.fns else none
def Left(C:cX)(f:Nat)(fr:jL)(h1:T ab)(o:Out)(h':T ab):Prop:=fr.dfs=[]∧match o with
 |.ret v=>fr.mode=.ret∧∃l,resultsA h1 fr.tm fr.res=some l∧v=lN (bG (C.lL f) l h1).1∧h'=(bG (C.lL f) l h1).2
 |.pan a=>fr.mode=.pan a false∧h'=h1
def ajr(C:cX)(f:Nat)(R:Out→T ab→Key→Prop)(cs:List jL)(m:AM):Prop:=∃o h' nx' fr h1,R o h' nx'∧fr.fn=f∧fr.xP=false∧Left C f fr h1 o h'∧m=⟨fr,cs,h1,nx'⟩
def ax(C:cX)(f:Nat)(l:List AV)(h:T ab)(nx:Key)(R:Out→T ab→Key→Prop):Prop:=
 (∃v h' nx',C.sum f l h nx=some (v,h',nx')∧R (.ret v) h' nx')∨
 (C.sum f l h nx=none∧∃p,zT C f=some p∧∀cs,Ev C (ajr C f R cs) ⟨eK f p l,cs,h,nx⟩)
theorem ax.mono{f:Nat}{l:List AV}{R R':Out→T ab→Key→Prop}(hc:ax C f l h nx R)(hr:∀o h nx,R o h nx→R' o h nx):ax C f l h nx R':=by
 rcases hc with⟨v,h',nx',h1,h2⟩|⟨h1,p,h2,h3⟩
 ·exact .inl ⟨v,h',nx',h1,hr _ _ _ h2⟩
 ·refine .inr ⟨h1,p,h2,fun cs=>(h3 cs).mono ?_⟩;rintro m ⟨o,h',nx',fr,h1,q,r⟩;exact⟨o,h',nx',fr,h1,hr _ _ _ q,r⟩
def uL(C:cX)(f:Nat)(res:List RV)(R:Out→T ab→Key→Prop):cu:=fun e tm h nx=>match e with
 |.norm|.ret=>∃l,resultsA h tm res=some l∧R (.ret (lN (bG (C.lL f) l h).1)) (bG (C.lL f) l h).2 nx
 |.pan a=>R (.pan a) h nx
 |.exit _=>False
theorem ax.ajs{f:Nat}{p:dB}{l:List AV}{R:Out→T ab→Key→Prop}(hs:C.sum f l h nx=none)(hp:zT C f=some p)(hw:W C p.body (uL C f p.res R) (eH l .z .nil) h nx):ax C f l h nx R:=by
 refine .inr ⟨hs,p,hp,fun cs=>(hw (eK f p l) [] cs rfl trivial).bind ?_⟩;rintro m ⟨e,aD,h',nx',fr,q,ha,rfl⟩;cases e with
 |norm=>cases ha;obtain⟨l1,hl,hr⟩:=q;exact .step (m':=⟨{eK f p l with tm:=aD,todo:=[],mode:=.ret},cs,h',nx'⟩) (bC rfl rfl) (.now ⟨_,_,nx',_,h',hr,rfl,rfl,⟨rfl,rfl,l1,hl,rfl,rfl⟩,rfl⟩)
 |ret=>obtain⟨t',rfl⟩:=ha;obtain⟨l1,hl,hr⟩:=q;exact .step (m':=⟨{eK f p l with tm:=aD,todo:=.code .ret ::t',mode:=.ret},cs,h',nx'⟩) (bC rfl rfl) (.now ⟨_,_,nx',_,h',hr,rfl,rfl,⟨rfl,rfl,l1,hl,rfl,rfl⟩,rfl⟩)
 |exit id=>exact q.elim
 |pan a=>cases ha;exact .now ⟨.pan a,h',nx',_,h',q,rfl,rfl,⟨rfl,rfl,rfl⟩,rfl⟩
theorem W.ops{l:List aq}(hw:WI C (.ops l) Q tm h nx):W C (.ops l) Q tm h nx:=
 WI.to (y:=.ops l) (fun _ _ _ _ _=>rfl) hw
theorem WI.Vl{l:List aq}{aD:T AV}{h':T ab}{nx':Key}(hr:fX C.orc l tm h nx=.fin aD h' nx')(hq:Q .norm aD h' nx'):WI C (.ops l) Q tm h nx:=by intro af k cs h1 h2;refine .step (m':=⟨{af with tm:=aD,todo:=k},cs,h',nx'⟩) (bC h1 ?_) (.now ⟨.norm,aD,h',nx',_,hq,rfl,rfl⟩);simp only[bD,hr]
theorem HS{S:AM→Prop}{f:Nat}{args:List AV}{fr c:jL}{cs:List jL}{R:Out→T ab→Key→Prop}(hc:ax C f (bG (C.raw f) args h).1 (bG (C.raw f) args h).2 nx R)
  (DJ:∀v,∃dG,bc v fr=some dG) (uN:fr.mode=.run) {m:AM} (hm:fU C m=ez C (.call f args) fr c cs h nx)
  (B3:∀v h' nx' dG,R (.ret v) h' nx'→bc v fr=some dG→Ev C S ⟨dG,cs,h',nx'⟩)
  (Su:∀a h' nx',R (.pan a) h' nx'→Ev C S ⟨{fr with mode:=.pan a false,todo:=[],tm:=(match fr.todo with|.staged _ d _ ::_=>AD d.ds fr.tm (fun t=>t)|_=>fr.tm)},cs,h',nx'⟩):Ev C S m:=by
 rcases hc with⟨v,h',nx',hs,hr⟩|⟨hs,p,hp,cR⟩
 ·obtain⟨dG,hf⟩:=DJ v;refine .step (m':=⟨dG,cs,h',nx'⟩) ?_ (B3 v h' nx' dG hr hf);rw[hm];simp only[ez,tZ,hs,hf]
 ·have hen:fU C m=.next ⟨eK f p (bG (C.raw f) args h).1,fr ::cs,(bG (C.raw f) args h).2,nx⟩:=by rw[hm];simp only[ez,tZ,hs];unfold AA;have CO:(bif Nat.beq (Key.dL 12 f).toNat f then ae (Key.dL 12 f) C.fns else none)=some p:=hp;simp only[CO,AB];rfl
  refine .step hen ((cR (fr ::cs)).bind ?_);rintro m2 ⟨o,h',nx',C9,h1,hr,XO,Pw,⟨hd,hL⟩,rfl⟩;cases o with
  |ret v=>obtain⟨Dl,l,hl,rfl,rfl⟩:=hL;obtain⟨dG,hf⟩:=DJ (lN (bG (C.lL f) l h1).1);refine .step (m':=⟨dG,cs,(bG (C.lL f) l h1).2,nx'⟩) ?_ (B3 _ _ nx' dG hr hf);unfold fU;simp only[Dl];unfold y0;simp only[hd,Dl,hl,XO,tZ];unfold Eu;simp only[Pw,cond_false,hf]
  |pan a=>obtain⟨Dl,rfl⟩:=hL;refine .step ?_ (Su a h' nx' hr);unfold fU;simp only[Dl];unfold y0;simp only[hd,Dl,uN];rfl
theorem WI.Sv{l:List aq}{f:Nat}{args:List AV}{o:aq}{rest:List aq}{dT:T AV}{h1:T ab}{nx1:Key}{R:Out→T ab→Key→Prop}(hr:fX C.orc l tm h nx=.ev (.call f args) (o ::rest) dT h1 nx1)
  (hc:ax C f (bG (C.raw f) args h1).1 (bG (C.raw f) args h1).2 nx1 R)
  (B3:∀v h2 aP,R (.ret v) h2 aP→WI C (.ops rest) Q (aV o.dst v dT) h2 aP)
  (Su:∀a h2 aP,R (.pan a) h2 aP→Q (.pan a) dT h2 aP):WI C (.ops l) Q tm h nx:=by
 intro af k cs m1 m2;have dH:fU C ⟨{af with tm:=tm,todo:=.ops l ::k},cs,h,nx⟩=ez C (.call f args) {af with tm:=dT,todo:=.ops (o ::rest) ::k} {af with tm:=dT,todo:=[]} cs h1 nx1:=by refine bC m1 ?_;simp only[bD,hr]
 have NV:∀v,bc v {af with tm:=dT,todo:=.ops (o ::rest) ::k}=some {af with tm:=aV o.dst v dT,todo:=.ops rest ::k}:=fun v=>by simp only[bc,cj]
 refine HS (fr:={af with tm:=dT,todo:=.ops (o ::rest) ::k}) (c:={af with tm:=dT,todo:=[]}) (cs:=cs) hc (fun v=>⟨_,NV v⟩) m1 dH ?_ ?_
 ·intro v h' nx' dG hR hf;rw[NV]at hf;cases hf;refine(B3 v h' nx' hR {af with tm:=aV o.dst v dT} k cs m1 m2).mono ?_;rintro m ⟨e2,dR,Pl,aP,C9,q2,a2,t2⟩;refine⟨e2,dR,Pl,aP,C9,q2,?_,t2⟩;cases e2<;>exact a2
 ·intro a h' nx' hR;exact .now ⟨.pan a,dT,h',nx',_,Su a h' nx' hR,rfl,rfl⟩
theorem W.staged{l:List aT}{d:SD}(hw:WI C (.staged l d []) Q tm h nx):W C (.staged l d) Q tm h nx:=
 WI.to (y:=.staged l d []) (fun _ _ _ _ _=>rfl) hw
theorem WI.aal{l:List aT}{d:SD}{ak:List (Nat×Key×ab)}{aD:T AV}{h':T ab}{nx':Key}(hr:eJ C.orc d.fQ l ak tm h nx=.fin aD h' nx')(hq:Q .norm aD h' nx'):WI C (.staged l d ak) Q tm h nx:=by intro af k cs h1 h2;refine .step (m':=⟨{af with tm:=aD,todo:=k},cs,h',nx'⟩) (bC h1 ?_) (.now ⟨.norm,aD,h',nx',_,hq,rfl,rfl⟩);simp only[bD,hr]
theorem WI.Vm{l:List aT}{d:SD}{ak vw:List (Nat×Key×ab)}{f:Nat}{args:List AV}{i:Nat}{o:aq}{ad:List Nat}{rest:List aT}{dT:T AV}{h1:T ab}{nx1:Key}{R:Out→T ab→Key→Prop}
  (hr:eJ C.orc d.fQ l ak tm h nx=.ev (.call f args) (.H i o ad ::rest) vw dT h1 nx1)
  (hc:ax C f (bG (C.raw f) args h1).1 (bG (C.raw f) args h1).2 nx1 R)
  (B3:∀v h2 aP,R (.ret v) h2 aP→WI C (.staged rest d vw) Q (aV o.dst v dT) h2 aP)
  (Su:∀a h2 aP,R (.pan a) h2 aP→Q (.pan a) (gh d.ds dT) h2 aP):WI C (.staged l d ak) Q tm h nx:=by
 intro af k cs m1 m2;have dH:fU C ⟨{af with tm:=tm,todo:=.staged l d ak ::k},cs,h,nx⟩=ez C (.call f args) {af with tm:=dT,todo:=.staged (.H i o ad ::rest) d vw ::k} {af with tm:=gh d.ds dT,todo:=[]} cs h1 nx1:=by refine bC m1 ?_;simp only[bD,hr,kO]
 have NV:∀v,bc v {af with tm:=dT,todo:=.staged (.H i o ad ::rest) d vw ::k}=some {af with tm:=aV o.dst v dT,todo:=.staged rest d vw ::k}:=fun v=>by simp only[bc,cj]
 refine HS (fr:={af with tm:=dT,todo:=.staged (.H i o ad ::rest) d vw ::k}) (c:={af with tm:=gh d.ds dT,todo:=[]}) (cs:=cs) hc (fun v=>⟨_,NV v⟩) m1 dH ?_ ?_
 ·intro v h' nx' dG hR hf;rw[NV]at hf;cases hf;refine(B3 v h' nx' hR {af with tm:=aV o.dst v dT} k cs m1 m2).mono ?_;rintro m ⟨e2,dR,Pl,aP,C9,q2,a2,t2⟩;refine⟨e2,dR,Pl,aP,C9,q2,?_,t2⟩;cases e2<;>exact a2
 ·intro a h' nx' hR;simp only[kO];exact .now ⟨.pan a,gh d.ds dT,h',nx',_,Su a h' nx' hR,rfl,rfl⟩
theorem WI.Vn{l:List aq}{la:List (AV×T ab)}{o:aq}{rest:List aq}{dT:T AV}{h1:T ab}{nx1:Key}(hr:fX C.orc l tm h nx=.ev (.alt la) (o ::rest) dT h1 nx1)
  (hw:∀v h2,(v,h2)∈la→WI C (.ops rest) Q (aV o.dst v dT) h2 nx1):WI C (.ops l) Q tm h nx:=by
 intro af k cs m1 m2;have NV:∀v,bc v {af with tm:=dT,todo:=.ops (o ::rest) ::k}=some {af with tm:=aV o.dst v dT,todo:=.ops rest ::k}:=fun v=>by simp only[bc,cj]
 refine .alt (l:=LG {af with tm:=dT,todo:=.ops (o ::rest) ::k} cs nx1 la) (bC m1 (by simp only[bD,hr,ez,NV])) ?_;have key:∀(q:List (AV×T ab)),(∀x∈q,x∈la)→∀m'∈LG {af with tm:=dT,todo:=.ops (o ::rest) ::k} cs nx1 q,Ev C (Stop Q af k cs) m':=by
  intro q
  induction q with
  |nil=>intro _ m' hm;cases hm
  |cons x q ih=>
   obtain⟨v,h2⟩:=x;intro hq m' hm;simp only[LG,NV]at hm;rcases zk.1 hm with rfl|hm
   ·refine(hw v h2 (hq (v,h2) (by simp)) {af with tm:=aV o.dst v dT} k cs m1 m2).mono ?_;rintro m ⟨e2,dR,Pl,aP,C9,q2,a2,t2⟩;refine⟨e2,dR,Pl,aP,C9,q2,?_,t2⟩;cases e2<;>exact a2
   ·exact ih (fun x hx=>hq x (by simp[hx])) m' hm
 exact key la (fun x hx=>hx)
theorem WI.Vo{l:List aq}{a:AV}{rest:List aq}{dT:T AV}{h1:T ab}{nx1:Key}(hr:fX C.orc l tm h nx=.ev (.pan a) rest dT h1 nx1)(hq:Q (.pan a) dT h1 nx1):WI C (.ops l) Q tm h nx:=by intro af k cs m1 m2;refine .step (m':=⟨{af with tm:=dT,todo:=[],mode:=.pan a false},cs,h1,nx1⟩) (bC m1 ?_) (.now ⟨.pan a,dT,h1,nx1,_,hq,rfl,rfl⟩);simp only[bD,hr,ez]
noncomputable def aam:List Key→List AV→T AV→Option (T AV)
 | [],[],tm=>some tm
 |k ::l,v ::m,tm=>aam l m (ar k (some v) tm)
 |_,_,_=>none
theorem KZ{R:Type}:∀(l:List Key) (m:List AV) (tm:T AV) (bad:R) (c:T AV→R),Iq l m tm bad c=match aam l m tm with|some tm=>c tm|none=>bad
 | [],[],_,_,_=>rfl
 | [],_ ::_,_,_,_=>rfl
 |_ ::_,[],_,_,_=>rfl
 |k ::l,v ::m,tm,bad,c=>by show pw k (some v) tm (fun tm=>Iq l m tm bad c)=_;rw[sTCe];exact KZ l m _ bad c
def aan(R:Out→T ab→Key→Prop)(l:Key)(fn:Nat)(tm:T AV)(res:List RV)(ps:List Key)(a b:av)(d:Key):cu:=fun e _ h nx=>(∃p,ae l h=some (.loop .busy p fn tm res ps a b d))∧match e with
 |.norm=>R (.ret (.bool true)) (ar l (some (.loop .ready none fn tm res ps a b d)) h) nx
 |.ret=>R (.ret (.bool false)) (ar l (some (.loop .done (some .ret) fn tm res ps a b d)) h) nx
 |.exit i=>R (.ret (.bool false)) (ar l (some (.loop .done (some (.exit i)) fn tm res ps a b d)) h) nx
 |.pan _=>False
def IH(C:cX)(l:Key)(args:List AV)(h:T ab)(nx:Key)(R:Out→T ab→Key→Prop):Prop:=
 ∃fn tm res ps a b d,(∃p,ae l h=some (.loop .ready p fn tm res ps a b d))∧∃dT,aam ps args tm=some dT∧
  W C a (fun e dR h2 aP=>e=.norm∧∃p,ae l h2=some (.loop .ready p fn tm res ps a b d)∧W C b (aan R l fn tm res ps a b d) dR (ar l (some (.loop .busy p fn tm res ps a b d)) h2) aP) dT h nx
theorem yF{jump:Option av}{fr c c':jL}{cs:List jL}{l:Key}{st:LS}{p:Option av}{fn:Nat}{dT:T AV}{res:List RV}{ps:List Key}{a b:av}{d:Key}(hr:fr.pz=some l)(hl:ae l h=some (.loop st p fn dT res ps a b d))
  (hf:bc (.bool (match jump with|none=>true|some _=>false)) c=some c'):AL jump fr (c ::cs) h nx=.next ⟨c',cs,ar l (some (.loop (match jump with|none=>.ready|some _=>.done) jump fn dT res ps a b d)) h,nx⟩:=by
 unfold AL;rw[hr];dsimp only;rw[hl];cases jump with
 |none=>have hf:bc (.bool true) c=some c':=hf;simp only[sTCe,hf]
 |some j=>have hf:bc (.bool false) c=some c':=hf;simp only[sTCe,hf]
theorem K1{S:AM→Prop}{l:Key}{args:List AV}{fr c:jL}{cs:List jL}{R:Out→T ab→Key→Prop}(hc:IH C l args h nx R)
  (DJ:∀v,∃dG,bc v fr=some dG) {m:AM} (hm:fU C m=ez C (.yld l args) fr c cs h nx)
  (B3:∀v h' nx' dG,R (.ret v) h' nx'→bc v fr=some dG→Ev C S ⟨dG,cs,h',nx'⟩):Ev C S m:=by
 obtain⟨fn,tm,res,ps,a,b,d,⟨p,hl⟩,dT,hz,hw⟩:=hc;refine .step (m':=⟨{fn:=fn,tm:=dT,todo:=[.code a,.beginRound,.code b],dfs:=[],mode:=.run,xP:=false,pz:=some l,res:=res},fr ::cs,h,nx⟩) ?_ ?_
 ·rw[hm];simp only[ez,hl,KZ,hz]
 ·refine(hw {fn:=fn,tm:=dT,todo:=[],dfs:=[],mode:=.run,xP:=false,pz:=some l,res:=res} [.beginRound,.code b] (fr ::cs) rfl trivial).bind ?_;rintro m2 ⟨e,dR,h2,aP,C9,⟨rfl,p2,RY,Qn⟩,ha,rfl⟩;cases ha;refine .step (m':=⟨{fn:=fn,tm:=dR,todo:=[.code b],dfs:=[],mode:=.run,xP:=false,pz:=some l,res:=res},fr ::cs,ar l (some (.loop .busy p2 fn tm res ps a b d)) h2,aP⟩) (bC rfl ?_) ?_
  ·simp only[bD,RY,sTCe]
  ·refine(Qn {fn:=fn,tm:=dR,todo:=[],dfs:=[],mode:=.run,xP:=false,pz:=some l,res:=res} [] (fr ::cs) rfl trivial).bind ?_;rintro m3 ⟨e,tm3,h3,bu,fr3,⟨⟨p3,hl3⟩,q⟩,ha,rfl⟩;cases e with
   |norm=>cases ha;obtain⟨dG,hf⟩:=DJ (.bool true);refine .step (m':=⟨dG,cs,_,bu⟩) (bC rfl ?_) (B3 _ _ bu dG q hf);exact yF (jump:=none) (fr:={fn:=fn,tm:=tm3,todo:=[],dfs:=[],mode:=.run,xP:=false,pz:=some l,res:=res}) rfl hl3 hf
   |ret=>obtain⟨t,rfl⟩:=ha;obtain⟨dG,hf⟩:=DJ (.bool false);refine .step (m':=⟨dG,cs,_,bu⟩) (bC rfl ?_) (B3 _ _ bu dG q hf);exact yF (jump:=some .ret) (fr:={fn:=fn,tm:=tm3,todo:=.code .ret ::t,dfs:=[],mode:=.run,xP:=false,pz:=some l,res:=res}) rfl hl3 hf
   |exit i=>obtain⟨k2,hk,rfl⟩:=ha;obtain⟨dG,hf⟩:=DJ (.bool false);refine .step (m':=⟨dG,cs,_,bu⟩) (bC rfl ?_) (B3 _ _ bu dG q hf);have hk:lM i k2=none:=hk;simp only[bD,hk];exact yF (jump:=some (.exit i)) (fr:={fn:=fn,tm:=tm3,todo:=.code (.exit i) ::k2,dfs:=[],mode:=.run,xP:=false,pz:=some l,res:=res}) rfl hl3 hf
   |pan a=>exact q.elim
theorem WI.Vp{l:List aq}{lk:Key}{args:List AV}{o:aq}{rest:List aq}{dT:T AV}{h1:T ab}{nx1:Key}{R:Out→T ab→Key→Prop}(hr:fX C.orc l tm h nx=.ev (.yld lk args) (o ::rest) dT h1 nx1)
  (hc:IH C lk args h1 nx1 R) (B3:∀v h2 aP,R (.ret v) h2 aP→WI C (.ops rest) Q (aV o.dst v dT) h2 aP):WI C (.ops l) Q tm h nx:=by
 intro af k cs m1 m2;have dH:fU C ⟨{af with tm:=tm,todo:=.ops l ::k},cs,h,nx⟩=ez C (.yld lk args) {af with tm:=dT,todo:=.ops (o ::rest) ::k} {af with tm:=dT,todo:=[]} cs h1 nx1:=by refine bC m1 ?_;simp only[bD,hr]
 have NV:∀v,bc v {af with tm:=dT,todo:=.ops (o ::rest) ::k}=some {af with tm:=aV o.dst v dT,todo:=.ops rest ::k}:=fun v=>by simp only[bc,cj]
 refine K1 (fr:={af with tm:=dT,todo:=.ops (o ::rest) ::k}) (c:={af with tm:=dT,todo:=[]}) (cs:=cs) hc (fun v=>⟨_,NV v⟩) dH ?_;intro v h' nx' dG hR hf;rw[NV]at hf;cases hf;refine(B3 v h' nx' hR {af with tm:=aV o.dst v dT} k cs m1 m2).mono ?_;rintro m ⟨e2,dR,Pl,aP,C9,q2,a2,t2⟩;refine⟨e2,dR,Pl,aP,C9,q2,?_,t2⟩;cases e2<;>exact a2
theorem WI.aao{l:List aT}{d:SD}{ak vw:List (Nat×Key×ab)}{lk:Key}{args:List AV}{i:Nat}{o:aq}{ad:List Nat}{rest:List aT}{dT:T AV}{h1:T ab}{nx1:Key}{R:Out→T ab→Key→Prop}
  (hr:eJ C.orc d.fQ l ak tm h nx=.ev (.yld lk args) (.H i o ad ::rest) vw dT h1 nx1)
  (hc:IH C lk args h1 nx1 R) (B3:∀v h2 aP,R (.ret v) h2 aP→WI C (.staged rest d vw) Q (aV o.dst v dT) h2 aP):WI C (.staged l d ak) Q tm h nx:=by
 intro af k cs m1 m2;have dH:fU C ⟨{af with tm:=tm,todo:=.staged l d ak ::k},cs,h,nx⟩=ez C (.yld lk args) {af with tm:=dT,todo:=.staged (.H i o ad ::rest) d vw ::k} {af with tm:=gh d.ds dT,todo:=[]} cs h1 nx1:=by refine bC m1 ?_;simp only[bD,hr,kO]
 have NV:∀v,bc v {af with tm:=dT,todo:=.staged (.H i o ad ::rest) d vw ::k}=some {af with tm:=aV o.dst v dT,todo:=.staged rest d vw ::k}:=fun v=>by simp only[bc,cj]
 refine K1 (fr:={af with tm:=dT,todo:=.staged (.H i o ad ::rest) d vw ::k}) (c:={af with tm:=gh d.ds dT,todo:=[]}) (cs:=cs) hc (fun v=>⟨_,NV v⟩) dH ?_;intro v h' nx' dG hR hf;rw[NV]at hf;cases hf;refine(B3 v h' nx' hR {af with tm:=aV o.dst v dT} k cs m1 m2).mono ?_;rintro m ⟨e2,dR,Pl,aP,C9,q2,a2,t2⟩;refine⟨e2,dR,Pl,aP,C9,q2,?_,t2⟩;cases e2<;>exact a2
end
end Go.Sx
