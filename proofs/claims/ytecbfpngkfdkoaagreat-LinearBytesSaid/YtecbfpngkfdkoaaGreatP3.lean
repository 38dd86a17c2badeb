/- A part of the proof. No condition. -/
import Derived.Test.YtecbfpngkfdkoaaGreatP2
import Derived.Laws.BytesString
set_option linter.unusedSimpArgs false
set_option linter.unusedVariables false
set_option linter.unusedSectionVars false
namespace Go.Sx
open Go.RowKit
section
variable{P:Program}{ρ:Nat→Int}{w0:W0}{w:World}{μ:Mu}{G:Key→Option ab}{nx:Nat}{orc:dP}{nt:Nat}{tm:T AV}{H:T ab}{ev:Operand→Value}
theorem wm:∀{l:List AV} {vs:List Value} {n c:Nat},ofBytes l=some (n,c)→ao ρ μ l vs→∃bs:List UInt8,vs=bs.map (fun b=>Value.int .u8 (b.toNat:Int))∧bs.length=n∧enc bs=c
 | [],vs,n,c,h,hr=>by simp only[ofBytes,bB,Prod.mk.injEq]at h;cases hr;exact⟨[],rfl,by simpa using h.1,by simpa[enc]using h.2⟩
 |a ::l,vs,n,c,h,hr=>by
  cases hr with|cons _ _ v vs hv hvs=>
  unfold ofBytes at h;split at h
  ·rename_i heq;cases heq
  ·rename_i b l' heq;cases heq;split at h
   ·rename_i m d hm;replace h:=aB h;obtain⟨bF,h⟩:=h;rw[bltN_eq,decide_eq_true_eq]at bF;simp only[bB,Prod.mk.injEq]at h;obtain⟨bs,e1,e2,e3⟩:=wm hm hvs;cases hv with|int _ _ k hk=>
    refine⟨UInt8.ofNat b ::bs,?_,?_,?_⟩
    ·rw[e1,←hk];simp only[SI.den,Qi,List.cons.injEq,Value.int.injEq,true_and,and_true];show(b:Int)=_;simp[Nat.mod_eq_of_lt bF]
    ·simp[e2,←h.1]
    ·simp[enc,e3,←h.2,Nat.mod_eq_of_lt bF]
   ·cases h
  ·cases h
theorem foldl_push(bs:List UInt8):∀(s:ByteArray),((bs.map fun b=>((b.toNat:Nat):Int)).foldl (fun r n=>r.push (UInt8.ofNat n.toNat)) s).data.toList=s.data.toList++bs:=by
 induction bs with
 |nil=>intro s;simp
 |cons b bs ih=>intro s;simp only[Qi,List.foldl_cons];rw[ih];simp[ByteArray.push]
theorem Nw{xs:List Operand}{p:PX}(h:EE P nt xs=some [p]):∃x,xs=[x]∧pX P nt x=some p:=by
 cases xs with
 |nil=>simp[EE]at h
 |cons x xs=>
  simp only[EE]at h;split at h
  ·rename_i a r h1 h2;simp only[bB,List.cons.injEq]at h;obtain⟨rfl,rfl⟩:=h;cases xs with
   |nil=>exact⟨x,rfl,h1⟩
   |cons y ys=>simp only[EE]at h2;split at h2<;>cases h2
  ·cases h
theorem IQ{xs:List Operand}{p q:PX}(h:EE P nt xs=some [p,q]):∃x y,xs=[x,y]∧pX P nt x=some p∧pX P nt y=some q:=by
 cases xs with
 |nil=>simp[EE]at h
 |cons x xs=>
  simp only[EE]at h;split at h
  ·rename_i a r h1 h2;simp only[bB,List.cons.injEq]at h;obtain⟨rfl,rfl⟩:=h;obtain⟨y,rfl,hy⟩:=Nw h2;exact⟨x,y,rfl,h1,hy⟩
  ·cases h
theorem ZS{op:BinOp}{x y:PX}{r:AV}(h:lightOp orc (.bin op x y) tm H=some r):∃a b,x.at tm=some a∧y.at tm=some b∧lightOp orc (.bin op (.v a) (.v b)) tm H=some r:=by
 cases hx:x.at tm with
 |none=>simp[lightOp,hx]at h
 |some a=>
  cases hy:y.at tm with
  |none=>simp[lightOp,hx,hy]at h
  |some b=>refine⟨a,b,rfl,rfl,?_⟩;have e1:(PX.v a).at tm=some a:=rfl;have e2:(PX.v b).at tm=some b:=rfl;simp only[lightOp,hx,hy,e1,e2]at h ⊢;exact h
theorem Mo(hM:aL P ρ w0 μ G nx w)(hH:HSub H G){b:Key}{L:List (Nat×AV×AV)}{c:Nat}(h:stamped b H=some (L,c)) :
  ∃l es,μ b=some l∧w.heap[l.c]?=some (.map es c)∧fc ρ μ L es.toList:=by
 unfold stamped at h;split at h
 ·rename_i L' UQ;simp only[bB,Prod.mk.injEq]at h;obtain⟨rfl,rfl⟩:=h;obtain⟨l,o,h1,h2,h3⟩:=hM.DI b _ (hH _ _ UQ);cases h3 with|map _ _ es clock cJ yA IS=>
  subst IS;rw[lenL_eq];exact⟨l,es,h1,h2,cJ.stamps 0 (by simpa using yA)⟩
 ·rename_i L' c' UQ;simp only[bB,Prod.mk.injEq]at h;obtain⟨rfl,rfl⟩:=h;obtain⟨l,o,h1,h2,h3⟩:=hM.DI b _ (hH _ _ UQ);cases h3 with|mapD _ _ es clock cJ=>
  exact⟨l,es,h1,h2,cJ⟩
 ·cases h
theorem HM{s:Nat}{a:AV}:∀{L:List (Nat×AV×AV)} {es:List MapEntry},fc ρ μ L es→M6 s L=some a→∃k v e,a=.tuple [k,v]∧es.find? (fun e=>e.born==s)=some e∧aA ρ μ k e.key∧aA ρ μ v e.val
 | [],_,_,h=>by cases h
 |(t,k,v) ::l,[],hp,h=>hp.elim
 |(t,k,v) ::l,e ::es,hp,h=>by
  obtain⟨h0,h1,h2,h3⟩:=hp;simp only[M6,beqN_eq]at h;by_cases hts:t=s
  ·subst hts;simp only[decide_true,cond_true,bB]at h;exact⟨k,v,e,h.symm,by simp[h0],h1,h2⟩
  ·simp only[hts,decide_false,cond_false]at h;obtain⟨k',v',e',q1,q2,q3⟩:=HM h3 h;refine⟨k',v',e',q1,?_,q3⟩;have:(e.born==s)=false:=by rw[h0];simpa using hts
   simp[List.find?_cons,this,q2]
theorem Ks:∀{l:List Nat} {s:Nat},JQ l=some s→l.getLast?=some s
 | [],_,h=>by cases h
 | [x],s,h=>by simpa[JQ]using h
 |x ::y ::l,s,h=>by have:=Ks (l:=y ::l) (s:=s) (by simpa[JQ]using h);simpa using this
set_option maxHeartbeats 2000000 in
theorem Dp(hM:aL P ρ w0 μ G nx w)(hH:HSub H G)(ho:cD ρ orc){o:Oper}{op:Aw}(hp:eZ P nt o=some op)
  (hE:qn P ρ μ nt o.op.operands.toList tm ev) {a:AV} (hl:lightOp orc op tm H=some a) :
  ∃v,(Go.execOp ev o).run P w=.ok (.value v) w∧aA ρ μ a v:=by
 obtain⟨dst,qz,ty,pos,after,guard⟩:=o;cases qz with
 |move x=>obtain⟨px,hx,rfl⟩:=map_some hp;exact⟨ev x,rfl,hE x (by simp[Op.operands]) px a hx hl⟩
 |assign x=>obtain⟨px,hx,rfl⟩:=map_some hp;exact⟨ev x,rfl,hE x (by simp[Op.operands]) px a hx hl⟩
 |pick c x y=>
  simp only[eZ]at hp;split at hp
  ·rename_i pc pa pb h1 h2 h3;cases hp;simp only[lightOp]at hl;split at hl
   ·rename_i hc;have hcv:=hE c (by simp[Op.operands]) pc _ h1 hc;have hv:=hE x (by simp[Op.operands]) pa _ h2 hl;generalize HH:ev c=cc at hcv;cases hcv;exact⟨ev x,by simp[Go.execOp,HH,asBool],hv⟩
   ·rename_i hc;have hcv:=hE c (by simp[Op.operands]) pc _ h1 hc;have hv:=hE y (by simp[Op.operands]) pb _ h3 hl;generalize HH:ev c=cc at hcv;cases hcv;exact⟨ev y,by simp[Go.execOp,HH,asBool],hv⟩
   ·cases hl
  ·cases hp
 |alloc t=>
  simp only[eZ]at hp;split at hp
  ·cases hp;simp[lightOp]at hl
  ·cases hp
 |box t x=>obtain⟨px,hx,rfl⟩:=map_some hp;simp[lightOp]at hl
 |build t parts=>
  have jM:∀y∈parts.toList.map (·.2),y∈(Op.build t parts).operands.toList:=by intro y hy;simpa[Op.operands]using hy
  simp only[eZ]at hp;split at hp
  ·rename_i ti fs Mp hu;obtain⟨i,d,z,hi,hd,hz,IT,oq,ER⟩:=gk Mp;split at hp
   ·rename_i pl nH;split at hp
    ·rename_i ps ZT;cases hp;simp only[lightOp]at hl;split at hl
     ·rename_i cs ud;cases hl;have OP:ao ρ μ ti.zero.cells z.cells.toList:=(eD ot z ti.zero IT).cells;obtain⟨Rt,hf,hr⟩:=sM (vs:=z.cells) ZT ud (hE.sub jM) OP;have uJ:∀(l:List Field) (r:List (Nat×Nat)),nG P l=some r→(l.mapM fun f=>(do pure (f.offset,←sizeOf f.type):Sem (Nat×Nat))).run P w=.ok r w:=by
       intro l
       induction l with
       |nil=>intro r hr;simp only[nG,bB]at hr;subst hr;rfl
       |cons f l ih=>
        intro r hr;simp only[nG]at hr;split at hr
        ·rename_i i' r' Gs Ru;cases hr;rw[List.mapM_cons];simp only[kb,aQ Gs,gC,nJ,ih r' Ru]
        ·cases hr
      refine⟨.agg Rt,?_,.agg _ _ hr⟩;simp only[Go.execOp];refine bR ?_;have hm:(fs.mapM fun f=>(do pure (f.offset,←sizeOf f.type):Sem (Nat×Nat))).run P w=.ok pl.toArray w:=by rw[Array.mapM_eq_mapM_toList,Sem.run_map,uJ _ _ nH];rfl
      simp only[Instr.build,kb,kR hi hz,gC,aa hu]
      erw [hm]
      simp only[gC];have X8:(fun x:Nat=>pl.toArray[x]?)=(fun x:Nat=>pl[x]?):=by funext x;simp
      have OQ:(parts.map fun(i,x)=>(i,ev x)).toList=parts.toList.map fun(i,x)=>(i,ev x):=by simp
      rw[X8,OQ,hf];rfl
     ·cases hl
    ·cases hp
   ·cases hp
  ·rename_i ti n e Mp hu;obtain⟨i,d,z,hi,hd,hz,IT,oq,ER⟩:=gk Mp;split at hp
   ·rename_i ie Eb;split at hp
    ·rename_i ps ZT;cases hp;simp only[lightOp]at hl;split at hl
     ·rename_i cs ud;cases hl;have OP:ao ρ μ ti.zero.cells z.cells.toList:=(eD ot z ti.zero IT).cells;obtain⟨Rt,hf,hr⟩:=sM (vs:=z.cells) ZT ud (hE.sub jM) OP;refine⟨.agg Rt,?_,.agg _ _ hr⟩;simp only[Go.execOp];refine bR ?_;simp only[Instr.build,kb,kR hi hz,gC,aa hu,aQ Eb];have OQ:(parts.map fun(i,x)=>(i,ev x)).toList=parts.toList.map fun(i,x)=>(i,ev x):=by simp
      rw[OQ,hf];rfl
     ·cases hl
    ·cases hp
   ·cases hp
  ·cases hp
 |buildSlice t len parts=>
  simp only[eZ]at hp;split at hp
  ·split at hp
   ·replace hp:=aB hp;obtain⟨_,hp⟩:=hp;split at hp
    ·cases hp;simp[lightOp]at hl
    ·cases hp
   ·cases hp
  ·cases hp
 |insert t m k v=>
  simp only[eZ]at hp;split at hp
  ·split at hp
   ·cases hp;simp[lightOp]at hl
   ·cases hp;simp[lightOp]at hl
   ·split at hp
    ·cases hp;simp[lightOp]at hl
    ·cases hp
   ·split at hp
    ·cases hp;simp[lightOp]at hl
    ·cases hp
   ·cases hp
  ·cases hp
 |load t x=>
  simp only[eZ]at hp;split at hp
  ·rename_i ti px Mp hx;obtain⟨i,d,z,hi,hd,hz,IT,oq,ER⟩:=gk Mp;cases hp;simp only[lightOp]at hl;split at hl
   ·rename_i b off hb;have hv:=hE x (by simp[Op.operands]) px _ hx hb;simp only[loadB]at hl;split at hl
    ·rename_i L k hL;generalize fu:ev x=xx at hv;cases hv with|ptr _ _ l ad hm ja=>
     rw[ER,oq]at hl;obtain⟨v,hv,hr⟩:=zF hM (hH _ _ hL) hi hd hl hm;refine⟨v,?_,hr⟩;subst ja;simp only[Go.execOp];refine bR ?_;simp only[fu,Instr.loadAt,Instr.sureAddr,kb,nJ,gC,hv]
    ·cases hl
   ·rename_i l hb;have hv:=hE x (by simp[Op.operands]) px _ hx hb;generalize fu:ev x=xx at hv;cases hv with|cref _ c o ad vs hr ja hf=>
    subst ja;rw[ER,oq]at hl;obtain⟨v,hv,hr⟩:=LR hM hr hf hi hd hl;refine⟨v,?_,hr⟩;simp only[Go.execOp];refine bR ?_;simp only[fu,Instr.loadAt,Instr.sureAddr,kb,nJ,gC,hv]
   ·cases hl
  ·cases hp
 |store t x v=>
  simp only[eZ]at hp;split at hp
  ·cases hp;simp[lightOp]at hl
  ·cases hp
 |ready g=>simp[eZ]at hp
 |waits g=>simp[eZ]at hp
 |nilCheck x=>
  obtain⟨px,hx,rfl⟩:=map_some hp;simp only[lightOp]at hl;split at hl
  all_goals first|(cases hl;done)|skip
  all_goals rename_i hb
  all_goals (cases hl;have hv:=hE x (by simp[Op.operands]) px _ hx hb;refine⟨ev x,?_,hv⟩;generalize fu:ev x=xx at hv;cases hv;simp[Go.execOp,fu])
 |binOp bop t x y yt=>
  simp only[eZ]at hp;split at hp
  ·rename_i pa pb h1 h2;have adB:some (Aw.bin bop pa pb)=some op→∃v,(Go.execOp ev ⟨dst,.binOp bop t x y yt,ty,pos,after,guard⟩).run P w=.ok (.value v) w∧aA ρ μ a v:=by intro hp;cases hp;obtain⟨va,vb,ha,hb,hl⟩:=ZS hl;have ZU:=hE x (by simp[Op.operands]) pa _ h1 ha;have hvb:=hE y (by simp[Op.operands]) pb _ h2 hb;obtain⟨v,hv,hr⟩:=OS (P:=P) (w:=w) (t:=t) (X:=x) (Y:=y) ho ZU hvb hl;exact⟨v,bR hv,hr⟩
   have heq:∀(neg:Bool) (p:ql),bop=(if neg then .neq else .eql)→tz P t p→p≠.int→p≠.str→((∃l,p=.parts l)→P.eqGuardType P.depth t=false)→(p=.iface→gj x=true∨gj y=true)→
     op=.eq neg p pa pb→∃v,(Go.execOp ev ⟨dst,.binOp bop t x y yt,ty,pos,after,guard⟩).run P w=.ok (.value v) w∧aA ρ μ a v:=by
    intro neg p hb iR hi hs hg hc e;subst e;simp only[lightOp]at hl;split at hl
    ·rename_i va vb ha nI;split at hl
     ·rename_i r hr;cases hl;have ZU:=hE x (by simp[Op.operands]) pa _ h1 ha;have hvb:=hE y (by simp[Op.operands]) pb _ h2 nI;exact⟨_,bR (Qy (P:=P) (w:=w) (X:=x) (Y:=y) ho hb iR hi hs ZU hvb hr hg hc),.bool _⟩
     ·cases hl
    ·cases hl
   split at hp
   ·exact adB hp
   ·exact adB hp
   ·rename_i ms hu;replace hp:=aB hp;obtain⟨hc,hp⟩:=hp;have Nb:gj x=true∨gj y=true:=by simpa using hc
    split at hp
    ·simp only[bB]at hp;exact heq false .iface rfl ⟨_,hu⟩ (by simp) (by simp) (by simp) (fun _=>Nb) hp.symm
    ·simp only[bB]at hp;exact heq true .iface rfl ⟨_,hu⟩ (by simp) (by simp) (by simp) (fun _=>Nb) hp.symm
    ·cases hp
   ·rename_i fs hu;cases JU:P.eqGuardType P.depth t with
    |true=>rw[JU]at hp;cases hp
    |false=>
     rw[JU]at hp;simp only[cond_false]at hp;have Kt:∀q,He P 100 t=some q→q≠.int∧q≠.str∧q≠.iface:=by
      intro q hq;have hk:=l6 hq;refine⟨?_,?_,?_⟩
      ·rintro rfl;obtain⟨k,hk⟩:=hk;rw[hu]at hk;cases hk
      ·rintro rfl;have hk:P.underlying t=some .string:=hk;rw[hu]at hk;cases hk
      ·rintro rfl;obtain⟨k,hk⟩:=hk;rw[hu]at hk;cases hk
     split at hp
     ·rename_i q hq;simp only[bB]at hp;obtain⟨n1,n2,n3⟩:=Kt q hq;exact heq false q rfl (l6 hq) n1 n2 (fun _=>JU) (fun e=>absurd e n3) hp.symm
     ·rename_i q hq;simp only[bB]at hp;obtain⟨n1,n2,n3⟩:=Kt q hq;exact heq true q rfl (l6 hq) n1 n2 (fun _=>JU) (fun e=>absurd e n3) hp.symm
     ·cases hp
   ·rename_i anX anY hu;cases JU:P.eqGuardType P.depth t with
    |true=>rw[JU]at hp;cases hp
    |false=>
     rw[JU]at hp;simp only[cond_false]at hp;have Kt:∀q,He P 100 t=some q→q≠.int∧q≠.str∧q≠.iface:=by
      intro q hq;have hk:=l6 hq;refine⟨?_,?_,?_⟩
      ·rintro rfl;obtain⟨k,hk⟩:=hk;rw[hu]at hk;cases hk
      ·rintro rfl;have hk:P.underlying t=some .string:=hk;rw[hu]at hk;cases hk
      ·rintro rfl;obtain⟨k,hk⟩:=hk;rw[hu]at hk;cases hk
     split at hp
     ·rename_i q hq;simp only[bB]at hp;obtain⟨n1,n2,n3⟩:=Kt q hq;exact heq false q rfl (l6 hq) n1 n2 (fun _=>JU) (fun e=>absurd e n3) hp.symm
     ·rename_i q hq;simp only[bB]at hp;obtain⟨n1,n2,n3⟩:=Kt q hq;exact heq true q rfl (l6 hq) n1 n2 (fun _=>JU) (fun e=>absurd e n3) hp.symm
     ·cases hp
   ·rename_i d Ol Gl hn3 hn4 hn5 hu;have Kt:∀q,He P 100 t=some q→q≠.iface:=by intro q hq;have hk:=l6 hq;rintro rfl;obtain⟨k,hk⟩:=hk;rw[hu]at hk;cases hk;exact absurd rfl (hn3 _)
    split at hp
    ·rename_i q hq;cases sE:H5 q with
     |true=>rw[sE]at hp;cases hp
     |false=>rw[sE]at hp;simp only[cond_false,bB]at hp;exact heq false q rfl (l6 hq) (by rintro rfl;cases sE) (by rintro rfl;cases sE) (by rintro⟨l,rfl⟩;cases sE) (fun e=>absurd e (Kt q hq)) hp.symm
    ·rename_i q hq;cases sE:H5 q with
     |true=>rw[sE]at hp;cases hp
     |false=>rw[sE]at hp;simp only[cond_false,bB]at hp;exact heq true q rfl (l6 hq) (by rintro rfl;cases sE) (by rintro rfl;cases sE) (by rintro⟨l,rfl⟩;cases sE) (fun e=>absurd e (Kt q hq)) hp.symm
    ·cases hp
   ·cases hp
  ·cases hp
 |unOp uop t x=>
  obtain⟨px,hx,rfl⟩:=map_some hp;simp only[lightOp]at hl;split at hl
  ·rename_i b hb;cases hl;have hv:=hE x (by simp[Op.operands]) px _ hx hb;generalize fu:ev x=xx at hv;cases hv;exact⟨_,by simp[Go.execOp,fu,Op.unary],.bool _⟩
  ·rename_i k s hb;split at hl
   ·rename_i r hr;cases hl;have hv:=hE x (by simp[Op.operands]) px _ hx hb;generalize fu:ev x=xx at hv;cases hv with|int _ _ n hn=>
    have:=Dr (ρ:=ρ) (P:=P) (w:=w) 0 hr;rw[hn]at this;refine⟨_,?_,.int _ _ _ rfl⟩;simp only[Go.execOp];refine bR ?_;simp only[fu,Op.unary];simpa[Go.binOp,SI.den]using this
   ·cases hl
  ·cases hl
 |convert src dst x=>
  simp only[eZ]at hp;split at hp
  ·rename_i px k0 k hx hs hd;cases hp;simp only[lightOp]at hl;split at hl
   ·rename_i k1 n hb;cases hl;have hv:=hE x (by simp[Op.operands]) px _ hx hb;generalize fu:ev x=xx at hv;cases hv with|int _ _ n' hn=>
    refine⟨.int k (k.wrap n'),?_,.int _ _ _ (by rw[←hn];simp only[SI.den,dV])⟩;simp only[Go.execOp];refine bR ?_;simp[fu,Go.convert,aa hs,aa hd,Conv.intToInt]
   ·cases hl
  ·rename_i px hx hs hd;cases hp;simp only[lightOp]at hl;split at hl
   ·rename_i n c hb;cases hl;have hv:=hE x (by simp[Op.operands]) px _ hx hb;refine⟨ev x,?_,hv⟩;generalize fu:ev x=xx at hv;cases hv;simp only[Go.execOp];refine bR ?_;simp[fu,Go.convert,aa hs,aa hd]
   ·cases hl
  ·rename_i px e hx hs hd;split at hp
   ·rename_i hu;cases hp;simp only[lightOp]at hl;split at hl
    ·rename_i hb;cases hl;have hv:=hE x (by simp[Op.operands]) px _ hx hb;generalize fu:ev x=xx at hv;cases hv;refine⟨.string .empty,?_,.str _ _ _ rfl rfl⟩;simp only[Go.execOp];refine bR ?_;simp[fu,Go.convert,aa hs,aa hd,aa hu,Conv.bytesToString]
    ·rename_i b off len sz hb;replace hl:=aB hl;obtain⟨Mq,hl⟩:=hl;have Mq:=mo Mq;subst Mq;split at hl
     ·rename_i L k hL;rw[takeC_eq,dropL_eq]at hl;split at hl
      ·rename_i hlen;split at hl
       ·rename_i n c hof;cases hl;have hv:=hE x (by simp[Op.operands]) px _ hx hb;generalize fu:ev x=xx at hv;cases hv with|slice _ _ _ _ cap l ad hm qZ hle ja=>
        obtain⟨l',arr,elem,fz,h1,h2,hc,hs',xQ,_⟩:=hM.cells (hH _ _ hL);rw[hm]at h1;cases h1;have Fh:len=0∨off+len≤L.length:=by simp at hlen;omega
        have yj:(loadCells ad len).run P w=.ok ((arr.toList.drop (l.base+off)).take len).toArray w:=by
         by_cases h0:len=0
         ·subst h0;simp[loadCells,loadCellsFrom]
         ·have ja:ad=⟨l.c,l.base+off,none⟩:=ja.resolve_left (by omega);subst ja;exact gD P w l.c (l.base+off) arr elem fz h2 len (by omega)
        have qt:ao ρ μ ((L.drop off).take len) ((arr.toList.drop (l.base+off)).take len):=by
         by_cases h0:len=0
         ·subst h0;simp;exact .nil
         ·exact qC hc (by omega) (by omega)
        obtain⟨bs,e1,e2,e3⟩:=wm hof qt;have IU:((arr.toList.drop (l.base+off)).take len)=(bs.map fun b=>((b.toNat:Nat):Int)).map (Value.int .u8):=by rw[e1];simp
        rw[IU]at yj;have cR:=run_bytesToString w ad len cap (bs.map fun b=>((b.toNat:Nat):Int)) yj;refine⟨_,?_,.str _ _ (((bs.map fun b=>((b.toNat:Nat):Int)).foldl (fun r n=>r.push (UInt8.ofNat n.toNat)) ByteArray.empty)) ?_ ?_⟩
        ·simp only[Go.execOp];refine bR ?_;rw[fu,run_convert_bytes_string w src dst e (some ad) len cap hs hu hd];exact cR
        ·rw[foldl_push];simpa using e2
        ·rw[foldl_push];simpa using e3
       ·cases hl
      ·cases hl
     ·cases hl
    ·rename_i L len sz fl hb;replace hl:=aB hl;obtain⟨Mq,hl⟩:=hl;have Mq:=mo Mq;subst Mq;split at hl
     ·rename_i n c hof;cases hl;have hv:=hE x (by simp[Op.operands]) px _ hx hb;generalize fu:ev x=xx at hv;cases hv with|sl _ _ _ _ cap c' o ad vs qt hn hle ja hf hg=>
      have LD:=qt.length;have yj:(loadCells ad len).run P w=.ok vs.toArray w:=by
       by_cases h0:len=0
       ·subst h0;have:vs=[]:=H8 (by omega);subst this;simp[loadCells,loadCellsFrom]
       ·have ja:ad=⟨c',o,none⟩:=ja.resolve_left (by omega);subst ja;rw[Er hM hf (by omega),Hf (by omega)]
      obtain⟨bs,e1,e2,e3⟩:=wm hof qt;have IU:vs=(bs.map fun b=>((b.toNat:Nat):Int)).map (Value.int .u8):=by rw[e1];simp
      rw[IU]at yj;have cR:=run_bytesToString w ad len cap (bs.map fun b=>((b.toNat:Nat):Int)) yj;refine⟨_,?_,.str _ _ (((bs.map fun b=>((b.toNat:Nat):Int)).foldl (fun r n=>r.push (UInt8.ofNat n.toNat)) ByteArray.empty)) ?_ ?_⟩
      ·simp only[Go.execOp];refine bR ?_;rw[fu,run_convert_bytes_string w src dst e (some ad) len cap hs hu hd];exact cR
      ·rw[foldl_push];simpa using e2
      ·rw[foldl_push];simpa using e3
     ·cases hl
    ·cases hl
   ·cases hp
  ·split at hp
   ·cases hp;simp[lightOp]at hl
   ·cases hp
  ·cases hp
 |sliceToArrayPointer t x=>simp[eZ]at hp
 |makeInterface t x=>
  simp only[eZ]at hp;split at hp
  ·cases hp
  ·cases hp
  ·rename_i d hn hu;obtain⟨px,hx,rfl⟩:=map_some hp;simp only[lightOp]at hl;split at hl
   ·rename_i v hb;cases hl;have hv:=hE x (by simp[Op.operands]) px _ hx hb;refine⟨.iface t (ev x),?_,.iface _ _ _ hv⟩;simp only[Go.execOp];refine bR ?_;simp only[Instr.makeInterface,kb,aa hu,gC];cases d<;>first|rfl|exact absurd rfl (hn _)
   ·cases hl
 |makeFunc f first cap=>
  cases f with
  |func f=>
   simp only[eZ]at hp;split at hp
   ·rename_i pf pc h1 h2;cases hp;simp only[lightOp]at hl;split at hl
    ·rename_i la lc ha hc;cases hl;have e1:=iA (ev:=ev) h1 ha (hE.sub fun y hy=>by simp[Op.operands]at hy ⊢;exact .inl hy);have e2:=iA (ev:=ev) h2 hc (hE.sub fun y hy=>by simp[Op.operands]at hy ⊢;exact .inr hy);refine⟨.func (.func f) (first.map ev) (cap.map ev),?_,.fn _ _ _ _ _ (by simpa using e1) (by simpa using e2)⟩;simp[Go.execOp,Instr.makeFunc]
    ·cases hl
   ·cases hp
  |method n=>simp[eZ]at hp
  |methodOf t n=>simp[eZ]at hp
  |via t p f b=>simp[eZ]at hp
  |yield l=>simp[eZ]at hp
 |makeMap t r=>cases r<;>simp[eZ]at hp;subst hp;simp[lightOp]at hl
 |makeChan t s=>simp[eZ]at hp
 |makeSlice t l c=>
  simp only[eZ]at hp;split at hp
  ·split at hp
   ·split at hp
    ·replace hp:=aB hp;obtain⟨_,hp⟩:=hp;cases hp;simp[lightOp]at hl
    ·cases hp
   ·cases hp
  ·cases hp
 |slice t x lo hi mx=>
  cases mx with
  |some m=>simp[eZ]at hp
  |none=>
   have UR:∀x',lo=some x'→x'∈(Op.slice t x lo hi none).operands.toList:=by intro x' e;subst e;simp[Op.operands]
   have US:∀x',hi=some x'→x'∈(Op.slice t x lo hi none).operands.toList:=by intro x' e;subst e;simp[Op.operands]
   simp only[eZ]at hp;split at hp
   ·rename_i px plo phi hx sf hhi;split at hp
    ·rename_i hu;cases hp;simp only[lightOp]at hl;split at hl
     ·rename_i n c hb;split at hl
      ·rename_i l r QA Hs;replace hl:=aB hl;obtain⟨zB,hl⟩:=hl;cases hl;simp only[fa,Nat.ble_eq]at zB;have hv:=hE x (by simp[Op.operands]) px _ hx hb;generalize fu:ev x=xx at hv;cases hv with|str _ _ s hs hs'=>
       have oq:s.size=n:=by rw[Lib.size_eq];exact hs
       have b1:=fW sf QA hE UR;have b2:=fW hhi Hs hE US;have hb:=km (P:=P) (w:=w) (isSlice:=false) (len:=s.size) (cap:=s.size) (l:=l) (r:=r) (lo:=lo.map ev) (hi:=hi.map ev)
        (by rcases b1 with⟨e,e'⟩|⟨x',k,e,e'⟩<;>subst e<;>simp[e']) (by rcases b2 with⟨e,e'⟩|⟨x',k,e,e'⟩<;>subst e<;>simp[e',oq]) zB.1 (by omega) (cI _)
       refine⟨.string (s.extract l r),?_,.str _ _ _ ?_ ?_⟩
       ·simp only[Go.execOp];refine bR ?_;simp only[fu,Instr.sliceAt,kb,aa hu,gC,Instr.slice,Option.map_none,Option.isSome_none,Gy,if_false,hb,nJ]
       ·rw[Lib.extract_data];simp;omega
       ·rw[Lib.extract_data,Rv,Ku,hs'];show _=Nat.mod (Nat.shiftRight c (8*l)) (Nat.pow 2 (8*(r-l)));have e1:Nat.shiftRight c (8*l)=c / 2^(8*l):=Nat.shiftRight_eq_div_pow _ _;have e2:Nat.pow 2 (8*(r-l))=256^(r-l):=IV (r-l);rw[e1,e2,IV];rfl
      ·cases hl
     ·cases hl
    ·rename_i e hu;split at hp
     ·rename_i ie Eb;replace hp:=aB hp;obtain⟨Iz,hp⟩:=hp;cases hp;simp only[lightOp]at hl;split at hl
      ·rename_i b off len Bj hb;split at hl
       ·rename_i l r QA Hs;replace hl:=aB hl;obtain⟨zB,hl⟩:=hl;cases hl;simp only[fa,Nat.ble_eq]at zB;have FC:=mo zB.2;subst FC;have hv:=hE x (by simp[Op.operands]) px _ hx hb;generalize fu:ev x=xx at hv;cases hv with|slice _ _ _ _ cap lc ad hm qZ hlen ja=>
        have b1:=fW sf QA hE UR;have b2:=fW hhi Hs hE US;have hb:=km (P:=P) (w:=w) (isSlice:=true) (len:=len) (cap:=cap) (l:=l) (r:=r) (lo:=lo.map ev) (hi:=hi.map ev)
         (by rcases b1 with⟨e,e'⟩|⟨x',k,e,e'⟩<;>subst e<;>simp[e']) (by rcases b2 with⟨e,e'⟩|⟨x',k,e,e'⟩<;>subst e<;>simp[e']) zB.1.1 zB.1.2 hlen
        have hcl:l≤cap:=by omega
        refine⟨.slice (if cap=l then some ad else some (ad.add (l*ie.size))) (r-l) (cap-l),?_,?_⟩
        ·simp only[Go.execOp];refine bR ?_;simp only[fu,Instr.sliceAt,kb,aa hu,gC,Instr.slice,Option.map_none,hb,aQ Eb,nJ,Option.map_some]
        ·have PU:off+l*ie.size+(cap-l)*ie.size=lc.ext:=by rw[←qZ,Nat.add_assoc,←Nat.add_mul];congr 2;omega
         by_cases he:cap=l
         ·rw[if_pos he];exact .slice b _ _ _ _ lc ad hm PU (by omega) (.inl (by omega))
         ·rw[if_neg he];refine .slice b _ _ _ _ lc _ hm PU (by omega) (.inr ?_);rcases ja with h0|h0
          ·omega
          ·subst h0;rw[lS];simp[Nat.add_assoc]
       ·cases hl
      ·rename_i hb;split at hl
       ·rename_i l r QA Hs;replace hl:=aB hl;obtain⟨zB,hl⟩:=hl;cases hl;simp only[fa]at zB;have h0:=mo zB.1;have h1:=mo zB.2;subst h0 h1;have hv:=hE x (by simp[Op.operands]) px _ hx hb;generalize fu:ev x=xx at hv;cases hv;have b1:=fW sf QA hE UR;have b2:=fW hhi Hs hE US;have hb:=km (P:=P) (w:=w) (isSlice:=true) (len:=0) (cap:=0) (l:=0) (r:=0) (lo:=lo.map ev) (hi:=hi.map ev)
         (by rcases b1 with⟨e,e'⟩|⟨x',k,e,e'⟩<;>subst e<;>simp[e']) (by rcases b2 with⟨e,e'⟩|⟨x',k,e,e'⟩<;>subst e<;>simp[e']) (cI _) (cI _) (cI _)
        refine⟨.slice none 0 0,?_,.nils⟩;simp only[Go.execOp];refine bR ?_;simp only[fu,Instr.sliceAt,kb,aa hu,gC,Instr.slice,Option.map_none,hb,aQ Eb,nJ,if_true]
       ·cases hl
      ·rename_i L len Bj fl hb;split at hl
       ·rename_i l r QA Hs;replace hl:=aB hl;obtain⟨zB,hl⟩:=hl;simp only[fa,Nat.ble_eq]at zB;have FC:=mo zB.2;subst FC;rw[takeC_eq,dropL_eq]at hl;split at hl
        ·rename_i Ju;cases hl;have hv:=hE x (by simp[Op.operands]) px _ hx hb;generalize fu:ev x=xx at hv;cases hv with|sl _ _ _ _ cap c o ad vs qt hn hle ja hf hg=>
         have b1:=fW sf QA hE UR;have b2:=fW hhi Hs hE US;have hb:=km (P:=P) (w:=w) (isSlice:=true) (len:=len) (cap:=cap) (l:=l) (r:=r) (lo:=lo.map ev) (hi:=hi.map ev)
          (by rcases b1 with⟨e,e'⟩|⟨x',k,e,e'⟩<;>subst e<;>simp[e']) (by rcases b2 with⟨e,e'⟩|⟨x',k,e,e'⟩<;>subst e<;>simp[e']) zB.1.1 zB.1.2 hle
         refine⟨.slice (if cap=l then some ad else some (ad.add (l*ie.size))) (r-l) (cap-l),?_,?_⟩
         ·simp only[Go.execOp];refine bR ?_;simp only[fu,Instr.sliceAt,kb,aa hu,gC,Instr.slice,Option.map_none,hb,aQ Eb,nJ,Option.map_some]
         ·have Qb:((L.drop (l*ie.size)).take ((r-l)*ie.size)).length=(r-l)*ie.size:=by rw[LF];omega
          have sE:Ff μ c (o+l*ie.size) (r-l) (cap-l) ie.size (bif Nat.beq r len then fl else .any):=by
           cases Et:Nat.beq r len with
           |false=>trivial
           |true=>
            have Et:=mo Et;subst Et;cases fl with
            |any=>trivial
            |tok tb=>
             have hg:μ tb=some ⟨c,o+r*ie.size,(cap-r)*ie.size⟩:=hg;show μ tb=some ⟨c,o+l*ie.size+(r-l)*ie.size,(cap-l-(r-l))*ie.size⟩;rw[hg];have e1:o+r*ie.size=o+l*ie.size+(r-l)*ie.size:=by rw[Nat.add_assoc,←Nat.add_mul];congr 2;omega
             have e2:cap-r=cap-l-(r-l):=by omega
             rw[e1,e2]
          by_cases he:cap=l
          ·rw[if_pos he];exact .sl _ _ _ _ _ c (o+l*ie.size) ad _ ((qt.drop _).take _) Qb (by omega) (.inl (by omega)) (Ii (xR hf _) _) sE
          ·rw[if_neg he];refine .sl _ _ _ _ _ c (o+l*ie.size) _ _ ((qt.drop _).take _) Qb (by omega) (.inr ?_) (Ii (xR hf _) _) sE;rcases ja with h0|h0
           ·omega
           ·subst h0;rw[lS]
        ·cases hl
       ·cases hl
      ·cases hl
     ·cases hp
    ·cases hp
   ·cases hp
 |fieldAddr s x f=>
  simp only[eZ]at hp;split at hp
  ·rename_i fs hu;split at hp
   ·rename_i fd ID;split at hp
    ·rename_i i px hi hx;cases hz:Nat.beq i.size 0 with
     |true=>rw[hz]at hp;cases hp
     |false=>
      rw[hz]at hp;simp only[cond_false,bB]at hp;subst hp;have oq:i.size≠0:=by intro e;rw[e]at hz;cases hz
      simp only[lightOp]at hl;split at hl
      ·rename_i b o hb;cases hl;have hv:=hE x (by simp[Op.operands]) px _ hx hb;generalize fu:ev x=xx at hv;cases hv with|ptr _ _ l ad hm ja=>
       subst ja;refine⟨.pointer (some ⟨l.c,l.base+(o+fd.offset),none⟩),?_,.ptr _ _ l _ hm rfl⟩;simp only[Go.execOp];refine bR ?_;simp only[fu,Instr.fieldAt,kb,aa hu,gC,ID,Instr.sureAddr,nJ,fieldPlace,aQ hi,Sem.run_ite,oq,if_false,lS,Nat.add_assoc]
      ·rename_i l hb;cases hl;have hv:=hE x (by simp[Op.operands]) px _ hx hb;generalize fu:ev x=xx at hv;cases hv with|cref _ c o ad vs hr ja hf=>
       subst ja;rw[dropL_eq];refine⟨.pointer (some ⟨c,o+fd.offset,none⟩),?_,.cref _ c (o+fd.offset) _ _ (hr.drop _) rfl (xR hf _)⟩;simp only[Go.execOp];refine bR ?_;simp only[fu,Instr.fieldAt,kb,aa hu,gC,ID,Instr.sureAddr,nJ,fieldPlace,aQ hi,Sem.run_ite,oq,if_false,lS]
      ·cases hl
    ·cases hp
   ·cases hp
  ·cases hp
 |field t x f=>
  simp only[eZ]at hp;split at hp
  ·rename_i fs hu;split at hp
   ·rename_i fd ID;split at hp
    ·rename_i ti px Mp hx;obtain⟨i,d,z,hi,hd,hz,IT,oq,ER⟩:=gk Mp;cases hp;simp only[lightOp]at hl;split at hl
     ·rename_i L hb;have hv:=hE x (by simp[Op.operands]) px _ hx hb;generalize fu:ev x=xx at hv;cases hv with|agg _ vs hL=>
      rw[ER,oq]at hl;obtain⟨v,hv,hr⟩:=ES (P:=P) (w:=w) hi hd hL hl;refine⟨v,?_,hr⟩;simp only[Go.execOp];refine bR ?_;simp only[fu,Instr.field,kb,aa hu,gC,ID,asAgg,nJ,hv]
     ·cases hl
    ·cases hp
   ·cases hp
  ·cases hp
 |indexAddr t x ix=>
  simp only[eZ]at hp;split at hp
  ·rename_i len e px pi hu hx Gs;split at hp
   ·rename_i ie Eb;replace hp:=aB hp;obtain⟨Iz,hp⟩:=hp;cases hp;simp only[lightOp]at hl;split at hl
    ·rename_i b o vi hb Hg;split at hl
     ·rename_i j hj;replace hl:=aB hl;obtain⟨bF,hl⟩:=hl;cases hl;rw[bltN_eq,decide_eq_true_eq]at bF;have hv:=hE x (by simp[Op.operands]) px _ hx hb;obtain⟨k,hk⟩:=eW hj (hE ix (by simp[Op.operands]) pi _ Gs Hg);generalize fu:ev x=xx at hv;cases hv with|ptr _ _ l ad hm ja=>
      subst ja;refine⟨.pointer (some ⟨l.c,l.base+(o+j*ie.size),none⟩),?_,.ptr _ _ l _ hm rfl⟩;simp only[Go.execOp];refine bR ?_;have hr:(0:Int)≤(j:Int)∧(j:Int)<(len:Int):=by omega
      simp only[fu,hk,Instr.indexAt,asIntOf,kb,aa hu,gC,Instr.sureAddr,nJ,hr,and_self,if_true,aQ Eb,lS,Int.toNat_natCast,Nat.add_assoc]
     ·cases hl
    ·rename_i L vi hb Hg;split at hl
     ·rename_i j hj;replace hl:=aB hl;obtain⟨bF,hl⟩:=hl;cases hl;rw[bltN_eq,decide_eq_true_eq]at bF;have hv:=hE x (by simp[Op.operands]) px _ hx hb;obtain⟨k,hk⟩:=eW hj (hE ix (by simp[Op.operands]) pi _ Gs Hg);generalize fu:ev x=xx at hv;cases hv with|cref _ c o ad vs qt ja hf=>
      subst ja;rw[dropL_eq];refine⟨.pointer (some ⟨c,o+j*ie.size,none⟩),?_,.cref _ c (o+j*ie.size) _ _ (qt.drop _) rfl (xR hf _)⟩;simp only[Go.execOp];refine bR ?_;have hr:(0:Int)≤(j:Int)∧(j:Int)<(len:Int):=by omega
      simp only[fu,hk,Instr.indexAt,asIntOf,kb,aa hu,gC,Instr.sureAddr,nJ,hr,and_self,if_true,aQ Eb,lS,Int.toNat_natCast]
     ·cases hl
    ·cases hl
   ·cases hp
  ·rename_i e px pi hu hx Gs;split at hp
   ·rename_i ie Eb;replace hp:=aB hp;obtain⟨Iz,hp⟩:=hp;cases hp;simp only[lightOp]at hl;split at hl
    ·rename_i b off len Bj vi hb Hg;split at hl
     ·rename_i j hj;replace hl:=aB hl;obtain⟨bF,hl⟩:=hl;cases hl;simp only[fa]at bF;have FC:=mo bF.2;subst FC;have bF:=bF.1;rw[bltN_eq,decide_eq_true_eq]at bF;have hv:=hE x (by simp[Op.operands]) px _ hx hb;obtain⟨k,hk⟩:=eW hj (hE ix (by simp[Op.operands]) pi _ Gs Hg);generalize fu:ev x=xx at hv;cases hv with|slice _ _ _ _ cap l ad hm qZ hlen ja=>
      have ja:ad=⟨l.c,l.base+off,none⟩:=ja.resolve_left (by omega);subst ja;refine⟨.pointer (some ⟨l.c,l.base+(off+j*ie.size),none⟩),?_,.ptr _ _ l _ hm rfl⟩;simp only[Go.execOp];refine bR ?_;have hr:(0:Int)≤(j:Int)∧(j:Int)<(len:Int):=by omega
      simp only[fu,hk,Instr.indexAt,asIntOf,kb,aa hu,gC,nJ,hr,and_self,if_true,aQ Eb,lS,Int.toNat_natCast,Nat.add_assoc]
     ·cases hl
    ·rename_i L len Bj fl vi hb Hg;split at hl
     ·rename_i j hj;replace hl:=aB hl;obtain⟨bF,hl⟩:=hl;simp only[fa]at bF;have FC:=mo bF.2;subst FC;have bF:=bF.1;rw[bltN_eq,decide_eq_true_eq]at bF;rw[takeC_eq,dropL_eq]at hl;split at hl
      ·rename_i Ju;cases hl;have hv:=hE x (by simp[Op.operands]) px _ hx hb;obtain⟨k,hk⟩:=eW hj (hE ix (by simp[Op.operands]) pi _ Gs Hg);generalize fu:ev x=xx at hv;cases hv with|sl _ _ _ _ cap c o ad vs qt hn hle ja hf hg=>
       have ja:ad=⟨c,o,none⟩:=ja.resolve_left (by omega);subst ja;refine⟨.pointer (some ⟨c,o+j*ie.size,none⟩),?_,.cref _ c (o+j*ie.size) _ _ ((qt.drop _).take _) rfl (Ii (xR hf _) _)⟩;simp only[Go.execOp];refine bR ?_;have hr:(0:Int)≤(j:Int)∧(j:Int)<(len:Int):=by omega
       simp only[fu,hk,Instr.indexAt,asIntOf,kb,aa hu,gC,nJ,hr,and_self,if_true,aQ Eb,lS,Int.toNat_natCast]
      ·cases hl
     ·cases hl
    ·cases hl
   ·cases hp
  ·cases hp
 |index t x ix=>
  simp only[eZ]at hp;split at hp
  ·rename_i px pi hu hx Gs;cases hp;simp only[lightOp]at hl;split at hl
   ·rename_i n c vi hb Hg;split at hl
    ·rename_i j hj;replace hl:=aB hl;obtain⟨bF,hl⟩:=hl;cases hl;rw[bltN_eq,decide_eq_true_eq]at bF;have hv:=hE x (by simp[Op.operands]) px _ hx hb;obtain⟨k,hk⟩:=eW hj (hE ix (by simp[Op.operands]) pi _ Gs Hg);generalize fu:ev x=xx at hv;cases hv with|str _ _ s hs hs'=>
     have eo:j<s.data.toList.length:=by omega
     have hjs:s[j]?=some s.data.toList[j]:=by
      have:j<s.size:=by rw[Lib.size_eq];exact eo
      rw[getElem?_pos s j this];rfl
     refine⟨.int .u8 (s.data.toList[j]).toNat,?_,.int _ _ _ ?_⟩
     ·simp only[Go.execOp];refine bR ?_;have h0:(0:Int)≤(j:Int):=by omega
      simp only[fu,hk,Instr.index,asIntOf,kb,nJ,aa hu,gC,h0,if_true,Int.toNat_natCast,hjs]
     ·simp only[SI.den];show((Nat.mod (Nat.shiftRight c (8*j)) 256:Nat):Int)=_;have e1:Nat.shiftRight c (8*j)=c / 2^(8*j):=Nat.shiftRight_eq_div_pow _ _;rw[e1,IV,←hs'];have:=UT s.data.toList j eo;show((enc s.data.toList / 256^j%256:Nat):Int)=_;rw[this]
    ·cases hl
   ·cases hl
  ·rename_i len e px pi hu hx Gs;split at hp
   ·rename_i ti Mp;obtain⟨i,d,z,hi,hd,hz,IT,oq,ER⟩:=gk Mp;cases hp;simp only[lightOp]at hl;split at hl
    ·rename_i L vi hb Hg;split at hl
     ·rename_i j hj;replace hl:=aB hl;obtain⟨bF,hl⟩:=hl;rw[bltN_eq,decide_eq_true_eq]at bF;have hv:=hE x (by simp[Op.operands]) px _ hx hb;obtain⟨k,hk⟩:=eW hj (hE ix (by simp[Op.operands]) pi _ Gs Hg);generalize fu:ev x=xx at hv;cases hv with|agg _ vs hL=>
      rw[ER,oq]at hl;obtain⟨v,hv,hr⟩:=ES (P:=P) (w:=w) hi hd hL hl;refine⟨v,?_,hr⟩;simp only[Go.execOp];refine bR ?_;have hr:(0:Int)≤(j:Int)∧(j:Int)<(len:Int):=by omega
      simp only[fu,hk,Instr.index,asIntOf,kb,nJ,aa hu,gC,hr,and_self,if_true,aQ hi,Int.toNat_natCast,hv]
     ·cases hl
    ·cases hl
   ·cases hp
  ·cases hp
 |lookup t m k ok=>
  simp only[eZ]at hp;split at hp
  ·rename_i kt e hu;have main:∀(sk:Bool) (kd:TypeDesc) (ti:TI) (pm pk:PX),wo P kt sk kd→Lo P e=some ti→pX P nt m=some pm→pX P nt k=some pk→op=.lookup sk ti.zero ok pm pk→
     ∃v,(Go.execOp ev ⟨dst,.lookup t m k ok,ty,pos,after,guard⟩).run P w=.ok (.value v) w∧aA ρ μ a v:=by
    intro sk kd ti pm pk vY Mp hm hk e';subst e';obtain⟨i,d,z,hi,hd,hz,IT,oq,ER⟩:=gk Mp;simp only[lightOp]at hl;split at hl
    ·rename_i b ka hb ZV;split at hl
     ·rename_i L hL;have hvm:=hE m (by simp[Op.operands]) pm _ hm hb;have hvk:=hE k (by simp[Op.operands]) pk _ hk ZV;generalize Gi:ev m=mm at hvm;cases hvm with|map _ l r fY hr=>
      subst hr;obtain⟨l',o',h1,h2,h3⟩:=hM.DI b _ (hH _ _ hL);rw[fY]at h1;cases h1;cases h3 with|map _ _ es clock cJ yA IS=>
      have lD:(getObj l.c).run P w=.ok (.map es clock) w:=by simp[getObj,Sem.run,h2]
      have adD:∀f,Instr.findNow kd (ev k) es.toList 0=some f→∀v okv,(match f with|some (_,v')=>v'=v∧okv=true|none=>z=v∧okv=false)→
        (Go.execOp ev ⟨dst,.lookup t m k ok,ty,pos,after,guard⟩).run P w=.ok (.value (if ok then .tuple #[v,.bool okv]else v)) w:=by
       intro f hf v okv hfv;simp only[Go.execOp];refine bR ?_;simp only[Gi,Instr.lookup,kb,aa hu,gC,lD,nJ,run_checkKey vY _ 9999,run_findKey vY.1 hf];cases f with
       |none=>obtain⟨rfl,rfl⟩:=hfv;simp[kR hi hz]
       |some p=>obtain⟨j,v'⟩:=p;obtain⟨rfl,rfl⟩:=hfv;simp
      split at hl
      ·rename_i v hf;obtain⟨f,Lr,Jl⟩:=yB ho vY hvk 0 cJ hf;cases f with
       |none=>exact Jl.elim
       |some p=>
        obtain⟨j,v'⟩:=p;have:=adD _ Lr v' true ⟨rfl,rfl⟩;cases hl;refine⟨_,this,?_⟩;cases ok with
        |true=>exact .tuple _ _ (.cons _ _ _ _ Jl (.one (.bool _)))
        |false=>exact Jl
      ·rename_i hf;obtain⟨f,Lr,Jl⟩:=yB ho vY hvk 0 cJ hf;cases f with
       |some p=>exact Jl.elim
       |none=>
        have:=adD _ Lr z false ⟨rfl,rfl⟩;cases hl;refine⟨_,this,?_⟩;cases ok with
        |true=>exact .tuple _ _ (.cons _ _ _ _ (eD ot z ti.zero IT) (.one (.bool _)))
        |false=>exact eD ot z ti.zero IT
      ·cases hl
     ·cases hl
    ·cases hl
   split at hp
   ·simp only[bB]at hp;exact main false _ _ _ _ ⟨‹_›,by simp⟩ ‹_› ‹_› ‹_› hp.symm
   ·simp only[bB]at hp;exact main true _ _ _ _ ⟨‹_›,by simp⟩ ‹_› ‹_› ‹_› hp.symm
   ·cases hp
  ·cases hp
 |mapUpdate t m k v=>
  simp only[eZ]at hp;split at hp
  ·split at hp
   ·cases hp;simp[lightOp]at hl
   ·cases hp;simp[lightOp]at hl
   ·split at hp
    ·cases hp;simp[lightOp]at hl
    ·cases hp
   ·split at hp
    ·cases hp;simp[lightOp]at hl
    ·cases hp
   ·cases hp
  ·cases hp
 |mapEntry t m k=>simp[eZ]at hp
 |entryStore t m k v=>simp[eZ]at hp
 |range t x=>
  simp only[eZ]at hp;split at hp
  ·obtain⟨px,hx,rfl⟩:=map_some hp;simp[lightOp]at hl
  ·cases hp
 |next it s=>
  cases s
  ·obtain⟨px,hx,rfl⟩:=map_some hp;simp[lightOp]at hl
  ·simp[eZ]at hp
 |entry it=>
  obtain⟨px,hx,rfl⟩:=map_some hp;simp only[lightOp]at hl;split at hl
  ·rename_i b hb;split at hl
   ·rename_i m n seen hit;split at hl
    ·rename_i L c s dH hls;replace hl:=aB hl;obtain⟨MU,hl⟩:=hl;have MU:=mo MU;subst MU;have hv:=hE it (by simp[Op.operands]) px _ hx hb;generalize fu:ev it=xx at hv;cases hv with|ptr _ _ l ad fY ha=>
     subst ha;obtain⟨l',o',h1,h2,h3⟩:=hM.DI b _ (hH _ _ hit);rw[fY]at h1;cases h1;cases h3 with|iter _ _ _ _ lm sa Gi LO hzero=>
     obtain⟨l2,es,k1,k2,cJ⟩:=Mo hM hH dH;rw[Gi]at k1;cases k1;subst LO;obtain⟨k,v,e,rfl,q1,q2,q3⟩:=HM cJ hl;have adE:sa.back?=some s:=by rw[←Array.getLast?_toList];exact Ks hls
     have adF:es.find? (·.born==s)=some e:=by rw[←Array.find?_toList];exact q1
     refine⟨.tuple #[e.key,e.val],?_,.tuple _ _ (.cons _ _ _ _ q2 (.one q3))⟩;simp only[Go.execOp];refine bR ?_;have g1:(getObj l.c).run P w=.ok (.mapIter (some lm.c) c sa c) w:=by simp[getObj,Sem.run,h2]
     have g2:(getObj lm.c).run P w=.ok (.map es c) w:=by simp[getObj,Sem.run,k2]
     have VT:l.base+0=0:=by rw[hzero]
     simp[fu,VT,Instr.entry,g1,g2,adE,adF]
    ·cases hl
   ·cases hl
  ·cases hl
 |typeAssert x xt t ok=>
  simp only[eZ]at hp;split at hp
  ·cases hp
  ·rename_i d ti px hn hu Mp hx;obtain⟨i,d',z,hi,hd,hz,IT,oq,ER⟩:=gk Mp;cases hp;simp only[lightOp]at hl;split at hl
   ·rename_i t' u hb;have hv:=hE x (by simp[Op.operands]) px _ hx hb;generalize fu:ev x=xx at hv;cases hv with|iface _ _ vv hvv=>
    have cR : ∀ r, (if t' = t then (pure (if ok then .tuple #[vv, .bool true] else vv) : Sem Value) else (if ok then do pure (.tuple #[← zeroValue t, .bool false]) else runtimePanic (.typeAssertion (some xt) (some t') t ""))).run P w = .ok r w →
      (Go.execOp ev ⟨dst,.typeAssert x xt t ok,ty,pos,after,guard⟩).run P w=.ok (.value r) w:=by
     intro r hr;simp only[Go.execOp];refine bR ?_;simp only[fu,Instr.typeAssert,kb,aa hu,gC];cases d<;>first|exact absurd rfl (hn _ _ _)|exact hr
    cases ok with
    |true=>
     simp only[cond_true]at hl;cases ht:Nat.beq t t' with
     |true=>rw[ht]at hl;simp only[cond_true,bB]at hl;subst hl;have:=mo ht;subst this;exact⟨_,cR _ (by simp),.tuple _ _ (.cons _ _ _ _ hvv (.one (.bool _)))⟩
     |false=>
      rw[ht]at hl;simp only[cond_false,bB]at hl;subst hl;have cL:¬t'=t:=by intro e;subst e;simp[beqN_eq]at ht
      exact⟨_,cR (.tuple #[z,.bool false]) (by simp[cL,kR hi hz]),.tuple _ _ (.cons _ _ _ _ (eD ot z ti.zero IT) (.one (.bool _)))⟩
    |false=>simp only[cond_false]at hl;replace hl:=aB hl;obtain⟨ht,hl⟩:=hl;cases hl;have:=mo ht;subst this;exact⟨_,cR _ (by simp),hvv⟩
   ·cases hl
  ·cases hp
 |extract x i=>
  simp only[eZ]at hp;split at hp
  ·rename_i px hx;cases hp;simp only[lightOp]at hl;split at hl
   ·rename_i L hb;have hv:=hE x (by simp[Op.operands]) px _ hx hb;generalize fu:ev x=xx at hv;cases hv with|tuple _ vs hL=>
    rw[nth_eq]at hl;obtain⟨v,hv,hr⟩:=hL.get i a hl;have hvi:vs[i]?=some v:=by simpa using hv
    exact⟨v,by simp[Go.execOp,fu,Instr.extract,hvi],hr⟩
   ·cases hl
  ·cases hp
 |call c=>
  obtain⟨callee,args,argTypes⟩:=c;simp only[eZ]at hp;split at hp
  ·split at hp
   ·replace hp:=aB hp;obtain⟨_,hp⟩:=hp;cases hp;simp[lightOp]at hl
   ·cases hp
  ·split at hp
   ·cases hp;simp[lightOp]at hl
   ·cases hp
  ·cases hp
  ·rename_i b;have hex:∀(X:Sem Value),Go.builtin b argTypes ty (args.map fun|.const _=>true|_=>false) (args.map ev)=(do pure (.value (←X)))→
     Go.execOp ev ⟨dst,.call ⟨.builtin b,args,argTypes⟩,ty,pos,after,guard⟩=(do pure (.value (←X))):=by
    intro X hX;rw[←hX];rfl
   have mx:∀(isMax:Bool) (pa pb:PX),EE P nt args.toList=some [pa,pb]→b=(if isMax then .max else .min)→op=.mx isMax pa pb→
     ∃v,(Go.execOp ev ⟨dst,.call ⟨.builtin b,args,argTypes⟩,ty,pos,after,guard⟩).run P w=.ok (.value v) w∧aA ρ μ a v:=by
    intro isMax pa pb Rp hb qF;obtain⟨X,Y,dJ,hX,hY⟩:=IQ Rp;have Mr:args=#[X,Y]:=by apply Array.ext';simpa using dJ
    subst Mr qF;simp only[lightOp]at hl;split at hl
    ·rename_i k1 s1 k2 s2 h1 h2;replace hl:=aB hl;obtain⟨hk,hl⟩:=hl;have:=nd hk;subst this;have hv1:=hE X (by simp[Op.operands,Call.operands]) pa _ hX h1;have hv2:=hE Y (by simp[Op.operands,Call.operands]) pb _ hY h2;generalize fu:ev X=xx at hv1;generalize hyy:ev Y=yy at hv2;cases hv1 with|int _ _ n1 e1=>cases hv2 with|int _ _ n2 e2=>
     cases isMax with
     |true=>
      simp only[if_true]at hb;subst hb;simp only[cond_true]at hl;have cR:∀r:Bool,zl orc .gtr s2 s1=some r→(Go.execOp ev ⟨dst,.call ⟨.builtin .max,#[X,Y],argTypes⟩,ty,pos,after,guard⟩).run P w=.ok (.value (.int k1 (if r then n2 else n1))) w:=by intro r hr;have hc:=rl ho hr;rw[e1,e2]at hc;simp only[kH,bB]at hc;rw[hex (Builtin.max_ argTypes ty (#[X,Y].map ev)) rfl];refine bR ?_;subst hc;simp[Builtin.max_,fu,hyy,Builtin.max2]
      split at hl
      ·rename_i hr;cases hl;exact⟨_,cR _ hr,.int _ _ _ e2⟩
      ·rename_i hr;cases hl;exact⟨_,cR _ hr,.int _ _ _ e1⟩
      ·cases hl
     |false=>
      simp only[Gy,if_false]at hb;subst hb;simp only[cond_false]at hl;have cR:∀r:Bool,zl orc .lss s2 s1=some r→(Go.execOp ev ⟨dst,.call ⟨.builtin .min,#[X,Y],argTypes⟩,ty,pos,after,guard⟩).run P w=.ok (.value (.int k1 (if r then n2 else n1))) w:=by intro r hr;have hc:=rl ho hr;rw[e1,e2]at hc;simp only[kH,bB]at hc;rw[hex (Builtin.min_ argTypes ty (#[X,Y].map ev)) rfl];refine bR ?_;subst hc;simp[Builtin.min_,fu,hyy,Builtin.min2]
      split at hl
      ·rename_i hr;cases hl;exact⟨_,cR _ hr,.int _ _ _ e2⟩
      ·rename_i hr;cases hl;exact⟨_,cR _ hr,.int _ _ _ e1⟩
      ·cases hl
    ·cases hl
   split at hp
   ·rename_i px Rp;obtain⟨X,dJ,hX⟩:=Nw Rp;have Mr:args=#[X]:=by apply Array.ext';simpa using dJ
    subst Mr;split at hp
    ·rename_i t PJ;have UU:argTypes=#[t]:=by apply Array.ext';simpa using PJ
     subst UU;rw[hex (Builtin.len_ #[t] ty (#[X].map ev)) rfl];split at hp
     ·rename_i hu;cases hp;simp only[lightOp]at hl;split at hl
      ·rename_i n c hb;cases hl;have hv:=hE X (by simp[Op.operands,Call.operands]) px _ hX hb;generalize fu:ev X=xx at hv;cases hv with|str _ _ s hs hs'=>
       refine⟨goInt s.size,?_,.int _ _ _ (by rw[Lib.size_eq,hs];rfl)⟩;refine bR ?_;simp[Builtin.len_,fu,aa hu]
      ·cases hl
     ·rename_i e hu;cases hp;simp only[lightOp]at hl;split at hl
      ·rename_i hb;cases hl;have hv:=hE X (by simp[Op.operands,Call.operands]) px _ hX hb;generalize fu:ev X=xx at hv;cases hv;refine⟨_,?_,.int _ _ _ rfl⟩;refine bR ?_;simp[Builtin.len_,fu,aa hu,goInt,SI.den]
      ·rename_i hb;cases hl;have hv:=hE X (by simp[Op.operands,Call.operands]) px _ hX hb;generalize fu:ev X=xx at hv;cases hv;refine⟨_,?_,.int _ _ _ rfl⟩;refine bR ?_;simp[Builtin.len_,fu,aa hu,goInt,SI.den]
      ·rename_i hb;cases hl;have hv:=hE X (by simp[Op.operands,Call.operands]) px _ hX hb;generalize fu:ev X=xx at hv;cases hv;refine⟨_,?_,.int _ _ _ rfl⟩;refine bR ?_;simp[Builtin.len_,fu,aa hu,goInt,SI.den]
      ·cases hl
     ·rename_i kt e hu;cases hp;simp only[lightOp]at hl;split at hl
      ·rename_i b hb;split at hl
       ·rename_i L hL;cases hl;have hv:=hE X (by simp[Op.operands,Call.operands]) px _ hX hb;generalize fu:ev X=xx at hv;cases hv with|map _ l r fY hr=>
        subst hr;obtain⟨l',o',h1,h2,h3⟩:=hM.DI b _ (hH _ _ hL);rw[fY]at h1;cases h1;cases h3 with|map _ _ es clock cJ yA IS=>
        have lD:(getObj l.c).run P w=.ok (.map es clock) w:=by simp[getObj,Sem.run,h2]
        refine⟨goInt es.size,?_,.int _ _ _ ?_⟩
        ·refine bR ?_;simp[Builtin.len_,fu,aa hu,lD]
        ·have:L.length=es.size:=by
          have hlen:∀(l:List (AV×AV)) (es:List MapEntry),ju ρ μ l es→l.length=es.length:=by
           intro l
           induction l with
           |nil=>intro es h;cases es with|nil=>rfl|cons _ _=>exact h.elim
           |cons x l ih=>
            intro es h;cases es with
            |nil=>obtain⟨_,_⟩:=x;exact h.elim
            |cons e es=>obtain⟨_,_⟩:=x;simp[ih es h.2.2]
          have:=hlen _ _ cJ;simpa using this
         rw[lenL_eq,this];rfl
       ·rename_i L c hL;cases hl;have hv:=hE X (by simp[Op.operands,Call.operands]) px _ hX hb;generalize fu:ev X=xx at hv;cases hv with|map _ l r fY hr=>
        subst hr;obtain⟨l',o',h1,h2,h3⟩:=hM.DI b _ (hH _ _ hL);rw[fY]at h1;cases h1;cases h3 with|mapD _ _ es clock cJ=>
        have lD:(getObj l.c).run P w=.ok (.map es c) w:=by simp[getObj,Sem.run,h2]
        refine⟨goInt es.size,?_,.int _ _ _ ?_⟩
        ·refine bR ?_;simp[Builtin.len_,fu,aa hu,lD]
        ·have:L.length=es.size:=by
          have hlen:∀(l:List (Nat×AV×AV)) (es:List MapEntry),fc ρ μ l es→l.length=es.length:=by
           intro l
           induction l with
           |nil=>intro es h;cases es with|nil=>rfl|cons _ _=>exact h.elim
           |cons x l ih=>
            intro es h;cases es with
            |nil=>obtain⟨_,_,_⟩:=x;exact h.elim
            |cons e es=>obtain⟨_,_,_⟩:=x;simp[ih es h.2.2.2]
          have:=hlen _ _ cJ;simpa using this
         rw[lenL_eq,this];rfl
       ·cases hl
      ·cases hl
     ·cases hp
    ·cases hp
   ·split at hp
    ·split at hp
     ·split at hp
      ·replace hp:=aB hp;obtain⟨_,hp⟩:=hp;cases hp;simp[lightOp]at hl
      ·cases hp
     ·split at hp
      ·replace hp:=aB hp;obtain⟨_,hp⟩:=hp;cases hp;simp[lightOp]at hl
      ·cases hp
     ·cases hp
    ·cases hp
   ·simp only[bB]at hp;exact mx true _ _ ‹_› rfl hp.symm
   ·simp only[bB]at hp;exact mx false _ _ ‹_› rfl hp.symm
   ·cases hp;simp[lightOp]at hl
   ·split at hp
    ·split at hp
     ·split at hp
      ·cases hp;simp[lightOp]at hl
      ·cases hp;simp[lightOp]at hl
      ·cases hp
     ·cases hp
    ·cases hp
   ·cases hp
 |go c=>simp[eZ]at hp
 |defer c=>
  simp only[eZ]at hp;split at hp
  ·split at hp
   ·cases hp;simp[lightOp]at hl
   ·cases hp
  ·cases hp
 |panic x=>obtain⟨px,hx,rfl⟩:=map_some hp;simp[lightOp]at hl
 |send c x=>simp[eZ]at hp
 |recv t c ok=>simp[eZ]at hp
 |select cs b=>simp[eZ]at hp
end
theorem HO{α:Type}{b:Bool}{x:Option α}{y:α}(h:(bif b then none else x)=some y):b=false∧x=some y:=by
 cases b with
 |false=>exact⟨rfl,h⟩
 |true=>cases h
theorem DG{α:Type}(zs:List α)(hz:0<zs.length):∀(n i:Nat),i<n*zs.length→(List.replicate n zs).flatten[i]?=zs[i%zs.length]?
 |0,i,h=>by simp at h
 |n+1,i,h=>by
  rw[List.replicate_succ,zqk];by_cases hi:i<zs.length
  ·rw[List.getElem?_append_left hi,Nat.mod_eq_of_lt hi]
  ·rw[List.getElem?_append_right (by omega),DG zs hz n (i-zs.length) (by rw[Nat.add_mul]at h;omega)];congr 1;rw[Nat.mod_eq_sub_mod (by omega:zs.length≤i)]
theorem DH{α:Type}(zs:List α)(n:Nat):(List.replicate n zs).flatten.length=n*zs.length:=by
 induction n with
 |zero=>simp
 |succ n ih=>rw[List.replicate_succ,zqk,fO,ih,Nat.add_mul];omega
section
variable{P:Program}{ρ:Nat→Int}{w0:W0}{w:World}{μ:Mu}{G:Key→Option ab}{nx:Nat}{orc:dP}{nt:Nat}{tm:T AV}{H:T ab}{ev:Operand→Value}
theorem HY{zs:List AV}{z:Array Value}(h:ao ρ μ zs z.toList)(n:Nat) :
  ao ρ μ (List.replicate n zs).flatten ((Array.range (n*z.size)).map (z[· % z.size]!)).toList:=by
 have hlen:zs.length=z.size:=by rw[h.length];simp
 by_cases h0:z.size=0
 ·have:zs=[]:=H8 (by omega);subst this;have e:(List.replicate n ([]:List AV)).flatten=[]:=by simp
  rw[e,h0];simp;exact .nil
 ·refine ao.EP ?_ ?_
  ·rw[DH];simp[hlen]
  ·intro i a ha;have hi:i<n*zs.length:=by
    rcases zE i (n*zs.length)with h'|h'
    ·exact h'
    ·rw[JE (by rw[DH];exact h')]at ha;cases ha
   rw[DG zs (by omega) n i hi]at ha;obtain⟨v,hv,hr⟩:=h.get _ a ha;refine⟨v,?_,hr⟩;rw[hlen]at hi hv;have Ih:z[i%z.size]?=some v:=by simpa using hv
   have bF:i%z.size<z.size:=Nat.mod_lt _ (by omega);simp[hi];rw[getElem!_pos z _ bF];rw[getElem?_pos z _ bF]at Ih;simpa using Ih
theorem MN{L:List AV}{vs:Array Value}(h:ao ρ μ L vs.toList)(c:Nat)(elem:TypeId):zn P ρ μ (.cells L .fix) ⟨c,0,vs.size⟩ (.cells vs elem (0,0)):=by
 have hl:L.length=vs.size:=by rw[h.length];simp
 refine .cells L .fix _ vs elem (0,0) ?_ (by simp) (Nat.le_of_eq hl) (fun _=>rfl) (fun _=>hl);intro i a ha;obtain⟨v,hv,hr⟩:=h.get i a ha;exact⟨v,by simpa using hv,hr⟩
theorem iy(elem:TypeId)(cells:Array Value):(newRow elem cells).run P w=.ok ⟨w.heap.size,0,none⟩ (w.alloc (.cells cells elem)):=rfl
theorem wrap_small(n:Nat)(hn:n≤1048576):IntKind.i64.wrap (n:Int)=n:=by
 rw[←dV];have hm:Int.emod (n:Int) 18446744073709551616=n:=by show(n:Int)%18446744073709551616=n;omega
 have bF:TY (n:Int) 9223372036854775808=true:=by rw[CT,decide_eq_true_eq];omega
 simp only[aX,full,half,hm,bF,cond_true]
def Made(P:Program)(ρ:Nat→Int)(w0:W0)(μ:Mu)(G:Key→Option ab)(w:World)(o:Oper)(ev:Operand→Value)(a:AV)(k:Key)(B:ab)(nx':Nat):Prop:=
 ∃v w' l,(Go.execOp ev o).run P w=.ok (.value v) w'∧μ.le (μ.put k l)∧aL P ρ w0 (μ.put k l) (zm G k (some B)) nx' w'∧aA ρ (μ.put k l) a v
theorem Ca(hM:aL P ρ w0 μ G nx w){k:Key}(hk:μ k=none){nx':Nat}(hn:nx≤nx')(Fa:k.toNat<nx'){L:List AV}{vs:Array Value}(hL:ao ρ μ L vs.toList)(elem:TypeId) :
  μ.le (μ.put k ⟨w.heap.size,0,vs.size⟩)∧aL P ρ w0 (μ.put k ⟨w.heap.size,0,vs.size⟩) (zm G k (some (.cells L .fix))) nx' (w.alloc (.cells vs elem)):=by
 have hle:μ.le (μ.put k ⟨w.heap.size,0,vs.size⟩):=Mu.qH (.inl hk);exact hM.alloc k (.cells L .fix) (.cells vs elem) vs.size hk (MN (hL.mono hle) _ _) hn Fa
theorem Dq(hM:aL P ρ w0 μ G nx w){o:Oper}{op:Aw}(hp:eZ P nt o=some op)
  (hE:qn P ρ μ nt o.op.operands.toList tm ev) {f:Key→AV} {B:ab} (hl:allocOp op tm=some (f,B)) {k:Key} (hk:μ k=none) {nx':Nat} (hn:nx≤nx') (Fa:k.toNat<nx') :
  Made P ρ w0 μ G w o ev (f k) k B nx':=by
 obtain⟨dst,qz,ty,pos,after,guard⟩:=o;cases qz with
 |alloc t=>
  simp only[eZ]at hp;split at hp
  ·rename_i ti Mp;obtain⟨i,d,z,hi,hd,hz,IT,oq,ER⟩:=gk Mp;cases hp;simp only[allocOp,bB,Prod.mk.injEq]at hl;obtain⟨rfl,rfl⟩:=hl;have OP:ao ρ μ ti.zero.cells z.cells.toList:=(eD ot z ti.zero IT).cells;obtain⟨h1,h2⟩:=Ca hM hk hn Fa OP t;refine⟨.pointer (some ⟨w.heap.size,0,none⟩),w.alloc (.cells z.cells t),_,?_,h1,h2,.ptr _ _ _ _ (Mu.cC _ _ _) rfl⟩;simp only[Go.execOp];refine bR ?_;simp[Instr.alloc,kR hi hz,newVar,iy]
  ·cases hp
 |box t x=>
  obtain⟨px,hx,rfl⟩:=map_some hp;simp only[allocOp]at hl;split at hl
  ·rename_i u hu;simp only[bB,Prod.mk.injEq]at hl;obtain⟨rfl,rfl⟩:=hl;have hv:=(hE x (by simp[Op.operands]) px u hx hu).cells;obtain⟨h1,h2⟩:=Ca hM hk hn Fa hv t;refine⟨.pointer (some ⟨w.heap.size,0,none⟩),w.alloc (.cells (ev x).cells t),_,?_,h1,h2,.ptr _ _ _ _ (Mu.cC _ _ _) rfl⟩;simp only[Go.execOp];refine bR ?_;simp[Instr.box,newVar,iy]
  ·cases hl
 |buildSlice t len parts=>
  simp only[eZ]at hp;split at hp
  ·rename_i e hu;split at hp
   ·rename_i ie Eb;obtain⟨i,d,z,hi,hd,hz,IT,oq,ER⟩:=gk Eb;replace hp:=aB hp;obtain⟨hc,hp⟩:=hp;simp only[fa,Nat.ble_eq,bltN_eq,decide_eq_true_eq]at hc;have hzl:=mo hc.2;split at hp
    ·rename_i ps ZT;cases hp;simp only[allocOp]at hl;split at hl
     ·rename_i cs ud;simp only[bB,Prod.mk.injEq]at hl;obtain⟨rfl,rfl⟩:=hl;have OP:ao ρ μ ie.zero.cells z.cells.toList:=(eD ot z ie.zero IT).cells;have PA:z.cells.size=i.size:=by rw[←oq,←hzl,OP.length];simp
      have aaC:=HY OP len;rw[repL_eq,List.append_nil]at ud;have jM:∀y∈parts.toList.map (·.2),y∈(Op.buildSlice t len parts).operands.toList:=by intro y hy;simpa[Op.operands]using hy
      obtain⟨Rt,hf,hr⟩:=sM (vs:=(Array.range (len*z.cells.size)).map (z.cells[· % z.cells.size]!)) ZT ud (hE.sub jM) aaC;obtain⟨h1,h2⟩:=Ca hM hk hn Fa hr e;have LD:Rt.size=len*ie.size:=by
       have hlen:∀(place:Nat→Option (Nat×Nat)) (l:List (Nat×Value)) (a b:Array Value),Instr.fill place a l=some b→b.size=a.size:=by
        intro place l
        induction l with
        |nil=>intro a b h;simp only[Instr.fill,bB]at h;rw[h]
        |cons x l ih=>
         obtain⟨i,v⟩:=x;intro a b h;simp only[Instr.fill]at h;split at h
         ·cases h
         ·split at h
          ·cases h
          ·rw[ih _ _ h];rw[←Array.foldl_toList];have hf:∀(l:List (Value×Nat)) (a:Array Value) (off:Nat),(l.foldl (fun(cs:Array Value) (p:Value×Nat)=>cs.setIfInBounds (off+p.2) p.1) a).size=a.size:=by
            intro l
            induction l with
            |nil=>intros;rfl
            |cons x l ih=>intro a off;rw[List.foldl_cons,ih];simp
           exact hf _ _ _
       rw[hlen _ _ _ _ hf];simp[PA,oq]
      refine⟨.slice (some ⟨w.heap.size,0,none⟩) len len,w.alloc (.cells Rt e),_,?_,h1,h2,?_⟩
      ·simp only[Go.execOp];refine bR ?_;have OQ:(parts.map fun(i,x)=>(i,ev x)).toList=parts.toList.map fun(i,x)=>(i,ev x):=by simp
       have hle:¬(len*i.size>2^24):=by rw[←oq];omega
       simp only[Instr.buildSlice,kb,aa hu,gC,aQ hi,if_neg hle];by_cases h0:len*i.size=0
       ·have aev:len=0:=by
         rcases Nat.mul_eq_zero.1 h0 with h|h
         ·exact h
         ·omega
        subst aev;have:(Array.range (0*z.cells.size)).map (z.cells[· % z.cells.size]!)=#[]:=by simp
        rw[this]at hf;simp only[h0,if_true,kb,nJ,gC];rw[OQ];have e0:(Array.map (fun x=>(#[]:Array Value)[x%(#[]:Array Value).size]!) (Array.range 0))=#[]:=by simp
        rw[e0,←oq,hf];simp[iy]
       ·simp only[h0,if_false,kb,kR hi hz,gC,nJ];rw[OQ];rw[PA]at hf;rw[←oq]at hf ⊢;rw[PA,←oq,hf];simp[iy]
      ·refine .slice k 0 len ie.size len _ _ (Mu.cC _ _ _) (by simp[LD]) (cI _) (.inr rfl)
     ·cases hl
    ·cases hp
   ·cases hp
  ·cases hp
 |makeMap t r=>
  cases r with
  |some r=>simp[eZ]at hp
  |none=>simp only[eZ,bB]at hp;subst hp;simp only[allocOp,bB,Prod.mk.injEq]at hl;obtain⟨rfl,rfl⟩:=hl;obtain⟨h1,h2⟩:=hM.alloc k (.map []) (.map #[] 0) 0 hk (.map _ _ _ _ trivial (by simp) rfl) hn Fa;refine⟨.map (some w.heap.size),w.alloc (.map #[] 0),_,?_,h1,h2,.map _ _ _ (Mu.cC _ _ _) rfl⟩;simp[Go.execOp,Instr.makeMap]
 |makeSlice t l c=>
  simp only[eZ]at hp;split at hp
  ·rename_i e hu;split at hp
   ·rename_i ie pl pc Eb nH hpc;obtain⟨i,d,z,hi,hd,hz,IT,oq,ER⟩:=gk Eb;split at hp
    ·rename_i i' Gs;rw[hi]at Gs;cases Gs;replace hp:=aB hp;obtain⟨hc,hp⟩:=hp;simp only[fa,Nat.ble_eq,bltN_eq,decide_eq_true_eq]at hc;have hzl:=mo hc.1.2;cases hp;simp only[allocOp]at hl;split at hl
     ·rename_i va vc ha HH;split at hl
      ·rename_i nl nc hnl hnc;replace hl:=aB hl;obtain⟨X9,hl⟩:=hl;simp only[fa,Nat.ble_eq]at X9;simp only[bB,Prod.mk.injEq]at hl;obtain⟨rfl,rfl⟩:=hl;obtain⟨k1,e1⟩:=eW hnl (hE l (by simp[Op.operands]) pl _ nH ha);obtain⟨k2,e2⟩:=eW hnc (hE c (by simp[Op.operands]) pc _ hpc HH);have OP:ao ρ μ ie.zero.cells z.cells.toList:=(eD ot z ie.zero IT).cells;have PA:z.cells.size=i.size:=by rw[←oq,←hzl,OP.length];simp
       have aaC:=HY OP nc;rw[repL_eq,List.append_nil];obtain⟨h1,h2⟩:=Ca hM hk hn Fa aaC e;have hwr:∀n:Nat,n≤1048576→IntKind.i64.wrap (n:Int)=n:=fun n hn=>wrap_small n hn;refine⟨.slice (some ⟨w.heap.size,0,none⟩) nl nc,w.alloc (.cells ((Array.range (nc*z.cells.size)).map (z.cells[· % z.cells.size]!)) e),_,?_,h1,h2,?_⟩
       ·simp only[Go.execOp];refine bR ?_;have hb:i.bytes*nc≤65536*1048576:=Nat.mul_le_mul hc.2 X9.2;have eA:¬((i.bytes:Int)*(nc:Int)>2^48):=by
         have:((i.bytes*nc:Nat):Int)≤((65536*1048576:Nat):Int):=by exact_mod_cast hb
         have e:((i.bytes*nc:Nat):Int)=(i.bytes:Int)*(nc:Int):=by simp
         rw[←e];omega
        have UK:¬((nc:Int)<0):=by omega
        have aew:¬((nl:Int)<0):=by omega
        have JU:¬((nl:Int)>(nc:Int)):=by omega
        simp only[e1,e2,Instr.makeSlice,kb,aa hu,gC,asInt,asIntOf,nJ,gB hi,hwr nl (by omega),hwr nc (by omega),decide_eq_false UK,decide_eq_false eA,decide_eq_false aew,decide_eq_false JU,Bool.or_self,Gy,if_false,run_askRoom,Int.toNat_natCast,aQ hi];by_cases h0:nc*i.size=0
        ·have ajS:nc=0:=by
          rcases Nat.mul_eq_zero.1 h0 with h|h
          ·exact h
          ·omega
         subst ajS;simp only[h0,if_true,kb,nJ,gC,iy];have e0:(Array.map (fun x=>(#[]:Array Value)[x%(#[]:Array Value).size]!) (Array.range 0))=#[]:=by simp
         have e1:(Array.map (fun x=>z.cells[x%z.cells.size]!) (Array.range (0*z.cells.size)))=#[]:=by simp
         rw[e0,e1]
        ·simp only[h0,if_false,kb,kR hi hz,gC,nJ];simp[iy,PA]
       ·refine .slice k 0 nl ie.size nc _ _ (Mu.cC _ _ _) ?_ (by omega) (.inr rfl);simp[PA,oq]
      ·cases hl
     ·cases hl
    ·cases hp
   ·cases hp
  ·cases hp
 |move x=>obtain⟨px,hx,rfl⟩:=map_some hp;simp[allocOp]at hl
 |assign x=>obtain⟨px,hx,rfl⟩:=map_some hp;simp[allocOp]at hl
 |nilCheck x=>obtain⟨px,hx,rfl⟩:=map_some hp;simp[allocOp]at hl
 |unOp uop t x=>obtain⟨px,hx,rfl⟩:=map_some hp;simp[allocOp]at hl
 |panic x=>obtain⟨px,hx,rfl⟩:=map_some hp;simp[allocOp]at hl
 |makeFunc fn first cap=>
  exfalso;cases fn<;>simp only[eZ]at hp
  all_goals repeat' (first|(cases hp;done)|split at hp)
  all_goals (cases hp;simp[allocOp]at hl;done)
 |slice t x lo hi mx=>
  exfalso;cases mx<;>simp only[eZ]at hp
  all_goals repeat' (first|(cases hp;done)|(replace hp:=aB hp;replace hp:=hp.2)|split at hp)
  all_goals (cases hp;simp[allocOp]at hl;done)
 |range t x=>
  exfalso;simp only[eZ]at hp;split at hp
  ·obtain⟨px,hx,rfl⟩:=map_some hp;simp[allocOp]at hl
  ·cases hp
 |next it s=>
  exfalso;cases s
  ·obtain⟨px,hx,rfl⟩:=map_some hp;simp[allocOp]at hl
  ·simp[eZ]at hp
 |_=>
  exfalso;simp only[eZ]at hp
  repeat' (first|(cases hp;done)|(replace hp:=aB hp;replace hp:=hp.2)|(replace hp:=HO hp;replace hp:=hp.2)|split at hp)
  all_goals first
   |(cases hp;simp[allocOp]at hl;done)
   |(obtain⟨px,hx,rfl⟩:=map_some hp;simp[allocOp]at hl;done)
   |skip
end
section
variable{P:Program}{ρ:Nat→Int}{w0:W0}{w:World}{μ:Mu}{G:Key→Option ab}{nx:Key}{orc:dP}{nt:Nat}{tm:T AV}{H:T ab}{ev:Operand→Value}
def Next.rel(ρ:Nat→Int)(μ:Mu)(a:AV):Next→Prop
 |.value v=>aA ρ μ a v
 |.skip=>a=.tuple []
 |_=>False
structure Kept(H H':T ab)(nx nx':Key)(μ μ':Mu)(G G':Key→Option ab):Prop where
 g:∀b,ae b H=none→b.toNat<nx.toNat→G' b=G b
 m:∀b,b.toNat<nx.toNat→μ' b=μ b
 h:∀b,ae b H=none→b.toNat<nx.toNat→ae b H'=none
 n:nx.toNat≤nx'.toNat
theorem Kept.refl(H:T ab)(nx:Key)(μ:Mu)(G:Key→Option ab):Kept H H nx nx μ μ G G:=⟨fun _ _ _=>rfl,fun _ _=>rfl,fun _ h _=>h,cI _⟩
theorem Kept.trans{H1 H2 H3:T ab}{n1 n2 n3:Key}{m1 m2 m3:Mu}{G1 G2 G3:Key→Option ab}(a:Kept H1 H2 n1 n2 m1 m2 G1 G2)(b:Kept H2 H3 n2 n3 m2 m3 G2 G3):Kept H1 H3 n1 n3 m1 m3 G1 G3:=
 ⟨fun k hk hl=>(b.g k (a.h k hk hl) (GD hl a.n)).trans (a.g k hk hl),fun k hl=>(b.m k (GD hl a.n)).trans (a.m k hl),
  fun k hk hl=>b.h k (a.h k hk hl) (GD hl a.n),Nat.le_trans a.n b.n⟩
def xw(P:Program)(ρ:Nat→Int)(w0:W0)(μ:Mu)(G:Key→Option ab)(H:T ab)(nx:Key)(w:World)(s:Sem Next)(a:AV)(H':T ab)(nx':Key):Prop:=
 ∃n w' μ' G',s.run P w=.ok n w'∧Next.rel ρ μ' a n∧μ.le μ'∧aL P ρ w0 μ' G' nx'.toNat w'∧HSub H' G'∧Kept H H' nx nx' μ μ' G G'
theorem aL.lQ(hM:aL P ρ w0 μ G nx.toNat w):μ nx=none:=by
 cases h:μ nx with
 |none=>rfl
 |some l=>exact absurd (hM.new nx l h) (Nat.lt_irrefl _)
theorem Ms{s:Sem Next}{v:Value}{a:AV}(hM:aL P ρ w0 μ G nx.toNat w)(hH:HSub H G)(h:s.run P w=.ok (.value v) w)(hr:aA ρ μ a v):xw P ρ w0 μ G H nx w s a H nx:=
 ⟨_,w,μ,G,h,hr,μ.le_refl,hM,hH,Kept.refl _ _ _ _⟩
theorem NO{f:Key→AV}{B:ab}{a:AV}{H':T ab}{nx':Key}(h:newB f B H nx=.val a H' nx'):a=f nx∧H'=ar nx (some B) H∧nx'=nx.succ:=by simp only[newB,sTCe,OR.val.injEq]at h;exact⟨h.1.symm,h.2.1.symm,h.2.2.symm⟩
theorem ne_of_lt{b:Key}(h:b.toNat<nx.toNat):b≠nx:=by intro e;subst e;exact absurd h (Nat.lt_irrefl _)
theorem uK(l:Loc)(B B':Option ab):Kept H (ar nx B' H) nx nx.succ μ (μ.put nx l) G (zm G nx B):=by have hs:=kTSu nx;exact⟨fun b _ hl=>bz _ _ (ne_of_lt hl),fun b hl=>bz _ _ (ne_of_lt hl),fun b hb hl=>by rw[bQ _ _ _ _ (ne_of_lt hl)];exact hb,by omega⟩
theorem Mt(hM:aL P ρ w0 μ G nx.toNat w)(hH:HSub H G){o:Oper}{op:Aw}(hp:eZ P nt o=some op)(hE:qn P ρ μ nt o.op.operands.toList tm ev)
  {f:Key→AV} {B:ab} (hl:allocOp op tm=some (f,B)):xw P ρ w0 μ G H nx w (Go.execOp ev o) (f nx) (ar nx (some B) H) nx.succ:=by
 have hs:=kTSu nx;obtain⟨v,w',l,h1,h2,h3,h4⟩:=Dq hM hp hE hl (hM.lQ) (nx':=nx.succ.toNat) (by omega) (by omega);exact⟨.value v,w',_,_,h1,h4,h2,h3,hH.set nx (some B),uK _ _ _⟩
theorem Nc(hM:aL P ρ w0 μ G nx.toNat w){b:Key}{L:List AV}{ck:CK}(hb:G b=some (.cells L ck))(Bi:ck≠.ro){l:Loc}(hl:μ b=some l){off:Nat}{vs:List AV}{us:List Value}
  (hv:ao ρ μ vs us) (uM:∀u∈us,u.oneCell'=true) (hle:off+vs.length≤L.length) :
  ∃w',(storeCells ⟨l.c,l.base+off,none⟩ us).run P w=.ok () w'∧μ.le (μ.put b l)∧aL P ρ w0 (μ.put b l) (zm G b (some (.cells (L.take off++vs++L.drop (off+vs.length)) ck))) nx.toNat w':=by
 obtain⟨l',arr,elem,fz,h1,h2,hc,hs,hlen,hf,he⟩:=hM.cells hb;rw[hl]at h1;cases h1;have PC:=hf Bi;subst PC;have LD:=hv.length;obtain⟨w',e1,e2,e3,e4⟩:=lR P l.c (l.base+off) elem us 0 w arr h2 (by omega) uM;have mn:w0.heap.size≤l.c:=(hM.own b _ l hb hl).resolve_left (by cases ck<;>simp[ab.ro]at Bi ⊢);have xQ:μ.le (μ.put b l):=Mu.qH (.inr hl);have sf:(ab.cells L ck).lo l=some 0:=by cases ck<;>first|rfl|exact absurd rfl Bi
 refine⟨w',e1,hM.put b _ l _ (.inr hl) e2 e4 ?_ (fun b' B' l' g m ne=>hM.sep b' b B' _ l' l g hb m hl ne) mn (cI _) (hM.new b l hl) (hM.VU hb hl sf)⟩;refine .cells _ ck l _ elem (0,0) ?_ (by rw[jQ];exact hs) (by simp;omega) (fun _=>rfl) (fun hk=>by have:=he hk;simp;omega);intro i a ha;rw[gb us arr _ _ (by omega)];by_cases h1:i<off
 ·rw[if_neg (by omega)];rw[List.append_assoc,List.getElem?_append_left (by simp;omega),List.getElem?_take_of_lt h1]at ha;obtain⟨v,Ih,hr⟩:=hc i a ha;exact⟨v,Ih,hr.mono xQ⟩
 ·by_cases h2:i<off+vs.length
  ·rw[if_pos (by omega)];rw[List.append_assoc,List.getElem?_append_right (by simp;omega),List.getElem?_append_left (by simp;omega)]at ha;have e:i-(L.take off).length=i-off:=by simp;omega
   rw[e]at ha;obtain⟨v,Ih,hr⟩:=hv.get _ a ha;refine⟨v,?_,hr.mono xQ⟩;rw[←Ih];congr 1;omega
  ·rw[if_neg (by omega)];rw[List.getElem?_append_right (by simp;omega),List.getElem?_drop]at ha;have e:off+vs.length+(i-(L.take off++vs).length)=i:=by simp;omega
   rw[e]at ha;obtain⟨v,Ih,hr⟩:=hc i a ha;exact⟨v,Ih,hr.mono xQ⟩
theorem AN{vs:List AV}{us:List Value}(hv:ao ρ μ vs us)(h:vs.all AV.bH=true):∀u∈us,u.oneCell'=true:=by
 induction vs generalizing us with
 |nil=>cases hv;simp
 |cons a vs ih=>
  cases hv with|cons _ _ u us h1 h2=>
  simp only[List.all_cons,fa]at h;intro x hx;cases hx with
  |head=>have:=h1.Uj h.1;cases u<;>simp_all [Value.oneCell']
  |tail _ hx=>exact ih h2 h.2 x hx
theorem kQ{b:Key}{B:ab}(hb:ae b H=some B){l:Loc}(hl:μ b=some l)(x y:Option ab):Kept H (ar b y H) nx nx μ (μ.put b l) G (zm G b x):=by
 have ne:∀b',ae b' H=none→b'≠b:=by intro b' h e;subst e;rw[hb]at h;cases h
 refine⟨fun b' h _=>bz _ _ (ne b' h),fun b' _=>?_,fun b' h _=>by rw[bQ _ _ _ _ (ne b' h)];exact h,cI _⟩;by_cases h:b'=b
 ·subst h;rw[Mu.cC,hl]
 ·exact Mu.mX _ _ h
def EB(P:Program)(kt:TypeId):Prop:=(∃fs,P.underlying kt=some (.struct fs))∨∃n e,P.underlying kt=some (.array n e)
def Shape(P:Program)(nt:Nat)(qz:Op):Aw→Prop
 |.store n pa pv=>∃t x v i,qz=.store t x v∧P.info? t=some i∧n=i.size∧pX P nt x=some pa∧pX P nt v=some pv
 |.mapupd sk pm pk pv=>∃t m k v kt e kd,(qz=.mapUpdate t m k v∨qz=.insert t m k v)∧P.underlying t=some (.map kt e)∧wo P kt sk kd∧pX P nt m=some pm∧pX P nt k=some pk∧pX P nt v=some pv
 |.mapupdP p pm pk pv=>∃t m k v kt e,(qz=.mapUpdate t m k v∨qz=.insert t m k v)∧P.underlying t=some (.map kt e)∧EB P kt∧He P 100 kt=some p∧pX P nt m=some pm∧pX P nt k=some pk∧pX P nt v=some pv
 |.delP p pm pk=>∃c t tl m k kt e,qz=.call c∧c.callee=.builtin .delete∧c.args=#[m,k]∧c.argTypes.toList=t ::tl∧P.underlying t=some (.map kt e)∧EB P kt∧He P 100 kt=some p∧pX P nt m=some pm∧pX P nt k=some pk
 |.rangeM px=>∃t x kt e,qz=.range t x∧P.underlying t=some (.map kt e)∧pX P nt x=some px
 |.nextM px=>∃x,qz=.next x false∧pX P nt x=some px
 |.strb px=>∃src dst x e,qz=.convert src dst x∧P.underlying src=some .string∧P.underlying dst=some (.slice e)∧P.underlying e=some (.int .u8)∧pX P nt x=some px
 |.append sz ps px=>∃c s x t u e i ie,qz=.call c∧c.callee=.builtin .append∧c.args=#[s,x]∧c.argTypes=#[t,u]∧P.underlying t=some (.slice e)∧((∃e',P.underlying u=some (.slice e'))∨P.underlying u=some .string)∧
   Lo P e=some ie∧P.info? e=some i∧sz=ie.size∧0<ie.size∧ie.zero.cells.length=ie.size∧i.bytes≤65536∧pX P nt s=some ps∧pX P nt x=some px
 | .callF f l => ∃ c fn, qz = .call c ∧ c.callee = .value (.func f) ∧ EE P nt c.args.toList = some l ∧ P.funcs[f]? = some fn ∧ fn.body.isSome = true ∧ fn.name ≠ "runtime.NumGoroutine"
 |.callV v l=>∃c x,qz=.call c∧c.callee=.value x∧pX P nt x=some v∧EE P nt c.args.toList=some l
 |.dfr v l=>∃c x,qz=.defer c∧c.callee=.value x∧pX P nt x=some v∧EE P nt c.args.toList=some l
 |.panic px=>∃x,qz=.panic x∧pX P nt x=some px
 |.recover=>∃c,qz=.call c∧c.callee=.builtin .recover∧c.args=#[]
 |_=>True
theorem U5{xs:List Operand}(h:EE P nt xs=some []):xs=[]:=by
 cases xs with
 |nil=>rfl
 |cons x xs=>simp only[EE]at h;split at h<;>cases h
theorem dv{o:Oper}{op:Aw}(hp:eZ P nt o=some op):Shape P nt o.op op:=by
 obtain⟨dst,qz,ty,pos,after,guard⟩:=o;cases qz with
 |move x=>obtain⟨px,hx,rfl⟩:=map_some hp;trivial
 |assign x=>obtain⟨px,hx,rfl⟩:=map_some hp;trivial
 |nilCheck x=>obtain⟨px,hx,rfl⟩:=map_some hp;trivial
 |unOp uop t x=>obtain⟨px,hx,rfl⟩:=map_some hp;trivial
 |box t x=>obtain⟨px,hx,rfl⟩:=map_some hp;trivial
 |panic x=>obtain⟨px,hx,rfl⟩:=map_some hp;exact⟨x,rfl,hx⟩
 |makeMap t r=>cases r<;>simp only[eZ,bB]at hp<;>first|(cases hp;done)|(subst hp;trivial)
 |makeFunc fn first cap=>
  cases fn<;>simp only[eZ]at hp
  all_goals repeat' (first|(cases hp;done)|split at hp)
  all_goals (cases hp;trivial)
 |slice t x lo hi mx=>
  cases mx<;>simp only[eZ]at hp
  all_goals repeat' (first|(cases hp;done)|(replace hp:=aB hp;replace hp:=hp.2)|split at hp)
  all_goals (cases hp;trivial)
 |makeInterface t x=>
  simp only[eZ]at hp;split at hp
  ·cases hp
  ·cases hp
  ·obtain⟨px,hx,rfl⟩:=map_some hp;trivial
 |store t x v=>
  simp only[eZ]at hp;split at hp
  ·rename_i i px pv' h1 h2 h3;simp only[bB]at hp;subst hp;exact⟨t,x,v,i,rfl,h1,rfl,h2,h3⟩
  ·cases hp
 |mapUpdate t m k v=>
  simp only[eZ]at hp;split at hp
  ·rename_i kt e hu;split at hp
   ·cases hp;exact⟨t,m,k,v,kt,e,_,.inl rfl,hu,⟨‹_›,by simp⟩,‹_›,‹_›,‹_›⟩
   ·cases hp;exact⟨t,m,k,v,kt,e,_,.inl rfl,hu,⟨‹_›,by simp⟩,‹_›,‹_›,‹_›⟩
   ·split at hp
    ·cases hp;exact⟨t,m,k,v,kt,e,.inl rfl,hu,.inl ⟨_,‹_›⟩,‹_›,‹_›,‹_›,‹_›⟩
    ·cases hp
   ·split at hp
    ·cases hp;exact⟨t,m,k,v,kt,e,.inl rfl,hu,.inr ⟨_,_,‹_›⟩,‹_›,‹_›,‹_›,‹_›⟩
    ·cases hp
   ·cases hp
  ·cases hp
 |insert t m k v=>
  simp only[eZ]at hp;split at hp
  ·rename_i kt e hu;split at hp
   ·cases hp;exact⟨t,m,k,v,kt,e,_,.inr rfl,hu,⟨‹_›,by simp⟩,‹_›,‹_›,‹_›⟩
   ·cases hp;exact⟨t,m,k,v,kt,e,_,.inr rfl,hu,⟨‹_›,by simp⟩,‹_›,‹_›,‹_›⟩
   ·split at hp
    ·cases hp;exact⟨t,m,k,v,kt,e,.inr rfl,hu,.inl ⟨_,‹_›⟩,‹_›,‹_›,‹_›,‹_›⟩
    ·cases hp
   ·split at hp
    ·cases hp;exact⟨t,m,k,v,kt,e,.inr rfl,hu,.inr ⟨_,_,‹_›⟩,‹_›,‹_›,‹_›,‹_›⟩
    ·cases hp
   ·cases hp
  ·cases hp
 |defer c=>
  simp only[eZ]at hp;split at hp
  ·rename_i x hc;split at hp
   ·cases hp;exact⟨c,x,rfl,hc,‹_›,‹_›⟩
   ·cases hp
  ·cases hp
 |call c=>
  simp only[eZ]at hp;split at hp
  ·rename_i f hc;split at hp
   ·rename_i l fn h1 h2;replace hp:=aB hp;obtain⟨hb,hp⟩:=hp;cases hp;simp only[fa,Bool.not_eq_true',beq_eq_false_iff_ne]at hb;exact⟨c,fn,rfl,hc,h1,h2,hb.1,hb.2⟩
   ·cases hp
  ·rename_i x cL hc;split at hp
   ·cases hp;exact⟨c,x,rfl,hc,‹_›,‹_›⟩
   ·cases hp
  ·cases hp
  ·rename_i b hc;split at hp
   ·split at hp
    ·split at hp
     all_goals first|(cases hp;done)|(cases hp;trivial)
    ·cases hp
   ·rename_i ps px dJ;obtain⟨s,x,e1,h1,h2⟩:=IQ dJ;have IU:c.args=#[s,x]:=by apply Array.ext';simpa using e1
    split at hp
    ·rename_i t u PJ;have UU:c.argTypes=#[t,u]:=by apply Array.ext';simpa using PJ
     split at hp
     ·rename_i e e' hu hu';split at hp
      ·rename_i ie i Eb hi;replace hp:=aB hp;obtain⟨hb,hp⟩:=hp;cases hp;simp only[fa,Nat.ble_eq,bltN_eq,decide_eq_true_eq]at hb;exact⟨c,s,x,t,u,e,i,ie,rfl,hc,IU,UU,hu,.inl ⟨_,hu'⟩,Eb,hi,rfl,hb.1.1,mo hb.1.2,hb.2,h1,h2⟩
      ·cases hp
     ·rename_i e hu hu';split at hp
      ·rename_i ie i Eb hi;replace hp:=aB hp;obtain⟨hb,hp⟩:=hp;cases hp;simp only[fa,Nat.ble_eq,bltN_eq,decide_eq_true_eq]at hb;exact⟨c,s,x,t,u,e,i,ie,rfl,hc,IU,UU,hu,.inr hu',Eb,hi,rfl,hb.1.1,mo hb.1.2,hb.2,h1,h2⟩
      ·cases hp
     ·cases hp
    ·cases hp
   ·cases hp;trivial
   ·cases hp;trivial
   ·rename_i dJ;cases hp;exact⟨c,rfl,hc,by apply Array.ext';simpa using U5 dJ⟩
   ·rename_i pm pk dJ;obtain⟨m,k,e1,h1,h2⟩:=IQ dJ;have IU:c.args=#[m,k]:=by apply Array.ext';simpa using e1
    split at hp
    ·rename_i t tl PJ;split at hp
     ·rename_i kt e hu;split at hp
      ·cases hp;exact⟨c,t,tl,m,k,kt,e,rfl,hc,IU,PJ,hu,.inl ⟨_,‹_›⟩,‹_›,h1,h2⟩
      ·cases hp;exact⟨c,t,tl,m,k,kt,e,rfl,hc,IU,PJ,hu,.inr ⟨_,_,‹_›⟩,‹_›,h1,h2⟩
      ·cases hp
     ·cases hp
    ·cases hp
   ·cases hp
 |range t x=>
  simp only[eZ]at hp;split at hp
  ·obtain⟨px,hx,rfl⟩:=map_some hp;exact⟨t,x,_,_,rfl,‹_›,hx⟩
  ·cases hp
 |next x s=>
  cases s
  ·obtain⟨px,hx,rfl⟩:=map_some hp;exact⟨x,rfl,hx⟩
  ·cases hp
 |entry x=>obtain⟨px,hx,rfl⟩:=map_some hp;trivial
 |convert src aiY x=>
  simp only[eZ]at hp;split at hp
  ·cases hp;trivial
  ·cases hp;trivial
  ·split at hp
   ·cases hp;trivial
   ·cases hp
  ·split at hp
   ·cases hp;exact⟨src,aiY,x,_,rfl,‹_›,‹_›,‹_›,‹_›⟩
   ·cases hp
  ·cases hp
 |_=>
  simp only[eZ]at hp
  repeat' (first|(cases hp;done)|(replace hp:=aB hp;replace hp:=hp.2)|(replace hp:=HO hp;replace hp:=hp.2)|split at hp)
  all_goals (cases hp;trivial)
theorem KQ(hM:aL P ρ w0 μ G nx.toNat w)(hH:HSub H G){o:Oper}{n:Nat}{pa pv:PX}(hp:eZ P nt o=some (.store n pa pv))(hE:qn P ρ μ nt o.op.operands.toList tm ev)
  {a:AV} {H':T ab} {nx':Key} (h:aOp orc (.store n pa pv) tm H nx=.val a H' nx'):xw P ρ w0 μ G H nx w (Go.execOp ev o) a H' nx':=by
 obtain⟨dst,qz,ty,pos,after,guard⟩:=o;obtain⟨t,x,v,i,e0,hi,rfl,hx,hv⟩:=dv hp;simp only at e0;subst e0;simp only[aOp]at h;split at h
 ·rename_i b off u hpa hpv;cases hc:(Nat.beq (lenL u.cells) i.size&&u.cells.all AV.bH)with
  |false=>rw[hc]at h;cases h
  |true=>
   rw[hc]at h;simp only[cond_true]at h;simp only[fa]at hc;have oq:=mo hc.1;rw[lenL_eq]at oq;have hrv:=hE v (by simp[Op.operands]) pv u hv hpv;have hra:=hE x (by simp[Op.operands]) pa _ hx hpa;have main:∀(L:List AV) (ck:CK),ae b H=some (.cells L ck)→ck≠.ro→
     JN u.cells off L (OR.bad 4) (fun l=>pw b (some (.cells l ck)) H fun h=>.val (.tuple []) h nx)=.val a H' nx'→xw P ρ w0 μ G H nx w (Go.execOp ev ⟨dst,.store t x v,ty,pos,after,guard⟩) a H' nx':=by
    intro L ck hL Bi h;rw[putC_eq]at h;split at h
    ·rename_i hle;rw[sTCe]at h;simp only[OR.val.injEq]at h;obtain⟨rfl,rfl,rfl⟩:=h;generalize fu:ev x=xx at hra;cases hra with|ptr _ _ l ad hm ja=>
     subst ja;obtain⟨w',e1,e2,e3⟩:=Nc hM (hH _ _ hL) Bi hm hrv.cells (AN hrv.cells hc.2) hle;refine⟨.skip,w',_,_,?_,rfl,e2,e3,hH.set b _,kQ hL hm _ _⟩;have Fc:(ev v).cells.size=i.size:=by rw[←oq,hrv.cells.length];simp
     simp[Go.execOp,fu,Instr.storeAt,Instr.sureAddr,storeVar,aQ hi,Fc,e1]
    ·cases h
   split at h
   ·cases h
   ·rename_i L ck cL hL;exact main L ck hL (fun e=>cL e) h
   ·cases h
 ·cases h
end
section
variable{P:Program}{ρ:Nat→Int}{w0:W0}{w:World}{μ:Mu}{G:Key→Option ab}{nx:Key}{orc:dP}{nt:Nat}{tm:T AV}{H:T ab}{ev:Operand→Value}
theorem FN(ho:cD ρ orc){kt:TypeId}{kd:TypeDesc}{sk:Bool}(hu:wo P kt sk kd){k u:AV}{x v:Value}(hx:aA ρ μ k x)(hv:aA ρ μ u v) :
  ∀{l r:List (AV×AV)} {es:List MapEntry} (i:Nat),ju ρ μ l es→setK orc sk k u l=some r→
   (Instr.findNow kd x es i=some none∧∀b,ju ρ μ r (es ++ [⟨x,v,b⟩]))∨
   (∃j e,Instr.findNow kd x es i=some (some (i+j,e.val))∧es[j]?=some e∧Instr.sameNow kd x e.key=some true∧ju ρ μ r (es.set j {e with key:=x,val:=v}))
 | [],r,[],i,hp,h=>by simp only[setK,bB]at h;subst h;exact .inl ⟨rfl,fun b=>⟨hx,hv,trivial⟩⟩
 | [],_,_ ::_,i,hp,h=>hp.elim
 |(_,_) ::_,_,[],i,hp,h=>hp.elim
 |(a,c) ::l,r,e ::es,i,hp,h=>by
  obtain⟨h1,h2,h3⟩:=hp;simp only[setK]at h;split at h
  ·rename_i hk;cases h;have hs:=sU ho hu hx h1 hk;exact .inr ⟨0,e,by simp[Instr.findNow,hs],by simp,hs,⟨hx,hv,h3⟩⟩
  ·rename_i hk;have hs:=sU ho hu hx h1 hk;split at h
   ·rename_i r' Ru;cases h;rcases FN ho hu hx hv (i+1) h3 Ru with⟨f,g⟩|⟨j,e',f,g1,g2,g3⟩
    ·exact .inl ⟨by simp[Instr.findNow,hs,f],fun b=>⟨h1,h2,g b⟩⟩
    ·refine .inr ⟨j+1,e',?_,by simpa using g1,g2,?_⟩
     ·simp[Instr.findNow,hs,f];omega
     ·simp only[List.set_cons_succ];exact⟨h1,h2,g3⟩
   ·cases h
  ·cases h
theorem KX{kt:TypeId}{kd:TypeDesc}{sk:Bool}(hu:wo P kt sk kd){x y:Value}(h:Instr.sameNow kd x y=some true):Instr.sameBits 10000 y x=true:=by
 obtain⟨_,hk⟩:=hu;cases sk with
 |true=>
  have:kd=.string:=by simpa using hk
  subst this;cases x<;>cases y<;>simp only[Instr.sameNow,bB]at h<;>first|(cases h;done)|skip
  rw[beq_toListBytes]at h;have h:=eq_of_beq h;simp[Instr.sameBits,beq_toListBytes,h]
 |false=>
  obtain⟨k,rfl⟩:∃k,kd=.int k:=by simpa using hk
  cases x<;>cases y<;>simp[Instr.sameNow]at h;obtain⟨rfl,rfl⟩:=h;simp[Instr.sameBits]
theorem HR{es:Array MapEntry}{x:MapEntry}(h:∀(i:Nat) (e:MapEntry),es.toList[i]?=some e→e.born=i)(hx:x.born=es.toList.length):∀(i:Nat) (e:MapEntry),(es.push x).toList[i]?=some e→e.born=i:=by
 intro i e he;simp only[Array.toList_push]at he;rcases Nat.lt_trichotomy i es.toList.length with h'|h'|h'
 ·rw[List.getElem?_append_left h']at he;exact h i e he
 ·subst h';simp at he;subst he;exact hx
 ·rw[JE (by simp at h' ⊢;omega)]at he;cases he
theorem KY{es:List MapEntry}{j:Nat}{x y:MapEntry}(h:∀(i:Nat) (e:MapEntry),es[i]?=some e→e.born=i)(hj:es[j]?=some x)(hy:y.born=x.born):∀(i:Nat) (e:MapEntry),(es.set j y)[i]?=some e→e.born=i:=by
 intro i e he;by_cases hij:j=i
 ·subst hij;have hl:j<es.length:=by
   rcases zE j es.length with h'|h'
   ·exact h'
   ·rw[JE h']at hj;cases hj
  rw[List.getElem?_set_self hl]at he;cases he;rw[hy];exact h j x hj
 ·rw[List.getElem?_set_ne hij]at he;exact h i e he
theorem I5(hM:aL P ρ w0 μ G nx.toNat w)(hH:HSub H G)(ho:cD ρ orc){o:Oper}{sk:Bool}{pm pk pv:PX}(hp:eZ P nt o=some (.mapupd sk pm pk pv))(hE:qn P ρ μ nt o.op.operands.toList tm ev)
  {a:AV} {H':T ab} {nx':Key} (h:aOp orc (.mapupd sk pm pk pv) tm H nx=.val a H' nx'):xw P ρ w0 μ G H nx w (Go.execOp ev o) a H' nx':=by
 obtain⟨dst,qz,ty,pos,after,guard⟩:=o;obtain⟨t,m,k,v,kt,e,kd,e0,hu,vY,hm,hk,hv⟩:=dv hp;simp only at e0;have hex:Go.execOp ev ⟨dst,qz,ty,pos,after,guard⟩=(do Instr.mapUpdate t (ev m) (ev k) (ev v);pure .skip):=by rcases e0 with e0|e0<;>subst e0<;>rfl
 have jM:m∈qz.operands.toList∧k∈qz.operands.toList∧v∈qz.operands.toList:=by rcases e0 with e0|e0<;>subst e0<;>simp[Op.operands]
 simp only[aOp]at h;split at h
 ·rename_i b ka va hb ZV ZU;split at h
  ·rename_i L hL;split at h
   ·rename_i L' UQ;rw[sTCe]at h;simp only[OR.val.injEq]at h;obtain⟨rfl,rfl,rfl⟩:=h;have St:=hE m jM.1 pm _ hm hb;have Vk:=hE k jM.2.1 pk _ hk ZV;have hrv:=hE v jM.2.2 pv _ hv ZU;generalize Gi:ev m=mm at St;cases St with|map _ l r fY hr=>
    subst hr;have hg:=hH _ _ hL;obtain⟨l',o',h1,h2,h3⟩:=hM.DI b _ hg;rw[fY]at h1;cases h1;cases h3 with|map _ _ es clock cJ yA IS=>
    have lD:(getObj l.c).run P w=.ok (.map es clock) w:=by simp[getObj,Sem.run,h2]
    have Dx:∀o2,(setObj l.c o2).run P w=.ok () {w with heap:=w.heap.setIfInBounds l.c o2}:=by intro o2;simp[setObj,Sem.run,h2]
    have ud:l.c<w.heap.size:=hM.Dc b l fY;have mn:w0.heap.size≤l.c:=(hM.own b _ l hg fY).resolve_left (by simp[ab.ro]);have xQ:μ.le (μ.put b l):=Mu.qH (.inr fY);have fin:∀(I6:Array MapEntry) (rz:Nat),ju ρ μ L' I6.toList→(∀(i:Nat) (e:MapEntry),I6.toList[i]?=some e→e.born=i)→rz=L'.length→(Instr.mapUpdate t (ev m) (ev k) (ev v)).run P w=.ok () {w with heap:=w.heap.setIfInBounds l.c (.map I6 rz)}→
      xw P ρ w0 μ G H nx w (Go.execOp ev ⟨dst,qz,ty,pos,after,guard⟩) (.tuple []) (ar b (some (.map L')) H) nx:=by
     intro I6 rz CO eA Nb cR;obtain⟨g1,g2⟩:=hM.put (w':={w with heap:=w.heap.setIfInBounds l.c (.map I6 rz)}) b (.map L') l (.map I6 rz) (.inr fY)
      ⟨rfl,rfl,rfl,by simp,fun j hj _=>by show(w.heap.setIfInBounds l.c _)[j]?=_;rw[Px (Ne.symm hj)],cI _⟩
      (by show(w.heap.setIfInBounds l.c _)[l.c]?=_;simp[ud]) (.map _ _ _ _ (CO.mono xQ) eA Nb) (fun b' B' l' g m' ne=>hM.sep b' b B' _ l' l g hg m' fY ne) mn (cI _) (hM.new b l fY) (hM.VU hg fY rfl)
     refine⟨.skip,_,_,_,?_,rfl,g1,g2,hH.set b _,kQ hL fY _ _⟩;rw[hex];simp[cR]
    rcases FN ho vY Vk hrv 0 cJ UQ with⟨f,g⟩|⟨j,e1,f,g1,g2,g3⟩
    ·have hlen:=cJ.length;have RY:=(g clock).length;refine fin (es.push {key:=ev k,val:=ev v,born:=clock}) (clock+1) (by simpa using g clock) (HR yA (by rw[IS,hlen])) (by simp at RY hlen ⊢;omega) ?_;simp[Gi,Instr.mapUpdate,aa hu,lD,run_checkKey vY _ 9999,run_findKey vY.1 f,Dx]
    ·have wy:es[j]?=some e1:=by simpa using g1
     have eo:j<es.size:=by
      rcases zE j es.size with h'|h'
      ·exact h'
      ·rw[Jn h']at wy;cases wy
     have hlen:=cJ.length;have RY:=g3.length;have hml:(es.modify j fun e=>{e with key:=ev k,val:=ev v}).toList=es.toList.set j {e1 with key:=ev k,val:=ev v}:=by
      apply List.ext_getElem?;intro q;rw[Array.getElem?_toList,Array.getElem?_modify];by_cases hq:j=q
      ·subst hq;rw[if_pos rfl,wy,List.getElem?_set_self (by simpa using eo)];rfl
      ·rw[if_neg hq,List.getElem?_set_ne hq];simp
     refine fin (es.modify j fun e=>{e with key:=ev k,val:=ev v}) clock ?_ (by rw[hml];exact KY yA g1 rfl) (by simp at RY hlen ⊢;omega) ?_
     ·have:(es.modify j fun e=>{e with key:=ev k,val:=ev v}).toList=es.toList.set j {e1 with key:=ev k,val:=ev v}:=by
       apply List.ext_getElem?;intro q;rw[Array.getElem?_toList,Array.getElem?_modify];by_cases hq:j=q
       ·subst hq;rw[if_pos rfl,wy,List.getElem?_set_self (by simpa using eo)];rfl
       ·rw[if_neg hq,List.getElem?_set_ne hq];simp
      rw[this];exact g3
     ·have hf:=run_findKey (w:=w) vY.1 f;have hs:=KX vY g2;simp[Gi,Instr.mapUpdate,aa hu,lD,run_checkKey vY _ 9999,hf,Dx,Instr.keyThatStays,wy,hs]
   ·cases h
  ·cases h
 ·cases h
end
noncomputable def aO(g:AV→T ab→AV×T ab):List AV→T ab→List AV×T ab
 | [],h=>([],h)
 |v ::l,h=>((g v h).1 ::(aO g l (g v h).2).1,(aO g l (g v h).2).2)
noncomputable def Fo(ih:AV→T ab→AV×T ab)(v:AV)(h:T ab):AV×T ab:=
 match v with
 |.slice b off len sz=>match ae b h with
  |some (.cells l .fix)=>if len*sz≤(l.drop off).length then(.sl (aO ih ((l.drop off).take (len*sz)) (ar b (some (.cells l .ro)) h)).1 len sz .any,(aO ih ((l.drop off).take (len*sz)) (ar b (some (.cells l .ro)) h)).2)else(v,h)
  |some (.cells l .ro)=>if len*sz≤(l.drop off).length then(.sl (aO ih ((l.drop off).take (len*sz)) h).1 len sz .any,(aO ih ((l.drop off).take (len*sz)) h).2)else(v,h)
  |some (.cells l .part)=>if len*sz≤(l.drop off).length then(.sl (aO ih ((l.drop off).take (len*sz)) (ar b none h)).1 len sz .any,(aO ih ((l.drop off).take (len*sz)) (ar b none h)).2)else(v,h)
  |_=>(v,h)
 |.sl l len sz _=>(.sl l len sz .any,h)
 |.agg cs=>(.agg (aO ih cs h).1,(aO ih cs h).2)
 |v=>(v,h)
noncomputable def aK:Nat→AV→T ab→AV×T ab
 |0,v,h=>(v,h)
 |n+1,v,h=>Fo (aK n) v h
section
variable{R:Type}
theorem qm{g:AV→T ab→(AV→T ab→R)→R}{ga:AV→T ab→AV×T ab}(hg:∀v h c,g v h c=c (ga v h).1 (ga v h).2):∀(l:List AV) (h:T ab) (c:List AV→T ab→R),Cj g l h c=c (aO ga l h).1 (aO ga l h).2
 | [],h,c=>rfl
 |v ::l,h,c=>by show g v h (fun v h=>Cj g l h fun r h=>c (v ::r) h)=_;rw[hg,qm hg l];rfl
theorem xN:∀(n:Nat) (v:AV) (h:T ab) (c:AV→T ab→R),TH n v h c=c (aK n v h).1 (aK n v h).2
 |0,v,h,c=>rfl
 |n+1,v,h,c=>by
  show T4 (TH n) v h c=_;have hL:=qm (R:=R) (xN n);cases v with
  |slice b off len sz=>
   simp only[aK,Fo,T4];cases hb:ae b h with
   |none=>rfl
   |some B=>
    cases B with
    |cells l ck=>cases ck<;>simp only[takeC_eq,dropL_eq,sTCe,hL]<;>split<;>rfl
    |_=>rfl
  |agg cs=>simp only[aK,Fo,T4,hL]
  |_=>rfl
end
section
variable{P:Program}{ρ:Nat→Int}{w0:W0}{w:World}{nx:Key}
structure fp(P:Program)(ρ:Nat→Int)(w0:W0)(w:World)(nx:Key)(μ:Mu)(G:Key→Option ab)(H:T ab)(μ':Mu)(G':Key→Option ab)(H':T ab):Prop where
 le:μ.le μ'
 m:∀b,μ' b=μ b
 M:aL P ρ w0 μ' G' nx.toNat w
 hs:HSub H' G'
 g:∀b,ae b H=none→G' b=G b∧ae b H'=none
theorem fp.refl{μ:Mu}{G:Key→Option ab}{H:T ab}(hM:aL P ρ w0 μ G nx.toNat w)(hH:HSub H G):fp P ρ w0 w nx μ G H μ G H:=⟨μ.le_refl,fun _=>rfl,hM,hH,fun _ h=>⟨rfl,h⟩⟩
theorem fp.trans{μ μ1 μ2:Mu}{G G1 G2:Key→Option ab}{H H1 H2:T ab}(a:fp P ρ w0 w nx μ G H μ1 G1 H1)(b:fp P ρ w0 w nx μ1 G1 H1 μ2 G2 H2):fp P ρ w0 w nx μ G H μ2 G2 H2:=
 ⟨Mu.le_trans a.le b.le,fun k=>(b.m k).trans (a.m k),b.M,b.hs,fun k hk=>⟨((b.g k (a.g k hk).2).1).trans (a.g k hk).1,(b.g k (a.g k hk).2).2⟩⟩
theorem fp.kept{μ μ':Mu}{G G':Key→Option ab}{H H':T ab}(h:fp P ρ w0 w nx μ G H μ' G' H'):Kept H H' nx nx μ μ' G G':=
 ⟨fun b hb _=>(h.g b hb).1,fun b _=>h.m b,fun b hb _=>(h.g b hb).2,cI _⟩
def Mu.OJ(μ:Mu)(c:Nat)(arr:Array Value):Mu:=⟨μ.loc,fun c' i=>match μ.fz c' i with|some v=>some v|none=>if c'=c then arr[i]? else none⟩
theorem Tc{μ:Mu}{G:Key→Option ab}{H:T ab}(hM:aL P ρ w0 μ G nx.toNat w)(hH:HSub H G){b:Key}{L:List AV}{ck:CK}(hb:ae b H=some (.cells L ck))(X:Option ab)(hX:X=none∨(X=some (.cells L .ro)∧ck≠.part)) :
  ∃l arr elem f μ',μ b=some l∧w.heap[l.c]?=some (.cells arr elem f)∧fp P ρ w0 w nx μ G H μ' (zm G b X) (ar b X H)∧(∀i v,arr[i]?=some v→μ'.fz l.c i=some v)∧
   (∀i a,L[i]?=some a→∃v,arr[l.base+i]?=some v∧aA ρ μ' a v)∧l.base+l.ext≤arr.size∧L.length≤l.ext:=by
 have hg:=hH _ _ hb;obtain⟨l,arr,elem,f,h1,h2,hc,hs,hl,hf,he⟩:=hM.cells hg;have hle:μ.le (μ.OJ l.c arr):=by refine⟨fun _ _ h=>h,fun c i v h=>?_⟩;show(match μ.fz c i with|some v=>some v|none=>if c=l.c then arr[i]? else none)=some v;rw[h]
 have hold:∀i v,μ.fz l.c i=some v→arr[i]?=some v:=by intro i v h;obtain⟨AG,Hm,f',e1,e2⟩:=hM.LQ _ _ _ h;rw[h2]at e1;cases e1;exact e2
 have PC:∀i v,arr[i]?=some v→(μ.OJ l.c arr).fz l.c i=some v:=by
  intro i v h;show(match μ.fz l.c i with|some v=>some v|none=>if l.c=l.c then arr[i]? else none)=some v;cases hz:μ.fz l.c i with
  |none=>simp[h]
  |some u=>have:=hold i u hz;rw[h]at this;cases this;rfl
 refine⟨l,arr,elem,f,μ.OJ l.c arr,h1,h2,⟨hle,fun _=>rfl,?_,?_,?_⟩,PC,fun i a ha=>?_,hs,hl⟩
 ·refine⟨?_,?_,hM.Dc,?_,hM.GH,hM.new,hM.below,?_,?_,fun c i v e=>hle.f _ _ _ (hM.Tj c i v e),?_,?_,hM.dr⟩
  ·intro b' B' e;by_cases nI:b'=b
   ·subst nI;rw[dW]at e;rcases hX with rfl|⟨rfl,L7⟩<;>cases e;exact⟨l,_,h1,h2,.cells L .ro l arr elem f (fun i a ha=>let ⟨v,hv,hr⟩:=hc i a ha;⟨v,hv,hr.mono hle⟩) hs hl (fun h=>absurd rfl h) (fun _=>he L7)⟩
   ·rw[bz _ _ nI]at e;obtain⟨l',o',e1,e2,e3⟩:=hM.DI b' B' e;exact⟨l',o',e1,e2,e3.mono hle⟩
  ·intro b1 b2 B1 B2 l1 l2 e1 e2 m1 m2 cL;have:∀x B,zm G b X x=some B→∃B',G x=some B':=by
    intro x B e;by_cases nI:x=b
    ·subst nI;exact⟨_,hg⟩
    ·rw[bz _ _ nI]at e;exact⟨_,e⟩
   obtain⟨B1',IU⟩:=this _ _ e1;obtain⟨B2',Vu⟩:=this _ _ e2;exact hM.sep b1 b2 B1' B2' l1 l2 IU Vu m1 m2 cL
  ·intro b' B' l' e m;by_cases nI:b'=b
   ·subst nI;rw[dW]at e;rcases hX with rfl|⟨rfl,L7⟩<;>cases e;exact .inl trivial
   ·rw[bz _ _ nI]at e;exact hM.own b' B' l' e m
  ·intro c i v e;have e2:(match μ.fz c i with|some v=>some v|none=>if c=l.c then arr[i]? else none)=some v:=e;clear e;cases hz:μ.fz c i with
   |some u=>rw[hz]at e2;cases e2;exact hM.LQ _ _ _ hz
   |none=>
    rw[hz]at e2;by_cases HH:c=l.c
    ·subst HH;simp only[if_true]at e2;exact⟨arr,elem,f,h2,e2⟩
    ·simp only[HH,if_false]at e2;cases e2
  ·intro b' B' l' n e m sf i hi;by_cases nI:b'=b
   ·subst nI;rw[dW]at e;rcases hX with rfl|⟨rfl,L7⟩<;>cases e;cases sf
   ·rw[bz _ _ nI]at e;have cL:l'.c≠l.c:=hM.sep b' b B' _ l' l e hg m h1 nI;have:=hM.Qv b' B' l' n e m sf i hi;show(match μ.fz l'.c i with|some v=>some v|none=>if l'.c=l.c then arr[i]? else none)=none;rw[this];simp[cL]
  ·intro c i v e;have e2:(match μ.fz c i with|some v=>some v|none=>if c=l.c then arr[i]? else none)=some v:=e;clear e;cases hz:μ.fz c i with
   |some u=>rw[hz]at e2;cases e2;exact hM.Tk c i v hz
   |none=>
    rw[hz]at e2;by_cases HH:c=l.c
    ·subst HH;simp only[if_true]at e2;cases ck with
     |fix=>exact .inl ((hM.own b _ l hg h1).resolve_left (by simp[ab.ro]))
     |part=>exact .inl ((hM.own b _ l hg h1).resolve_left (by simp[ab.ro]))
     |ro=>
      rcases hM.Tl b L l hg h1 with h'|h'
      ·exact .inl h'
      ·have:=h' arr elem f i v h2 e2;rw[hz]at this;cases this
    ·simp only[HH,if_false]at e2;cases e2
  ·intro b' L' l' e m;by_cases nI:b'=b
   ·subst nI;have m:μ b'=some l':=m;rw[h1]at m;cases m;refine .inr fun AG ee ff i v ha hv=>?_;rw[h2]at ha;cases ha;exact PC i v hv
   ·rw[bz _ _ nI]at e;rcases hM.Tl b' L' l' e m with h'|h'
    ·exact .inl h'
    ·exact .inr fun AG ee ff i v ha hv=>hle.f _ _ _ (h' AG ee ff i v ha hv)
 ·exact hH.set b _
 ·intro b' eA;have cL:b'≠b:=by intro e;subst e;rw[hb]at eA;cases eA
  exact⟨bz _ _ cL,by rw[bQ _ _ _ _ cL];exact eA⟩
 ·obtain⟨v,hv,hr⟩:=hc i a ha;exact⟨v,hv,hr.mono hle⟩
def N8(P:Program)(ρ:Nat→Int)(w0:W0)(w:World)(nx:Key)(g:AV→T ab→AV×T ab):Prop:=∀(v:AV) (u:Value) (μ:Mu) (G:Key→Option ab) (H:T ab),aL P ρ w0 μ G nx.toNat w→HSub H G→aA ρ μ v u→
 ∃μ' G',fp P ρ w0 w nx μ G H μ' G' (g v H).2∧aA ρ μ' (g v H).1 u
theorem kN{g:AV→T ab→AV×T ab}(hg:N8 P ρ w0 w nx g):∀(l:List AV) (us:List Value) (μ:Mu) (G:Key→Option ab) (H:T ab),aL P ρ w0 μ G nx.toNat w→HSub H G→ao ρ μ l us→
  ∃μ' G',fp P ρ w0 w nx μ G H μ' G' (aO g l H).2∧ao ρ μ' (aO g l H).1 us
 | [],us,μ,G,H,hM,hH,h=>by cases h;exact⟨μ,G,fp.refl hM hH,.nil⟩
 |v ::l,us,μ,G,H,hM,hH,h=>by
  cases h with|cons _ _ u us h1 h2=>
  obtain⟨μ1,G1,f1,r1⟩:=hg v u μ G H hM hH h1;obtain⟨μ2,G2,f2,r2⟩:=kN hg l us μ1 G1 _ f1.M f1.hs (h2.mono f1.le);exact⟨μ2,G2,f1.trans f2,.cons _ _ _ _ (r1.mono f2.le) r2⟩
theorem Lk{ih:AV→T ab→AV×T ab}(hi:N8 P ρ w0 w nx ih):N8 P ρ w0 w nx (Fo ih):=by
 intro v u μ G H hM hH hv;unfold Fo;split
 ·rename_i b off len sz;have go:∀(L:List AV) (ck:CK) (X:Option ab),(X=none∨(X=some (.cells L .ro)∧ck≠.part))→ae b H=some (.cells L ck)→len*sz≤(L.drop off).length→∃μ1 G1 vs,fp P ρ w0 w nx μ G H μ1 G1 (ar b X H)∧ao ρ μ1 ((L.drop off).take (len*sz)) vs∧
    ∃cap c o a,u=.slice (some a) len cap∧len≤cap∧(cap=0∨a=⟨c,o,none⟩)∧(∀i v,vs[i]?=some v→μ1.fz c (o+i)=some v):=by
   intro L ck X hX hb hle;obtain⟨l,arr,elem,f,μ',h1,h2,h3,h4,h5,h6,h7⟩:=Tc hM hH hb X hX;cases hv with|slice _ _ _ _ cap l' a hm qZ hlen ha=>
   rw[h1]at hm;cases hm;by_cases h0:len*sz=0
   ·refine⟨μ',_,[],h3,by rw[h0];simp;exact .nil,cap,l.c,l.base+off,a,rfl,hlen,ha,?_⟩;intro i v hv;simp at hv
   ·refine⟨μ',_,(arr.toList.drop (l.base+off)).take (len*sz),h3,qC h5 (by omega) (by simp at hle;omega),cap,l.c,l.base+off,a,rfl,hlen,ha,?_⟩;intro i v hv;have hi:i<len*sz:=by
     rcases zE i (len*sz)with h'|h'
     ·exact h'
     ·rw[JE (by simp;omega)]at hv;cases hv
    rw[List.getElem?_take_of_lt hi,List.getElem?_drop]at hv;exact h4 _ _ (by simpa using hv)
  have fin:∀(L:List AV) (ck:CK) (H1:T ab) (μ1:Mu) (G1:Key→Option ab) (vs:List Value),len*sz≤(L.drop off).length→fp P ρ w0 w nx μ G H μ1 G1 H1→ao ρ μ1 ((L.drop off).take (len*sz)) vs→
    (∃cap c o a,u=.slice (some a) len cap∧len≤cap∧(cap=0∨a=⟨c,o,none⟩)∧(∀i v,vs[i]?=some v→μ1.fz c (o+i)=some v))→
    ∃μ' G',fp P ρ w0 w nx μ G H μ' G' (aO ih ((L.drop off).take (len*sz)) H1).2∧aA ρ μ' (.sl (aO ih ((L.drop off).take (len*sz)) H1).1 len sz .any) u:=by
   intro L ck H1 μ1 G1 vs hle f1 r1 hx;obtain⟨cap,c,o,a,rfl,hlen,ha,hf⟩:=hx;obtain⟨μ2,G2,f2,r2⟩:=kN hi _ _ μ1 G1 H1 f1.M f1.hs r1;refine⟨μ2,G2,f1.trans f2,.sl _ len sz .any cap c o a vs r2 ?_ hlen ha (fun i v hv=>f2.le.f _ _ _ (hf i v hv)) trivial⟩;rw[r2.length,←r1.length,LF];omega
  split
  ·rename_i L hb;split
   ·rename_i hle;obtain⟨μ1,G1,vs,f1,r1,hx⟩:=go L .fix _ (.inr ⟨rfl,by simp⟩) hb hle;exact fin L .fix _ μ1 G1 vs hle f1 r1 hx
   ·exact⟨μ,G,fp.refl hM hH,hv⟩
  ·rename_i L hb;split
   ·rename_i hle;obtain⟨μ1,G1,vs,f1,r1,hx⟩:=go L .ro _ (.inr ⟨rfl,by simp⟩) hb hle;have f1':fp P ρ w0 w nx μ G H μ1 G1 H:=⟨f1.le,f1.m,f1.M,fun b' B' e=>by
      refine f1.hs b' B' ?_;by_cases nI:b'=b
      ·subst nI;rw[hb]at e;cases e;rw[gTSm]
      ·rw[bQ _ _ _ _ nI];exact e,fun b' eA=>⟨(f1.g b' eA).1,eA⟩⟩
    exact fin L .ro _ μ1 G1 vs hle f1' r1 hx
   ·exact⟨μ,G,fp.refl hM hH,hv⟩
  ·rename_i L hb;split
   ·rename_i hle;obtain⟨μ1,G1,vs,f1,r1,hx⟩:=go L .part none (.inl rfl) hb hle;exact fin L .part _ μ1 G1 vs hle f1 r1 hx
   ·exact⟨μ,G,fp.refl hM hH,hv⟩
  ·exact⟨μ,G,fp.refl hM hH,hv⟩
 ·rename_i l len sz fl;cases hv with|sl _ _ _ _ cap c o a vs hr hn hl ha hf hg=>
  exact⟨μ,G,fp.refl hM hH,.sl _ _ _ _ cap c o a vs hr hn hl ha hf trivial⟩
 ·rename_i cs;cases hv with|agg _ vs hr=>
  obtain⟨μ1,G1,f1,r1⟩:=kN hi _ _ μ G H hM hH hr;exact⟨μ1,G1,f1,.agg _ _ r1⟩
 ·exact⟨μ,G,fp.refl hM hH,hv⟩
theorem vT:∀(n:Nat),N8 P ρ w0 w nx (aK n)
 |0=>fun v u μ G H hM hH hv=>⟨μ,G,fp.refl hM hH,hv⟩
 |n+1=>Lk (vT n)
theorem wb(g:AV→T ab→AV×T ab):∀(l:List AV) (H:T ab),(aO g l H).1.length=l.length
 | [],H=>rfl
 |v ::l,H=>by simp[aO,wb g l]
end
end Go.Sx
