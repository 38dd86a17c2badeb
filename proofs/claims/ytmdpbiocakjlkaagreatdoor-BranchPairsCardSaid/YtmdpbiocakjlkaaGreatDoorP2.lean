/- A part of the proof. No condition. -/
import Derived.Test.YtmdpbiocakjlkaaGreatDoorP1
import Derived.Laws.BytesString
import Derived.ChangeKeysEq
import Derived.Lib.ConvBytes
import Derived.Orders
set_option linter.unusedSimpArgs false
set_option linter.unusedVariables false
set_option linter.unusedSectionVars false
namespace Go.Sx
open Go.RowKit
section
variable{P:Program}{ρ:Nat→Int}{w0:W0}{w:World}{μ:Mu}{G:Key→Option ab}{nx:Nat}{orc:pF}{nt:Nat}{tm:T AV}{H:T ab}{ev:Operand→Value}
theorem LW:∀ {l:List AV} {vs:List Value} {n c:Nat},ofBytes l=some (n,c)→aB ρ μ l vs→∃ bs:List UInt8,vs=bs.map (fun b=>Value.int .u8 (b.toNat:Int))∧bs.length=n∧enc bs=c
 | [],vs,n,c,h,hr=>by
  simp only[ofBytes,dO,Prod.mk.injEq] at h
  cases hr
  exact⟨[],rfl,by simpa using h.1,by simpa[enc] using h.2⟩
 |a ::l,vs,n,c,h,hr=>by
  cases hr with|cons _ _ v vs hv hvs=>
  unfold ofBytes at h
  split at h
  ·rename_i heq;cases heq
  ·rename_i b l' heq
   cases heq
   split at h
   ·rename_i m d hm
    replace h:=bj h;obtain⟨aM,h⟩:=h
    rw[bltN_eq,decide_eq_true_eq] at aM
    simp only[dO,Prod.mk.injEq] at h
    obtain⟨bs,e1,e2,e3⟩:=LW hm hvs
    cases hv with|int _ _ k hk=>
    refine⟨UInt8.ofNat b ::bs,?_,?_,?_⟩
    ·rw[e1,← hk]
     simp only[SI.den,XW,List.cons.injEq,Value.int.injEq,true_and,and_true]
     show(b:Int)=_
     simp[Nat.mod_eq_of_lt aM]
    ·simp[e2,← h.1]
    ·simp[enc,e3,← h.2,Nat.mod_eq_of_lt aM]
   ·cases h
  ·cases h
theorem foldl_push(bs:List UInt8):∀ (s:ByteArray),((bs.map fun b=>((b.toNat:Nat):Int)).foldl (fun r n=>r.push (UInt8.ofNat n.toNat)) s).data.toList=s.data.toList++bs:=by
 induction bs with
 |nil=>intro s;simp
 |cons b bs ih=>
  intro s
  simp only[XW,List.foldl_cons]
  rw[ih]
  simp[ByteArray.push]
theorem ahm{xs:List Operand}{p:PX}(h:Yi P nt xs=some [p]):∃ x,xs=[x]∧pX P nt x=some p:=by
 cases xs with
 |nil=>simp[Yi] at h
 |cons x xs=>
  simp only[Yi] at h
  split at h
  ·rename_i a r h1 h2
   simp only[dO,List.cons.injEq] at h
   obtain⟨rfl,rfl⟩:=h
   cases xs with
   |nil=>exact⟨x,rfl,h1⟩
   |cons y ys=>
    simp only[Yi] at h2
    split at h2<;>cases h2
  ·cases h
theorem acD{xs:List Operand}{p q:PX}(h:Yi P nt xs=some [p,q]):∃ x y,xs=[x,y]∧pX P nt x=some p∧pX P nt y=some q:=by
 cases xs with
 |nil=>simp[Yi] at h
 |cons x xs=>
  simp only[Yi] at h
  split at h
  ·rename_i a r h1 h2
   simp only[dO,List.cons.injEq] at h
   obtain⟨rfl,rfl⟩:=h
   obtain⟨y,rfl,hy⟩:=ahm h2
   exact⟨x,y,rfl,h1,hy⟩
  ·cases h
theorem asr{op:BinOp}{x y:PX}{r:AV}(h:lightOp orc (.bin op x y) tm H=some r):∃ a b,x.at tm=some a∧y.at tm=some b∧lightOp orc (.bin op (.v a) (.v b)) tm H=some r:=by
 cases hx:x.at tm with
 |none=>simp[lightOp,hx] at h
 |some a=>
  cases hy:y.at tm with
  |none=>simp[lightOp,hx,hy] at h
  |some b=>
   refine⟨a,b,rfl,rfl,?_⟩
   have e1:(PX.v a).at tm=some a:=rfl
   have e2:(PX.v b).at tm=some b:=rfl
   simp only[lightOp,hx,hy,e1,e2] at h ⊢
   exact h
theorem af1(hM:bG P ρ w0 μ G nx w)(hH:HSub H G){b:Key}{L:List (Nat×AV×AV)}{c:Nat}(h:stamped b H=some (L,c)) :
  ∃ l es,μ b=some l∧w.heap[l.c]?=some (.map es c)∧mb ρ μ L es.toList:=by
 unfold stamped at h
 split at h
 ·rename_i L' hL'
  simp only[dO,Prod.mk.injEq] at h
  obtain⟨rfl,rfl⟩:=h
  obtain⟨l,o,h1,h2,h3⟩:=hM.Vo b _ (hH _ _ hL')
  cases h3 with|map _ _ es clock fg QW acE=>
  subst acE
  rw[lenL_eq]
  exact⟨l,es,h1,h2,fg.stamps 0 (by simpa using QW)⟩
 ·rename_i L' c' hL'
  simp only[dO,Prod.mk.injEq] at h
  obtain⟨rfl,rfl⟩:=h
  obtain⟨l,o,h1,h2,h3⟩:=hM.Vo b _ (hH _ _ hL')
  cases h3 with|mapD _ _ es clock fg=>
  exact⟨l,es,h1,h2,fg⟩
 ·cases h
theorem abj{s:Nat}{a:AV}:∀ {L:List (Nat×AV×AV)} {es:List MapEntry},mb ρ μ L es→aa5 s L=some a→∃ k v e,a=.tuple [k,v]∧es.find? (fun e=>e.born==s)=some e∧bn ρ μ k e.key∧bn ρ μ v e.val
 | [],_,_,h=>by cases h
 |(t,k,v) ::l,[],hp,h=>hp.elim
 |(t,k,v) ::l,e ::es,hp,h=>by
  obtain⟨h0,h1,h2,h3⟩:=hp
  simp only[aa5,beqN_eq] at h
  by_cases hts:t=s
  ·subst hts
   simp only[decide_true,cond_true,dO] at h
   exact⟨k,v,e,h.symm,by simp[h0],h1,h2⟩
  ·simp only[hts,decide_false,cond_false] at h
   obtain⟨k',v',e',q1,q2,q3⟩:=abj h3 h
   refine⟨k',v',e',q1,?_,q3⟩
   have:(e.born==s)=false:=by rw[h0];simpa using hts
   simp[this,q2]
theorem aeg:∀ {l:List Nat} {s:Nat},YN l=some s→l.getLast?=some s
 | [],_,h=>by cases h
 | [x],s,h=>by simpa[YN] using h
 |x ::y ::l,s,h=>by
  have:=aeg (l:=y ::l) (s:=s) (by simpa[YN] using h)
  simpa using this
set_option maxHeartbeats 2000000 in
theorem WQ(hM:bG P ρ w0 μ G nx w)(hH:HSub H G)(ho:jt ρ orc){o:Oper}{op:T7}(hp:lW P nt o=some op)
  (hE:Dp P ρ μ nt o.op.operands.toList tm ev) {a:AV} (hl:lightOp orc op tm H=some a) :
  ∃ v,(Go.execOp ev o).run P w=.ok (.value v) w∧bn ρ μ a v:=by
 obtain⟨dst,Eh,ty,pos,after,guard⟩:=o
 cases Eh with
 |move x=>
  obtain⟨px,hx,rfl⟩:=map_some hp
  exact⟨ev x,rfl,hE x (by simp[Op.operands]) px a hx hl⟩
 |assign x=>
  obtain⟨px,hx,rfl⟩:=map_some hp
  exact⟨ev x,rfl,hE x (by simp[Op.operands]) px a hx hl⟩
 |pick c x y=>
  simp only[lW] at hp
  split at hp
  ·rename_i pc pa pb h1 h2 h3
   cases hp
   simp only[lightOp] at hl
   split at hl
   ·rename_i hc
    have hcv:=hE c (by simp[Op.operands]) pc _ h1 hc
    have hv:=hE x (by simp[Op.operands]) pa _ h2 hl
    generalize hcc:ev c=cc at hcv
    cases hcv
    exact⟨ev x,by simp[Go.execOp,hcc,asBool],hv⟩
   ·rename_i hc
    have hcv:=hE c (by simp[Op.operands]) pc _ h1 hc
    have hv:=hE y (by simp[Op.operands]) pb _ h3 hl
    generalize hcc:ev c=cc at hcv
    cases hcv
    exact⟨ev y,by simp[Go.execOp,hcc,asBool],hv⟩
   ·cases hl
  ·cases hp
 |alloc t=>
  simp only[lW] at hp
  split at hp
  ·cases hp;simp[lightOp] at hl
  ·cases hp
 |box t x=>obtain⟨px,hx,rfl⟩:=map_some hp;simp[lightOp] at hl
 |build t parts=>
  have oR:∀ y∈parts.toList.map (·.2),y∈(Op.build t parts).operands.toList:=by
   intro y hy;simpa[Op.operands] using hy
  simp only[lW] at hp
  split at hp
  ·rename_i ti fs hti hu
   obtain⟨i,d,z,hi,hd,hz,hzv,tF,YD⟩:=oY hti
   split at hp
   ·rename_i pl vL
    split at hp
    ·rename_i ps hps
     cases hp
     simp only[lightOp] at hl
     split at hl
     ·rename_i cs ON
      cases hl
      have Zg:aB ρ μ ti.zero.cells z.cells.toList:=(kY Bt z ti.zero hzv).cells
      obtain⟨vs',hf,hr⟩:=HP (vs:=z.cells) hps ON (hE.sub oR) Zg
      have RN:∀ (l:List Field) (r:List (Nat×Nat)),AN P l=some r→(l.mapM fun f=>(do pure (f.offset,← sizeOf f.type):Sem (Nat×Nat))).run P w=.ok r w:=by
       intro l
       induction l with
       |nil=>intro r hr;simp only[AN,dO] at hr;subst hr;rfl
       |cons f l ih=>
        intro r hr
        simp only[AN] at hr
        split at hr
        ·rename_i i' r' IU hr'
         cases hr
         rw[List.mapM_cons]
         simp only[uu,bL IU,pY,AP,ih r' hr']
        ·cases hr
      refine⟨.agg vs',?_,.agg _ _ hr⟩
      simp only[Go.execOp]
      refine dM ?_
      have hm:(fs.mapM fun f=>(do pure (f.offset,← sizeOf f.type):Sem (Nat×Nat))).run P w=.ok pl.toArray w:=by
       rw[Array.mapM_eq_mapM_toList,Sem.run_map,RN _ _ vL]
       rfl
      simp only[Instr.build,uu,vC hi hz,pY,ag hu]
      erw [hm]
      simp only[pY]
      have aGc:(fun x:Nat=>pl.toArray[x]?)=(fun x:Nat=>pl[x]?):=by funext x;simp
      have Yx:(parts.map fun(i,x)=>(i,ev x)).toList=parts.toList.map fun(i,x)=>(i,ev x):=by simp
      rw[aGc,Yx,hf]
      rfl
     ·cases hl
    ·cases hp
   ·cases hp
  ·rename_i ti n e hti hu
   obtain⟨i,d,z,hi,hd,hz,hzv,tF,YD⟩:=oY hti
   split at hp
   ·rename_i ie LV
    split at hp
    ·rename_i ps hps
     cases hp
     simp only[lightOp] at hl
     split at hl
     ·rename_i cs ON
      cases hl
      have Zg:aB ρ μ ti.zero.cells z.cells.toList:=(kY Bt z ti.zero hzv).cells
      obtain⟨vs',hf,hr⟩:=HP (vs:=z.cells) hps ON (hE.sub oR) Zg
      refine⟨.agg vs',?_,.agg _ _ hr⟩
      simp only[Go.execOp]
      refine dM ?_
      simp only[Instr.build,uu,vC hi hz,pY,ag hu,bL LV]
      have Yx:(parts.map fun(i,x)=>(i,ev x)).toList=parts.toList.map fun(i,x)=>(i,ev x):=by simp
      rw[Yx,hf]
      rfl
     ·cases hl
    ·cases hp
   ·cases hp
  ·cases hp
 |buildSlice t len parts=>
  simp only[lW] at hp
  split at hp
  ·split at hp
   ·replace hp:=bj hp;obtain⟨_,hp⟩:=hp
    split at hp
    ·cases hp;simp[lightOp] at hl
    ·cases hp
   ·cases hp
  ·cases hp
 |insert t m k v=>
  simp only[lW] at hp
  split at hp
  ·split at hp
   ·cases hp;simp[lightOp] at hl
   ·cases hp;simp[lightOp] at hl
   ·split at hp
    ·cases hp;simp[lightOp] at hl
    ·cases hp
   ·split at hp
    ·cases hp;simp[lightOp] at hl
    ·cases hp
   ·cases hp
  ·cases hp
 |load t x=>
  simp only[lW] at hp
  split at hp
  ·rename_i ti px hti hx
   obtain⟨i,d,z,hi,hd,hz,hzv,tF,YD⟩:=oY hti
   cases hp
   simp only[lightOp] at hl
   split at hl
   ·rename_i b off hb
    have hv:=hE x (by simp[Op.operands]) px _ hx hb
    simp only[loadB] at hl
    split at hl
    ·rename_i L k hL
     generalize nz:ev x=xx at hv
     cases hv with|ptr _ _ l ad hm tu=>
     rw[YD,tF] at hl
     obtain⟨v,hv,hr⟩:=RY hM (hH _ _ hL) hi hd hl hm
     refine⟨v,?_,hr⟩
     subst tu
     simp only[Go.execOp]
     refine dM ?_
     simp only[nz,Instr.loadAt,Instr.sureAddr,uu,AP,pY,hv]
    ·cases hl
   ·rename_i l hb
    have hv:=hE x (by simp[Op.operands]) px _ hx hb
    generalize nz:ev x=xx at hv
    cases hv with|cref _ c o ad vs hr tu hf=>
    subst tu
    rw[YD,tF] at hl
    obtain⟨v,hv,hr⟩:=afc hM hr hf hi hd hl
    refine⟨v,?_,hr⟩
    simp only[Go.execOp]
    refine dM ?_
    simp only[nz,Instr.loadAt,Instr.sureAddr,uu,AP,pY,hv]
   ·cases hl
  ·cases hp
 |store t x v=>
  simp only[lW] at hp
  split at hp
  ·cases hp;simp[lightOp] at hl
  ·cases hp
 |ready g=>simp[lW] at hp
 |waits g=>simp[lW] at hp
 |nilCheck x=>
  obtain⟨px,hx,rfl⟩:=map_some hp
  simp only[lightOp] at hl
  split at hl
  all_goals first|(cases hl;done)|skip
  all_goals rename_i hb
  all_goals (cases hl;have hv:=hE x (by simp[Op.operands]) px _ hx hb;refine⟨ev x,?_,hv⟩;generalize nz:ev x=xx at hv;cases hv;simp[Go.execOp,nz])
 |binOp bop t x y yt=>
  simp only[lW] at hp
  split at hp
  ·rename_i pa pb h1 h2
   have awF:some (T7.bin bop pa pb)=some op→∃ v,(Go.execOp ev ⟨dst,.binOp bop t x y yt,ty,pos,after,guard⟩).run P w=.ok (.value v) w∧bn ρ μ a v:=by
    intro hp
    cases hp
    obtain⟨va,vb,ha,hb,hl⟩:=asr hl
    have hva:=hE x (by simp[Op.operands]) pa _ h1 ha
    have hvb:=hE y (by simp[Op.operands]) pb _ h2 hb
    obtain⟨v,hv,hr⟩:=aiH (P:=P) (w:=w) (t:=t) (X:=x) (Y:=y) ho hva hvb hl
    exact⟨v,dM hv,hr⟩
   have heq:∀ (neg:Bool) (p:Bu),bop=(if neg then .neq else .eql)→Iv P t p→p≠.int→p≠.str→((∃ l,p=.parts l)→P.eqGuardType P.depth t=false)→(p=.iface→oO x=true∨oO y=true)→
     op=.eq neg p pa pb→∃ v,(Go.execOp ev ⟨dst,.binOp bop t x y yt,ty,pos,after,guard⟩).run P w=.ok (.value v) w∧bn ρ μ a v:=by
    intro neg p hb Of hi hs hg hc e
    subst e
    simp only[lightOp] at hl
    split at hl
    ·rename_i va vb ha HX
     split at hl
     ·rename_i r hr
      cases hl
      have hva:=hE x (by simp[Op.operands]) pa _ h1 ha
      have hvb:=hE y (by simp[Op.operands]) pb _ h2 HX
      exact⟨_,dM (akA (P:=P) (w:=w) (X:=x) (Y:=y) ho hb Of hi hs hva hvb hr hg hc),.bool _⟩
     ·cases hl
    ·cases hl
   split at hp
   ·exact awF hp
   ·exact awF hp
   ·rename_i ms hu
    replace hp:=bj hp;obtain⟨hc,hp⟩:=hp
    have hc':oO x=true∨oO y=true:=by simpa using hc
    split at hp
    ·simp only[dO] at hp;exact heq false .iface rfl ⟨_,hu⟩ (by simp) (by simp) (by simp) (fun _=>hc') hp.symm
    ·simp only[dO] at hp;exact heq true .iface rfl ⟨_,hu⟩ (by simp) (by simp) (by simp) (fun _=>hc') hp.symm
    ·cases hp
   ·rename_i fs hu
    cases hgt:P.eqGuardType P.depth t with
    |true=>rw[hgt] at hp;cases hp
    |false=>
     rw[hgt] at hp
     simp only[cond_false] at hp
     have aeh:∀ q,XJ P 100 t=some q→q≠.int∧q≠.str∧q≠.iface:=by
      intro q hq
      have hk:=xz hq
      refine⟨?_,?_,?_⟩
      ·rintro rfl;obtain⟨k,hk⟩:=hk;rw[hu] at hk;cases hk
      ·rintro rfl;have hk:P.underlying t=some .string:=hk;rw[hu] at hk;cases hk
      ·rintro rfl;obtain⟨k,hk⟩:=hk;rw[hu] at hk;cases hk
     split at hp
     ·rename_i q hq
      simp only[dO] at hp
      obtain⟨n1,n2,n3⟩:=aeh q hq
      exact heq false q rfl (xz hq) n1 n2 (fun _=>hgt) (fun e=>absurd e n3) hp.symm
     ·rename_i q hq
      simp only[dO] at hp
      obtain⟨n1,n2,n3⟩:=aeh q hq
      exact heq true q rfl (xz hq) n1 n2 (fun _=>hgt) (fun e=>absurd e n3) hp.symm
     ·cases hp
   ·rename_i aMX aMY hu
    cases hgt:P.eqGuardType P.depth t with
    |true=>rw[hgt] at hp;cases hp
    |false=>
     rw[hgt] at hp
     simp only[cond_false] at hp
     have aeh:∀ q,XJ P 100 t=some q→q≠.int∧q≠.str∧q≠.iface:=by
      intro q hq
      have hk:=xz hq
      refine⟨?_,?_,?_⟩
      ·rintro rfl;obtain⟨k,hk⟩:=hk;rw[hu] at hk;cases hk
      ·rintro rfl;have hk:P.underlying t=some .string:=hk;rw[hu] at hk;cases hk
      ·rintro rfl;obtain⟨k,hk⟩:=hk;rw[hu] at hk;cases hk
     split at hp
     ·rename_i q hq
      simp only[dO] at hp
      obtain⟨n1,n2,n3⟩:=aeh q hq
      exact heq false q rfl (xz hq) n1 n2 (fun _=>hgt) (fun e=>absurd e n3) hp.symm
     ·rename_i q hq
      simp only[dO] at hp
      obtain⟨n1,n2,n3⟩:=aeh q hq
      exact heq true q rfl (xz hq) n1 n2 (fun _=>hgt) (fun e=>absurd e n3) hp.symm
     ·cases hp
   ·rename_i d VJ Ro hn3 hn4 hn5 hu
    have aeh:∀ q,XJ P 100 t=some q→q≠.iface:=by
     intro q hq
     have hk:=xz hq
     rintro rfl;obtain⟨k,hk⟩:=hk;rw[hu] at hk;cases hk;exact absurd rfl (hn3 _)
    split at hp
    ·rename_i q hq
     cases Oo:abF q with
     |true=>rw[Oo] at hp;cases hp
     |false=>
      rw[Oo] at hp
      simp only[cond_false,dO] at hp
      exact heq false q rfl (xz hq) (by rintro rfl;cases Oo) (by rintro rfl;cases Oo) (by rintro⟨l,rfl⟩;cases Oo) (fun e=>absurd e (aeh q hq)) hp.symm
    ·rename_i q hq
     cases Oo:abF q with
     |true=>rw[Oo] at hp;cases hp
     |false=>
      rw[Oo] at hp
      simp only[cond_false,dO] at hp
      exact heq true q rfl (xz hq) (by rintro rfl;cases Oo) (by rintro rfl;cases Oo) (by rintro⟨l,rfl⟩;cases Oo) (fun e=>absurd e (aeh q hq)) hp.symm
    ·cases hp
   ·cases hp
  ·cases hp
 |unOp uop t x=>
  obtain⟨px,hx,rfl⟩:=map_some hp
  simp only[lightOp] at hl
  split at hl
  ·rename_i b hb
   cases hl
   have hv:=hE x (by simp[Op.operands]) px _ hx hb
   generalize nz:ev x=xx at hv
   cases hv
   exact⟨_,by simp[Go.execOp,nz,Op.unary],.bool _⟩
  ·rename_i k s hb
   split at hl
   ·rename_i r hr
    cases hl
    have hv:=hE x (by simp[Op.operands]) px _ hx hb
    generalize nz:ev x=xx at hv
    cases hv with|int _ _ n hn=>
    have:=WS (ρ:=ρ) (P:=P) (w:=w) 0 hr
    rw[hn] at this
    refine⟨_,?_,.int _ _ _ rfl⟩
    simp only[Go.execOp]
    refine dM ?_
    simp only[nz,Op.unary]
    simpa[Go.binOp,SI.den] using this
   ·cases hl
  ·cases hl
 |convert src dst x=>
  simp only[lW] at hp
  split at hp
  ·rename_i px k0 k hx hs hd
   cases hp
   simp only[lightOp] at hl
   split at hl
   ·rename_i k1 n hb
    cases hl
    have hv:=hE x (by simp[Op.operands]) px _ hx hb
    generalize nz:ev x=xx at hv
    cases hv with|int _ _ n' hn=>
    refine⟨.int k (k.wrap n'),?_,.int _ _ _ (by rw[← hn];simp only[SI.den,nu])⟩
    simp only[Go.execOp]
    refine dM ?_
    simp[nz,Go.convert,ag hs,ag hd,Conv.intToInt]
   ·cases hl
  ·rename_i px hx hs hd
   cases hp
   simp only[lightOp] at hl
   split at hl
   ·rename_i n c hb
    cases hl
    have hv:=hE x (by simp[Op.operands]) px _ hx hb
    refine⟨ev x,?_,hv⟩
    generalize nz:ev x=xx at hv
    cases hv
    simp only[Go.execOp]
    refine dM ?_
    simp[nz,Go.convert,ag hs,ag hd]
   ·cases hl
  ·rename_i px e hx hs hd
   split at hp
   ·rename_i hu
    cases hp
    simp only[lightOp] at hl
    split at hl
    ·rename_i hb
     cases hl
     have hv:=hE x (by simp[Op.operands]) px _ hx hb
     generalize nz:ev x=xx at hv
     cases hv
     refine⟨.string .empty,?_,.str _ _ _ rfl rfl⟩
     simp only[Go.execOp]
     refine dM ?_
     simp[nz,Go.convert,ag hs,ag hd,ag hu,Conv.bytesToString]
    ·rename_i b off len sz hb
     replace hl:=bj hl;obtain⟨af3,hl⟩:=hl
     have af3:=yB af3
     subst af3
     split at hl
     ·rename_i L k hL
      rw[takeC_eq,dropL_eq] at hl
      split at hl
      ·rename_i hlen
       split at hl
       ·rename_i n c hof
        cases hl
        have hv:=hE x (by simp[Op.operands]) px _ hx hb
        generalize nz:ev x=xx at hv
        cases hv with|slice _ _ _ _ cap l ad hm Ob hle tu=>
        obtain⟨l',arr,elem,fz,h1,h2,hc,hs',Um,_⟩:=hM.cells (hH _ _ hL)
        rw[hm] at h1;cases h1
        have aKq:len=0∨off+len≤L.length:=by
         simp at hlen;omega
        have QL:(loadCells ad len).run P w=.ok ((arr.toList.drop (l.base+off)).take len).toArray w:=by
         by_cases h0:len=0
         ·subst h0;simp[loadCells,loadCellsFrom]
         ·have tu:ad=⟨l.c,l.base+off,none⟩:=tu.resolve_left (by omega)
          subst tu
          exact pH P w l.c (l.base+off) arr elem fz h2 len (by omega)
        have vG:aB ρ μ ((L.drop off).take len) ((arr.toList.drop (l.base+off)).take len):=by
         by_cases h0:len=0
         ·subst h0;simp;exact .nil
         ·exact Ei hc (by omega) (by omega)
        obtain⟨bs,e1,e2,e3⟩:=LW hof vG
        have e1':((arr.toList.drop (l.base+off)).take len)=(bs.map fun b=>((b.toNat:Nat):Int)).map (Value.int .u8):=by rw[e1];simp
        rw[e1'] at QL
        have fe:=run_bytesToString w ad len cap (bs.map fun b=>((b.toNat:Nat):Int)) QL
        refine⟨_,?_,.str _ _ (((bs.map fun b=>((b.toNat:Nat):Int)).foldl (fun r n=>r.push (UInt8.ofNat n.toNat)) ByteArray.empty)) ?_ ?_⟩
        ·simp only[Go.execOp]
         refine dM ?_
         rw[nz,run_convert_bytes_string w src dst e (some ad) len cap hs hu hd]
         exact fe
        ·rw[foldl_push];simpa using e2
        ·rw[foldl_push];simpa using e3
       ·cases hl
      ·cases hl
     ·cases hl
    ·rename_i L len sz fl hb
     replace hl:=bj hl;obtain⟨af3,hl⟩:=hl
     have af3:=yB af3
     subst af3
     split at hl
     ·rename_i n c hof
      cases hl
      have hv:=hE x (by simp[Op.operands]) px _ hx hb
      generalize nz:ev x=xx at hv
      cases hv with|sl _ _ _ _ cap c' o ad vs vG hn hle tu hf hg=>
      have hvl:=vG.length
      have QL:(loadCells ad len).run P w=.ok vs.toArray w:=by
       by_cases h0:len=0
       ·subst h0
        have:vs=[]:=zqr (by omega)
        subst this
        simp[loadCells,loadCellsFrom]
       ·have tu:ad=⟨c',o,none⟩:=tu.resolve_left (by omega)
        subst tu
        rw[XU hM hf (by omega),XO (by omega)]
      obtain⟨bs,e1,e2,e3⟩:=LW hof vG
      have e1':vs=(bs.map fun b=>((b.toNat:Nat):Int)).map (Value.int .u8):=by rw[e1];simp
      rw[e1'] at QL
      have fe:=run_bytesToString w ad len cap (bs.map fun b=>((b.toNat:Nat):Int)) QL
      refine⟨_,?_,.str _ _ (((bs.map fun b=>((b.toNat:Nat):Int)).foldl (fun r n=>r.push (UInt8.ofNat n.toNat)) ByteArray.empty)) ?_ ?_⟩
      ·simp only[Go.execOp]
       refine dM ?_
       rw[nz,run_convert_bytes_string w src dst e (some ad) len cap hs hu hd]
       exact fe
      ·rw[foldl_push];simpa using e2
      ·rw[foldl_push];simpa using e3
     ·cases hl
    ·cases hl
   ·cases hp
  ·split at hp
   ·cases hp;simp[lightOp] at hl
   ·cases hp
  ·cases hp
 |sliceToArrayPointer t x=>simp[lW] at hp
 |makeInterface t x=>
  simp only[lW] at hp
  split at hp
  ·cases hp
  ·cases hp
  ·rename_i d hn hu
   obtain⟨px,hx,rfl⟩:=map_some hp
   simp only[lightOp] at hl
   split at hl
   ·rename_i v hb
    cases hl
    have hv:=hE x (by simp[Op.operands]) px _ hx hb
    refine⟨.iface t (ev x),?_,.iface _ _ _ hv⟩
    simp only[Go.execOp]
    refine dM ?_
    simp only[Instr.makeInterface,uu,ag hu,pY]
    cases d<;>first|rfl|exact absurd rfl (hn _)
   ·cases hl
 |makeFunc f first cap=>
  cases f with
  |func f=>
   simp only[lW] at hp
   split at hp
   ·rename_i pf pc h1 h2
    cases hp
    simp only[lightOp] at hl
    split at hl
    ·rename_i la lc ha hc
     cases hl
     have e1:=rZ (ev:=ev) h1 ha (hE.sub fun y hy=>by simp[Op.operands] at hy ⊢;exact .inl hy)
     have e2:=rZ (ev:=ev) h2 hc (hE.sub fun y hy=>by simp[Op.operands] at hy ⊢;exact .inr hy)
     refine⟨.func (.func f) (first.map ev) (cap.map ev),?_,.fn _ _ _ _ _ (by simpa using e1) (by simpa using e2)⟩
     simp[Go.execOp,Instr.makeFunc]
    ·cases hl
   ·cases hp
  |method n=>simp[lW] at hp
  |methodOf t n=>simp[lW] at hp
  |via t p f b=>simp[lW] at hp
  |yield l=>simp[lW] at hp
 |makeMap t r=>cases r<;>simp[lW] at hp;subst hp;simp[lightOp] at hl
 |makeChan t s=>simp[lW] at hp
 |makeSlice t l c=>
  simp only[lW] at hp
  split at hp
  ·split at hp
   ·split at hp
    ·replace hp:=bj hp;obtain⟨_,hp⟩:=hp
     cases hp;simp[lightOp] at hl
    ·cases hp
   ·cases hp
  ·cases hp
 |slice t x lo hi mx=>
  cases mx with
  |some m=>simp[lW] at hp
  |none=>
   have anq:∀ x',lo=some x'→x'∈(Op.slice t x lo hi none).operands.toList:=by intro x' e;subst e;simp[Op.operands]
   have anr:∀ x',hi=some x'→x'∈(Op.slice t x lo hi none).operands.toList:=by intro x' e;subst e;simp[Op.operands]
   simp only[lW] at hp
   split at hp
   ·rename_i px plo phi hx vj hhi
    split at hp
    ·rename_i hu
     cases hp
     simp only[lightOp] at hl
     split at hl
     ·rename_i n c hb
      split at hl
      ·rename_i l r hl1 hr1
       replace hl:=bj hl;obtain⟨RO,hl⟩:=hl
       cases hl
       simp only[Ad,Nat.ble_eq] at RO
       have hv:=hE x (by simp[Op.operands]) px _ hx hb
       generalize nz:ev x=xx at hv
       cases hv with|str _ _ s hs hs'=>
       have tF:s.size=n:=by rw[Lib.size_eq];exact hs
       have b1:=nC vj hl1 hE anq
       have b2:=nC hhi hr1 hE anr
       have hb:=vh (P:=P) (w:=w) (isSlice:=false) (len:=s.size) (cap:=s.size) (l:=l) (r:=r) (lo:=lo.map ev) (hi:=hi.map ev)
        (by rcases b1 with⟨e,e'⟩|⟨x',k,e,e'⟩<;>subst e<;>simp[e']) (by rcases b2 with⟨e,e'⟩|⟨x',k,e,e'⟩<;>subst e<;>simp[e',tF]) RO.1 (by omega) (bS _)
       refine⟨.string (s.extract l r),?_,.str _ _ _ ?_ ?_⟩
       ·simp only[Go.execOp]
        refine dM ?_
        simp only[nz,Instr.sliceAt,uu,ag hu,pY,Instr.slice,Option.map_none,Option.isSome_none,Yz,if_false,hb,AP]
       ·rw[Lib.extract_data];simp;omega
       ·rw[Lib.extract_data,ak1,aei,hs']
        show _=Nat.mod (Nat.shiftRight c (8*l)) (Nat.pow 2 (8*(r-l)))
        have e1:Nat.shiftRight c (8*l)=c / 2^(8*l):=Nat.shiftRight_eq_div_pow _ _
        have e2:Nat.pow 2 (8*(r-l))=256^(r-l):=acH (r-l)
        rw[e1,e2,acH]
        rfl
      ·cases hl
     ·cases hl
    ·rename_i e hu
     split at hp
     ·rename_i ie LV
      replace hp:=bj hp;obtain⟨Oc,hp⟩:=hp
      cases hp
      simp only[lightOp] at hl
      split at hl
      ·rename_i b off len T8 hb
       split at hl
       ·rename_i l r hl1 hr1
        replace hl:=bj hl;obtain⟨RO,hl⟩:=hl
        cases hl
        simp only[Ad,Nat.ble_eq] at RO
        have Zw:=yB RO.2
        subst Zw
        have hv:=hE x (by simp[Op.operands]) px _ hx hb
        generalize nz:ev x=xx at hv
        cases hv with|slice _ _ _ _ cap lc ad hm Ob hlen tu=>
        have b1:=nC vj hl1 hE anq
        have b2:=nC hhi hr1 hE anr
        have hb:=vh (P:=P) (w:=w) (isSlice:=true) (len:=len) (cap:=cap) (l:=l) (r:=r) (lo:=lo.map ev) (hi:=hi.map ev)
         (by rcases b1 with⟨e,e'⟩|⟨x',k,e,e'⟩<;>subst e<;>simp[e']) (by rcases b2 with⟨e,e'⟩|⟨x',k,e,e'⟩<;>subst e<;>simp[e']) RO.1.1 RO.1.2 hlen
        have OT:l≤cap:=by omega
        refine⟨.slice (if cap=l then some ad else some (ad.add (l*ie.size))) (r-l) (cap-l),?_,?_⟩
        ·simp only[Go.execOp]
         refine dM ?_
         simp only[nz,Instr.sliceAt,uu,ag hu,pY,Instr.slice,Option.map_none,hb,bL LV,AP,Option.map_some]
        ·have adp:off+l*ie.size+(cap-l)*ie.size=lc.ext:=by
          rw[← Ob,Nat.add_assoc,← Nat.add_mul]
          congr 2
          omega
         by_cases he:cap=l
         ·rw[if_pos he]
          exact .slice b _ _ _ _ lc ad hm adp (by omega) (.inl (by omega))
         ·rw[if_neg he]
          refine .slice b _ _ _ _ lc _ hm adp (by omega) (.inr ?_)
          rcases tu with h0|h0
          ·omega
          ·subst h0;rw[z6];simp[Nat.add_assoc]
       ·cases hl
      ·rename_i hb
       split at hl
       ·rename_i l r hl1 hr1
        replace hl:=bj hl;obtain⟨RO,hl⟩:=hl
        cases hl
        simp only[Ad] at RO
        have h0:=yB RO.1
        have h1:=yB RO.2
        subst h0 h1
        have hv:=hE x (by simp[Op.operands]) px _ hx hb
        generalize nz:ev x=xx at hv
        cases hv
        have b1:=nC vj hl1 hE anq
        have b2:=nC hhi hr1 hE anr
        have hb:=vh (P:=P) (w:=w) (isSlice:=true) (len:=0) (cap:=0) (l:=0) (r:=0) (lo:=lo.map ev) (hi:=hi.map ev)
         (by rcases b1 with⟨e,e'⟩|⟨x',k,e,e'⟩<;>subst e<;>simp[e']) (by rcases b2 with⟨e,e'⟩|⟨x',k,e,e'⟩<;>subst e<;>simp[e']) (bS _) (bS _) (bS _)
        refine⟨.slice none 0 0,?_,.nils⟩
        simp only[Go.execOp]
        refine dM ?_
        simp only[nz,Instr.sliceAt,uu,ag hu,pY,Instr.slice,Option.map_none,hb,bL LV,AP,if_true]
       ·cases hl
      ·rename_i L len T8 fl hb
       split at hl
       ·rename_i l r hl1 hr1
        replace hl:=bj hl;obtain⟨RO,hl⟩:=hl
        simp only[Ad,Nat.ble_eq] at RO
        have Zw:=yB RO.2
        subst Zw
        rw[takeC_eq,dropL_eq] at hl
        split at hl
        ·rename_i htk
         cases hl
         have hv:=hE x (by simp[Op.operands]) px _ hx hb
         generalize nz:ev x=xx at hv
         cases hv with|sl _ _ _ _ cap c o ad vs vG hn hle tu hf hg=>
         have b1:=nC vj hl1 hE anq
         have b2:=nC hhi hr1 hE anr
         have hb:=vh (P:=P) (w:=w) (isSlice:=true) (len:=len) (cap:=cap) (l:=l) (r:=r) (lo:=lo.map ev) (hi:=hi.map ev)
          (by rcases b1 with⟨e,e'⟩|⟨x',k,e,e'⟩<;>subst e<;>simp[e']) (by rcases b2 with⟨e,e'⟩|⟨x',k,e,e'⟩<;>subst e<;>simp[e']) RO.1.1 RO.1.2 hle
         refine⟨.slice (if cap=l then some ad else some (ad.add (l*ie.size))) (r-l) (cap-l),?_,?_⟩
         ·simp only[Go.execOp]
          refine dM ?_
          simp only[nz,Instr.sliceAt,uu,ag hu,pY,Instr.slice,Option.map_none,hb,bL LV,AP,Option.map_some]
         ·have apl:((L.drop (l*ie.size)).take ((r-l)*ie.size)).length=(r-l)*ie.size:=by
           rw[zqy];omega
          have Oo:Zm μ c (o+l*ie.size) (r-l) (cap-l) ie.size (bif Nat.beq r len then fl else .any):=by
           cases On:Nat.beq r len with
           |false=>trivial
           |true=>
            have On:=yB On
            subst On
            cases fl with
            |any=>trivial
            |tok tb=>
             have hg:μ tb=some ⟨c,o+r*ie.size,(cap-r)*ie.size⟩:=hg
             show μ tb=some ⟨c,o+l*ie.size+(r-l)*ie.size,(cap-l-(r-l))*ie.size⟩
             rw[hg]
             have e1:o+r*ie.size=o+l*ie.size+(r-l)*ie.size:=by
              rw[Nat.add_assoc,← Nat.add_mul];congr 2;omega
             have e2:cap-r=cap-l-(r-l):=by omega
             rw[e1,e2]
          by_cases he:cap=l
          ·rw[if_pos he]
           exact .sl _ _ _ _ _ c (o+l*ie.size) ad _ ((vG.drop _).take _) apl (by omega) (.inl (by omega)) (abY (OP hf _) _) Oo
          ·rw[if_neg he]
           refine .sl _ _ _ _ _ c (o+l*ie.size) _ _ ((vG.drop _).take _) apl (by omega) (.inr ?_) (abY (OP hf _) _) Oo
           rcases tu with h0|h0
           ·omega
           ·subst h0;rw[z6]
        ·cases hl
       ·cases hl
      ·cases hl
     ·cases hp
    ·cases hp
   ·cases hp
 |fieldAddr s x f=>
  simp only[lW] at hp
  split at hp
  ·rename_i fs hu
   split at hp
   ·rename_i fd hfd
    split at hp
    ·rename_i i px hi hx
     cases hz:Nat.beq i.size 0 with
     |true=>rw[hz] at hp;cases hp
     |false=>
      rw[hz] at hp
      simp only[cond_false,dO] at hp;subst hp
      have tF:i.size≠0:=by intro e;rw[e] at hz;cases hz
      simp only[lightOp] at hl
      split at hl
      ·rename_i b o hb
       cases hl
       have hv:=hE x (by simp[Op.operands]) px _ hx hb
       generalize nz:ev x=xx at hv
       cases hv with|ptr _ _ l ad hm tu=>
       subst tu
       refine⟨.pointer (some ⟨l.c,l.base+(o+fd.offset),none⟩),?_,.ptr _ _ l _ hm rfl⟩
       simp only[Go.execOp]
       refine dM ?_
       simp only[nz,Instr.fieldAt,uu,ag hu,pY,hfd,Instr.sureAddr,AP,fieldPlace,bL hi,Sem.run_ite,tF,if_false,z6,Nat.add_assoc]
      ·rename_i l hb
       cases hl
       have hv:=hE x (by simp[Op.operands]) px _ hx hb
       generalize nz:ev x=xx at hv
       cases hv with|cref _ c o ad vs hr tu hf=>
       subst tu
       rw[dropL_eq]
       refine⟨.pointer (some ⟨c,o+fd.offset,none⟩),?_,.cref _ c (o+fd.offset) _ _ (hr.drop _) rfl (OP hf _)⟩
       simp only[Go.execOp]
       refine dM ?_
       simp only[nz,Instr.fieldAt,uu,ag hu,pY,hfd,Instr.sureAddr,AP,fieldPlace,bL hi,Sem.run_ite,tF,if_false,z6]
      ·cases hl
    ·cases hp
   ·cases hp
  ·cases hp
 |field t x f=>
  simp only[lW] at hp
  split at hp
  ·rename_i fs hu
   split at hp
   ·rename_i fd hfd
    split at hp
    ·rename_i ti px hti hx
     obtain⟨i,d,z,hi,hd,hz,hzv,tF,YD⟩:=oY hti
     cases hp
     simp only[lightOp] at hl
     split at hl
     ·rename_i L hb
      have hv:=hE x (by simp[Op.operands]) px _ hx hb
      generalize nz:ev x=xx at hv
      cases hv with|agg _ vs hL=>
      rw[YD,tF] at hl
      obtain⟨v,hv,hr⟩:=YE (P:=P) (w:=w) hi hd hL hl
      refine⟨v,?_,hr⟩
      simp only[Go.execOp]
      refine dM ?_
      simp only[nz,Instr.field,uu,ag hu,pY,hfd,asAgg,AP,hv]
     ·cases hl
    ·cases hp
   ·cases hp
  ·cases hp
 |indexAddr t x ix=>
  simp only[lW] at hp
  split at hp
  ·rename_i len e px pi hu hx IU
   split at hp
   ·rename_i ie LV
    replace hp:=bj hp;obtain⟨Oc,hp⟩:=hp
    cases hp
    simp only[lightOp] at hl
    split at hl
    ·rename_i b o vi hb hbi
     split at hl
     ·rename_i j hj
      replace hl:=bj hl;obtain⟨aM,hl⟩:=hl
      cases hl
      rw[bltN_eq,decide_eq_true_eq] at aM
      have hv:=hE x (by simp[Op.operands]) px _ hx hb
      obtain⟨k,hk⟩:=lV hj (hE ix (by simp[Op.operands]) pi _ IU hbi)
      generalize nz:ev x=xx at hv
      cases hv with|ptr _ _ l ad hm tu=>
      subst tu
      refine⟨.pointer (some ⟨l.c,l.base+(o+j*ie.size),none⟩),?_,.ptr _ _ l _ hm rfl⟩
      simp only[Go.execOp]
      refine dM ?_
      have hr:(0:Int)≤(j:Int)∧(j:Int)<(len:Int):=by omega
      simp only[nz,hk,Instr.indexAt,asIntOf,uu,ag hu,pY,Instr.sureAddr,AP,hr,and_self,if_true,bL LV,z6,Int.toNat_natCast,Nat.add_assoc]
     ·cases hl
    ·rename_i L vi hb hbi
     split at hl
     ·rename_i j hj
      replace hl:=bj hl;obtain⟨aM,hl⟩:=hl
      cases hl
      rw[bltN_eq,decide_eq_true_eq] at aM
      have hv:=hE x (by simp[Op.operands]) px _ hx hb
      obtain⟨k,hk⟩:=lV hj (hE ix (by simp[Op.operands]) pi _ IU hbi)
      generalize nz:ev x=xx at hv
      cases hv with|cref _ c o ad vs vG tu hf=>
      subst tu
      rw[dropL_eq]
      refine⟨.pointer (some ⟨c,o+j*ie.size,none⟩),?_,.cref _ c (o+j*ie.size) _ _ (vG.drop _) rfl (OP hf _)⟩
      simp only[Go.execOp]
      refine dM ?_
      have hr:(0:Int)≤(j:Int)∧(j:Int)<(len:Int):=by omega
      simp only[nz,hk,Instr.indexAt,asIntOf,uu,ag hu,pY,Instr.sureAddr,AP,hr,and_self,if_true,bL LV,z6,Int.toNat_natCast]
     ·cases hl
    ·cases hl
   ·cases hp
  ·rename_i e px pi hu hx IU
   split at hp
   ·rename_i ie LV
    replace hp:=bj hp;obtain⟨Oc,hp⟩:=hp
    cases hp
    simp only[lightOp] at hl
    split at hl
    ·rename_i b off len T8 vi hb hbi
     split at hl
     ·rename_i j hj
      replace hl:=bj hl;obtain⟨aM,hl⟩:=hl
      cases hl
      simp only[Ad] at aM
      have Zw:=yB aM.2
      subst Zw
      have aM:=aM.1
      rw[bltN_eq,decide_eq_true_eq] at aM
      have hv:=hE x (by simp[Op.operands]) px _ hx hb
      obtain⟨k,hk⟩:=lV hj (hE ix (by simp[Op.operands]) pi _ IU hbi)
      generalize nz:ev x=xx at hv
      cases hv with|slice _ _ _ _ cap l ad hm Ob hlen tu=>
      have tu:ad=⟨l.c,l.base+off,none⟩:=tu.resolve_left (by omega)
      subst tu
      refine⟨.pointer (some ⟨l.c,l.base+(off+j*ie.size),none⟩),?_,.ptr _ _ l _ hm rfl⟩
      simp only[Go.execOp]
      refine dM ?_
      have hr:(0:Int)≤(j:Int)∧(j:Int)<(len:Int):=by omega
      simp only[nz,hk,Instr.indexAt,asIntOf,uu,ag hu,pY,AP,hr,and_self,if_true,bL LV,z6,Int.toNat_natCast,Nat.add_assoc]
     ·cases hl
    ·rename_i L len T8 fl vi hb hbi
     split at hl
     ·rename_i j hj
      replace hl:=bj hl;obtain⟨aM,hl⟩:=hl
      simp only[Ad] at aM
      have Zw:=yB aM.2
      subst Zw
      have aM:=aM.1
      rw[bltN_eq,decide_eq_true_eq] at aM
      rw[takeC_eq,dropL_eq] at hl
      split at hl
      ·rename_i htk
       cases hl
       have hv:=hE x (by simp[Op.operands]) px _ hx hb
       obtain⟨k,hk⟩:=lV hj (hE ix (by simp[Op.operands]) pi _ IU hbi)
       generalize nz:ev x=xx at hv
       cases hv with|sl _ _ _ _ cap c o ad vs vG hn hle tu hf hg=>
       have tu:ad=⟨c,o,none⟩:=tu.resolve_left (by omega)
       subst tu
       refine⟨.pointer (some ⟨c,o+j*ie.size,none⟩),?_,.cref _ c (o+j*ie.size) _ _ ((vG.drop _).take _) rfl (abY (OP hf _) _)⟩
       simp only[Go.execOp]
       refine dM ?_
       have hr:(0:Int)≤(j:Int)∧(j:Int)<(len:Int):=by omega
       simp only[nz,hk,Instr.indexAt,asIntOf,uu,ag hu,pY,AP,hr,and_self,if_true,bL LV,z6,Int.toNat_natCast]
      ·cases hl
     ·cases hl
    ·cases hl
   ·cases hp
  ·cases hp
 |index t x ix=>
  simp only[lW] at hp
  split at hp
  ·rename_i px pi hu hx IU
   cases hp
   simp only[lightOp] at hl
   split at hl
   ·rename_i n c vi hb hbi
    split at hl
    ·rename_i j hj
     replace hl:=bj hl;obtain⟨aM,hl⟩:=hl
     cases hl
     rw[bltN_eq,decide_eq_true_eq] at aM
     have hv:=hE x (by simp[Op.operands]) px _ hx hb
     obtain⟨k,hk⟩:=lV hj (hE ix (by simp[Op.operands]) pi _ IU hbi)
     generalize nz:ev x=xx at hv
     cases hv with|str _ _ s hs hs'=>
     have RX:j<s.data.toList.length:=by omega
     have hjs:s[j]?=some s.data.toList[j]:=by
      have:j<s.size:=by rw[Lib.size_eq];exact RX
      rw[getElem?_pos s j this]
      rfl
     refine⟨.int .u8 (s.data.toList[j]).toNat,?_,.int _ _ _ ?_⟩
     ·simp only[Go.execOp]
      refine dM ?_
      have h0:(0:Int)≤(j:Int):=by omega
      simp only[nz,hk,Instr.index,asIntOf,uu,AP,ag hu,pY,h0,if_true,Int.toNat_natCast,hjs]
     ·simp only[SI.den]
      show((Nat.mod (Nat.shiftRight c (8*j)) 256:Nat):Int)=_
      have e1:Nat.shiftRight c (8*j)=c / 2^(8*j):=Nat.shiftRight_eq_div_pow _ _
      rw[e1,acH,← hs']
      have:=ans s.data.toList j RX
      show((enc s.data.toList / 256^j%256:Nat):Int)=_
      rw[this]
    ·cases hl
   ·cases hl
  ·rename_i len e px pi hu hx IU
   split at hp
   ·rename_i ti hti
    obtain⟨i,d,z,hi,hd,hz,hzv,tF,YD⟩:=oY hti
    cases hp
    simp only[lightOp] at hl
    split at hl
    ·rename_i L vi hb hbi
     split at hl
     ·rename_i j hj
      replace hl:=bj hl;obtain⟨aM,hl⟩:=hl
      rw[bltN_eq,decide_eq_true_eq] at aM
      have hv:=hE x (by simp[Op.operands]) px _ hx hb
      obtain⟨k,hk⟩:=lV hj (hE ix (by simp[Op.operands]) pi _ IU hbi)
      generalize nz:ev x=xx at hv
      cases hv with|agg _ vs hL=>
      rw[YD,tF] at hl
      obtain⟨v,hv,hr⟩:=YE (P:=P) (w:=w) hi hd hL hl
      refine⟨v,?_,hr⟩
      simp only[Go.execOp]
      refine dM ?_
      have hr:(0:Int)≤(j:Int)∧(j:Int)<(len:Int):=by omega
      simp only[nz,hk,Instr.index,asIntOf,uu,AP,ag hu,pY,hr,and_self,if_true,bL hi,Int.toNat_natCast,hv]
     ·cases hl
    ·cases hl
   ·cases hp
  ·cases hp
 |lookup t m k ok=>
  simp only[lW] at hp
  split at hp
  ·rename_i kt e hu
   have main:∀ (sk:Bool) (kd:TypeDesc) (ti:TI) (pm pk:PX),LX P kt sk kd→tyI P e=some ti→pX P nt m=some pm→pX P nt k=some pk→op=.lookup sk ti.zero ok pm pk→
     ∃ v,(Go.execOp ev ⟨dst,.lookup t m k ok,ty,pos,after,guard⟩).run P w=.ok (.value v) w∧bn ρ μ a v:=by
    intro sk kd ti pm pk NM hti hm hk e'
    subst e'
    obtain⟨i,d,z,hi,hd,hz,hzv,tF,YD⟩:=oY hti
    simp only[lightOp] at hl
    split at hl
    ·rename_i b ka hb hka
     split at hl
     ·rename_i L hL
      have hvm:=hE m (by simp[Op.operands]) pm _ hm hb
      have hvk:=hE k (by simp[Op.operands]) pk _ hk hka
      generalize Ws:ev m=mm at hvm
      cases hvm with|map _ l r oH hr=>
      subst hr
      obtain⟨l',o',h1,h2,h3⟩:=hM.Vo b _ (hH _ _ hL)
      rw[oH] at h1;cases h1
      cases h3 with|map _ _ es clock fg QW acE=>
      have sm:(getObj l.c).run P w=.ok (.map es clock) w:=by simp[getObj,Sem.run,h2]
      have awG:∀ f,Instr.findNow kd (ev k) es.toList 0=some f→∀ v okv,(match f with|some (_,v')=>v'=v∧okv=true|none=>z=v∧okv=false)→
        (Go.execOp ev ⟨dst,.lookup t m k ok,ty,pos,after,guard⟩).run P w=.ok (.value (if ok then .tuple #[v,.bool okv] else v)) w:=by
       intro f hf v okv hfv
       simp only[Go.execOp]
       refine dM ?_
       simp only[Ws,Instr.lookup,uu,ag hu,pY,sm,AP,run_checkKey NM _ 9999,run_findKey NM.1 hf]
       cases f with
       |none=>obtain⟨rfl,rfl⟩:=hfv;simp[vC hi hz]
       |some p=>obtain⟨j,v'⟩:=p;obtain⟨rfl,rfl⟩:=hfv;simp
      split at hl
      ·rename_i v hf
       obtain⟨f,hf1,hf2⟩:=QX ho NM hvk 0 fg hf
       cases f with
       |none=>exact hf2.elim
       |some p=>
        obtain⟨j,v'⟩:=p
        have:=awG _ hf1 v' true ⟨rfl,rfl⟩
        cases hl
        refine⟨_,this,?_⟩
        cases ok with
        |true=>exact .tuple _ _ (.cons _ _ _ _ hf2 (.one (.bool _)))
        |false=>exact hf2
      ·rename_i hf
       obtain⟨f,hf1,hf2⟩:=QX ho NM hvk 0 fg hf
       cases f with
       |some p=>exact hf2.elim
       |none=>
        have:=awG _ hf1 z false ⟨rfl,rfl⟩
        cases hl
        refine⟨_,this,?_⟩
        cases ok with
        |true=>exact .tuple _ _ (.cons _ _ _ _ (kY Bt z ti.zero hzv) (.one (.bool _)))
        |false=>exact kY Bt z ti.zero hzv
      ·cases hl
     ·cases hl
    ·cases hl
   split at hp
   ·simp only[dO] at hp;exact main false _ _ _ _ ⟨‹_›,by simp⟩ ‹_› ‹_› ‹_› hp.symm
   ·simp only[dO] at hp;exact main true _ _ _ _ ⟨‹_›,by simp⟩ ‹_› ‹_› ‹_› hp.symm
   ·cases hp
  ·cases hp
 |mapUpdate t m k v=>
  simp only[lW] at hp
  split at hp
  ·split at hp
   ·cases hp;simp[lightOp] at hl
   ·cases hp;simp[lightOp] at hl
   ·split at hp
    ·cases hp;simp[lightOp] at hl
    ·cases hp
   ·split at hp
    ·cases hp;simp[lightOp] at hl
    ·cases hp
   ·cases hp
  ·cases hp
 |mapEntry t m k=>simp[lW] at hp
 |entryStore t m k v=>simp[lW] at hp
 |range t x=>
  simp only[lW] at hp
  split at hp
  ·obtain⟨px,hx,rfl⟩:=map_some hp;simp[lightOp] at hl
  ·cases hp
 |next it s=>
  cases s
  ·obtain⟨px,hx,rfl⟩:=map_some hp;simp[lightOp] at hl
  ·simp[lW] at hp
 |entry it=>
  obtain⟨px,hx,rfl⟩:=map_some hp
  simp only[lightOp] at hl
  split at hl
  ·rename_i b hb
   split at hl
   ·rename_i m n seen hit
    split at hl
    ·rename_i L c s iZ hls
     replace hl:=bj hl;obtain⟨hcn,hl⟩:=hl
     have hcn:=yB hcn
     subst hcn
     have hv:=hE it (by simp[Op.operands]) px _ hx hb
     generalize nz:ev it=xx at hv
     cases hv with|ptr _ _ l ad oH ha=>
     subst ha
     obtain⟨l',o',h1,h2,h3⟩:=hM.Vo b _ (hH _ _ hit)
     rw[oH] at h1;cases h1
     cases h3 with|iter _ _ _ _ lm sa Ws hsa hzero=>
     obtain⟨l2,es,k1,k2,fg⟩:=af1 hM hH iZ
     rw[Ws] at k1;cases k1
     subst hsa
     obtain⟨k,v,e,rfl,q1,q2,q3⟩:=abj fg hl
     have awH:sa.back?=some s:=by rw[← Array.getLast?_toList];exact aeg hls
     have ak2:es.find? (·.born==s)=some e:=by rw[← Array.find?_toList];exact q1
     refine⟨.tuple #[e.key,e.val],?_,.tuple _ _ (.cons _ _ _ _ q2 (.one q3))⟩
     simp only[Go.execOp]
     refine dM ?_
     have g1:(getObj l.c).run P w=.ok (.mapIter (some lm.c) c sa c) w:=by simp[getObj,Sem.run,h2]
     have g2:(getObj lm.c).run P w=.ok (.map es c) w:=by simp[getObj,Sem.run,k2]
     have aow:l.base+0=0:=by rw[hzero]
     simp[nz,aow,Instr.entry,g1,g2,awH,ak2]
    ·cases hl
   ·cases hl
  ·cases hl
 |typeAssert x xt t ok=>
  simp only[lW] at hp
  split at hp
  ·cases hp
  ·rename_i d ti px hn hu hti hx
   obtain⟨i,d',z,hi,hd,hz,hzv,tF,YD⟩:=oY hti
   cases hp
   simp only[lightOp] at hl
   split at hl
   ·rename_i t' u hb
    have hv:=hE x (by simp[Op.operands]) px _ hx hb
    generalize nz:ev x=xx at hv
    cases hv with|iface _ _ vv hvv=>
    have fe : ∀ r, (if t' = t then (pure (if ok then .tuple #[vv, .bool true] else vv) : Sem Value) else (if ok then do pure (.tuple #[← zeroValue t, .bool false]) else runtimePanic (.typeAssertion (some xt) (some t') t ""))).run P w = .ok r w →
      (Go.execOp ev ⟨dst,.typeAssert x xt t ok,ty,pos,after,guard⟩).run P w=.ok (.value r) w:=by
     intro r hr
     simp only[Go.execOp]
     refine dM ?_
     simp only[nz,Instr.typeAssert,uu,ag hu,pY]
     cases d<;>first|exact absurd rfl (hn _ _ _)|exact hr
    cases ok with
    |true=>
     simp only[cond_true] at hl
     cases ht:Nat.beq t t' with
     |true=>
      rw[ht] at hl
      simp only[cond_true,dO] at hl;subst hl
      have:=yB ht
      subst this
      exact⟨_,fe _ (by simp),.tuple _ _ (.cons _ _ _ _ hvv (.one (.bool _)))⟩
     |false=>
      rw[ht] at hl
      simp only[cond_false,dO] at hl;subst hl
      have eM:¬ t'=t:=by intro e;subst e;simp at ht
      exact⟨_,fe (.tuple #[z,.bool false]) (by simp[eM,vC hi hz]),.tuple _ _ (.cons _ _ _ _ (kY Bt z ti.zero hzv) (.one (.bool _)))⟩
    |false=>
     simp only[cond_false] at hl
     replace hl:=bj hl;obtain⟨ht,hl⟩:=hl
     cases hl
     have:=yB ht
     subst this
     exact⟨_,fe _ (by simp),hvv⟩
   ·cases hl
  ·cases hp
 |extract x i=>
  simp only[lW] at hp
  split at hp
  ·rename_i px hx
   cases hp
   simp only[lightOp] at hl
   split at hl
   ·rename_i L hb
    have hv:=hE x (by simp[Op.operands]) px _ hx hb
    generalize nz:ev x=xx at hv
    cases hv with|tuple _ vs hL=>
    rw[nth_eq] at hl
    obtain⟨v,hv,hr⟩:=hL.get i a hl
    have hvi:vs[i]?=some v:=by simpa using hv
    exact⟨v,by simp[Go.execOp,nz,Instr.extract,hvi],hr⟩
   ·cases hl
  ·cases hp
 |call c=>
  obtain⟨callee,args,argTypes⟩:=c
  simp only[lW] at hp
  split at hp
  ·split at hp
   ·replace hp:=bj hp;obtain⟨_,hp⟩:=hp
    cases hp;simp[lightOp] at hl
   ·cases hp
  ·split at hp
   ·cases hp;simp[lightOp] at hl
   ·cases hp
  ·cases hp
  ·rename_i b
   have hex:∀ (X:Sem Value),Go.builtin b argTypes ty (args.map fun|.const _=>true|_=>false) (args.map ev)=(do pure (.value (← X)))→
     Go.execOp ev ⟨dst,.call ⟨.builtin b,args,argTypes⟩,ty,pos,after,guard⟩=(do pure (.value (← X))):=by
    intro X hX
    rw[← hX]
    rfl
   have mx:∀ (isMax:Bool) (pa pb:PX),Yi P nt args.toList=some [pa,pb]→b=(if isMax then .max else .min)→op=.mx isMax pa pb→
     ∃ v,(Go.execOp ev ⟨dst,.call ⟨.builtin b,args,argTypes⟩,ty,pos,after,guard⟩).run P w=.ok (.value v) w∧bn ρ μ a v:=by
    intro isMax pa pb hpx hb GG
    obtain⟨X,Y,iv,hX,hY⟩:=acD hpx
    have af4:args=#[X,Y]:=by apply Array.ext';simpa using iv
    subst af4 GG
    simp only[lightOp] at hl
    split at hl
    ·rename_i k1 s1 k2 s2 h1 h2
     replace hl:=bj hl;obtain⟨hk,hl⟩:=hl
     have:=Ab hk
     subst this
     have hv1:=hE X (by simp[Op.operands,Call.operands]) pa _ hX h1
     have hv2:=hE Y (by simp[Op.operands,Call.operands]) pb _ hY h2
     generalize nz:ev X=xx at hv1
     generalize hyy:ev Y=yy at hv2
     cases hv1 with|int _ _ n1 e1=>cases hv2 with|int _ _ n2 e2=>
     cases isMax with
     |true=>
      simp only[if_true] at hb
      subst hb
      simp only[cond_true] at hl
      have fe:∀ r:Bool,VK orc .gtr s2 s1=some r→(Go.execOp ev ⟨dst,.call ⟨.builtin .max,#[X,Y],argTypes⟩,ty,pos,after,guard⟩).run P w=.ok (.value (.int k1 (if r then n2 else n1))) w:=by
       intro r hr
       have hc:=Gk ho hr
       rw[e1,e2] at hc
       simp only[Gl,dO] at hc
       rw[hex (Builtin.max_ argTypes ty (#[X,Y].map ev)) rfl]
       refine dM ?_
       subst hc
       simp[Builtin.max_,nz,hyy,Builtin.max2]
      split at hl
      ·rename_i hr
       cases hl
       exact⟨_,fe _ hr,.int _ _ _ e2⟩
      ·rename_i hr
       cases hl
       exact⟨_,fe _ hr,.int _ _ _ e1⟩
      ·cases hl
     |false=>
      simp only[Yz,if_false] at hb
      subst hb
      simp only[cond_false] at hl
      have fe:∀ r:Bool,VK orc .lss s2 s1=some r→(Go.execOp ev ⟨dst,.call ⟨.builtin .min,#[X,Y],argTypes⟩,ty,pos,after,guard⟩).run P w=.ok (.value (.int k1 (if r then n2 else n1))) w:=by
       intro r hr
       have hc:=Gk ho hr
       rw[e1,e2] at hc
       simp only[Gl,dO] at hc
       rw[hex (Builtin.min_ argTypes ty (#[X,Y].map ev)) rfl]
       refine dM ?_
       subst hc
       simp[Builtin.min_,nz,hyy,Builtin.min2]
      split at hl
      ·rename_i hr
       cases hl
       exact⟨_,fe _ hr,.int _ _ _ e2⟩
      ·rename_i hr
       cases hl
       exact⟨_,fe _ hr,.int _ _ _ e1⟩
      ·cases hl
    ·cases hl
   split at hp
   ·rename_i px hpx
    obtain⟨X,iv,hX⟩:=ahm hpx
    have af4:args=#[X]:=by apply Array.ext';simpa using iv
    subst af4
    split at hp
    ·rename_i t hty
     have ant:argTypes=#[t]:=by apply Array.ext';simpa using hty
     subst ant
     rw[hex (Builtin.len_ #[t] ty (#[X].map ev)) rfl]
     split at hp
     ·rename_i hu
      cases hp
      simp only[lightOp] at hl
      split at hl
      ·rename_i n c hb
       cases hl
       have hv:=hE X (by simp[Op.operands,Call.operands]) px _ hX hb
       generalize nz:ev X=xx at hv
       cases hv with|str _ _ s hs hs'=>
       refine⟨goInt s.size,?_,.int _ _ _ (by rw[Lib.size_eq,hs];rfl)⟩
       refine dM ?_
       simp[Builtin.len_,nz,ag hu]
      ·cases hl
     ·rename_i e hu
      cases hp
      simp only[lightOp] at hl
      split at hl
      ·rename_i hb
       cases hl
       have hv:=hE X (by simp[Op.operands,Call.operands]) px _ hX hb
       generalize nz:ev X=xx at hv
       cases hv
       refine⟨_,?_,.int _ _ _ rfl⟩
       refine dM ?_
       simp[Builtin.len_,nz,ag hu,goInt,SI.den]
      ·rename_i hb
       cases hl
       have hv:=hE X (by simp[Op.operands,Call.operands]) px _ hX hb
       generalize nz:ev X=xx at hv
       cases hv
       refine⟨_,?_,.int _ _ _ rfl⟩
       refine dM ?_
       simp[Builtin.len_,nz,ag hu,goInt,SI.den]
      ·rename_i hb
       cases hl
       have hv:=hE X (by simp[Op.operands,Call.operands]) px _ hX hb
       generalize nz:ev X=xx at hv
       cases hv
       refine⟨_,?_,.int _ _ _ rfl⟩
       refine dM ?_
       simp[Builtin.len_,nz,ag hu,goInt,SI.den]
      ·cases hl
     ·rename_i kt e hu
      cases hp
      simp only[lightOp] at hl
      split at hl
      ·rename_i b hb
       split at hl
       ·rename_i L hL
        cases hl
        have hv:=hE X (by simp[Op.operands,Call.operands]) px _ hX hb
        generalize nz:ev X=xx at hv
        cases hv with|map _ l r oH hr=>
        subst hr
        obtain⟨l',o',h1,h2,h3⟩:=hM.Vo b _ (hH _ _ hL)
        rw[oH] at h1;cases h1
        cases h3 with|map _ _ es clock fg QW acE=>
        have sm:(getObj l.c).run P w=.ok (.map es clock) w:=by simp[getObj,Sem.run,h2]
        refine⟨goInt es.size,?_,.int _ _ _ ?_⟩
        ·refine dM ?_
         simp[Builtin.len_,nz,ag hu,sm]
        ·have:L.length=es.size:=by
          have hlen:∀ (l:List (AV×AV)) (es:List MapEntry),tA ρ μ l es→l.length=es.length:=by
           intro l
           induction l with
           |nil=>intro es h;cases es with|nil=>rfl|cons _ _=>exact h.elim
           |cons x l ih=>
            intro es h
            cases es with
            |nil=>obtain⟨_,_⟩:=x;exact h.elim
            |cons e es=>obtain⟨_,_⟩:=x;simp[ih es h.2.2]
          have:=hlen _ _ fg
          simpa using this
         rw[lenL_eq,this];rfl
       ·rename_i L c hL
        cases hl
        have hv:=hE X (by simp[Op.operands,Call.operands]) px _ hX hb
        generalize nz:ev X=xx at hv
        cases hv with|map _ l r oH hr=>
        subst hr
        obtain⟨l',o',h1,h2,h3⟩:=hM.Vo b _ (hH _ _ hL)
        rw[oH] at h1;cases h1
        cases h3 with|mapD _ _ es clock fg=>
        have sm:(getObj l.c).run P w=.ok (.map es c) w:=by simp[getObj,Sem.run,h2]
        refine⟨goInt es.size,?_,.int _ _ _ ?_⟩
        ·refine dM ?_
         simp[Builtin.len_,nz,ag hu,sm]
        ·have:L.length=es.size:=by
          have hlen:∀ (l:List (Nat×AV×AV)) (es:List MapEntry),mb ρ μ l es→l.length=es.length:=by
           intro l
           induction l with
           |nil=>intro es h;cases es with|nil=>rfl|cons _ _=>exact h.elim
           |cons x l ih=>
            intro es h
            cases es with
            |nil=>obtain⟨_,_,_⟩:=x;exact h.elim
            |cons e es=>obtain⟨_,_,_⟩:=x;simp[ih es h.2.2.2]
          have:=hlen _ _ fg
          simpa using this
         rw[lenL_eq,this];rfl
       ·cases hl
      ·cases hl
     ·cases hp
    ·cases hp
   ·split at hp
    ·split at hp
     ·split at hp
      ·replace hp:=bj hp;obtain⟨_,hp⟩:=hp
       cases hp;simp[lightOp] at hl
      ·cases hp
     ·split at hp
      ·replace hp:=bj hp;obtain⟨_,hp⟩:=hp
       cases hp;simp[lightOp] at hl
      ·cases hp
     ·cases hp
    ·cases hp
   ·simp only[dO] at hp;exact mx true _ _ ‹_› rfl hp.symm
   ·simp only[dO] at hp;exact mx false _ _ ‹_› rfl hp.symm
   ·cases hp;simp[lightOp] at hl
   ·split at hp
    ·split at hp
     ·split at hp
      ·cases hp;simp[lightOp] at hl
      ·cases hp;simp[lightOp] at hl
      ·cases hp
     ·cases hp
    ·cases hp
   ·cases hp
 |go c=>simp[lW] at hp
 |defer c=>
  simp only[lW] at hp
  split at hp
  ·split at hp
   ·cases hp;simp[lightOp] at hl
   ·cases hp
  ·cases hp
 |panic x=>obtain⟨px,hx,rfl⟩:=map_some hp;simp[lightOp] at hl
 |send c x=>simp[lW] at hp
 |recv t c ok=>simp[lW] at hp
 |select cs b=>simp[lW] at hp
end
end Go.Sx
/-
 SX: operations that make a block. No condition.
-/
namespace Go.Sx
open Go.RowKit
theorem abl{α:Type}{b:Bool}{x:Option α}{y:α}(h:(bif b then none else x)=some y):b=false∧x=some y:=by
 cases b with
 |false=>exact⟨rfl,h⟩
 |true=>cases h
theorem W5{α:Type}(zs:List α)(hz:0<zs.length):∀ (n i:Nat),i<n*zs.length→(List.replicate n zs).flatten[i]?=zs[i%zs.length]?
 |0,i,h=>by simp at h
 |n+1,i,h=>by
  rw[List.replicate_succ,Xh]
  by_cases hi:i<zs.length
  ·rw[List.getElem?_append_left hi,Nat.mod_eq_of_lt hi]
  ·rw[List.getElem?_append_right (by omega),W5 zs hz n (i-zs.length) (by rw[Nat.add_mul] at h;omega)]
   congr 1
   rw[Nat.mod_eq_sub_mod (by omega:zs.length≤i)]
theorem W6{α:Type}(zs:List α)(n:Nat):(List.replicate n zs).flatten.length=n*zs.length:=by
 induction n with
 |zero=>simp
 |succ n ih=>rw[List.replicate_succ,Xh,Lc,ih,Nat.add_mul];omega
section
variable{P:Program}{ρ:Nat→Int}{w0:W0}{w:World}{μ:Mu}{G:Key→Option ab}{nx:Nat}{orc:pF}{nt:Nat}{tm:T AV}{H:T ab}{ev:Operand→Value}
theorem abA{zs:List AV}{z:Array Value}(h:aB ρ μ zs z.toList)(n:Nat) :
  aB ρ μ (List.replicate n zs).flatten ((Array.range (n*z.size)).map (z[· % z.size]!)).toList:=by
 have hlen:zs.length=z.size:=by rw[h.length];simp
 by_cases h0:z.size=0
 ·have:zs=[]:=zqr (by omega)
  subst this
  have e:(List.replicate n ([]:List AV)).flatten=[]:=by simp
  rw[e,h0]
  simp
  exact .nil
 ·refine aB.abW ?_ ?_
  ·rw[W6];simp[hlen]
  ·intro i a ha
   have hi:i<n*zs.length:=by
    rcases Ts i (n*zs.length) with h'|h'
    ·exact h'
    ·rw[zqo (by rw[W6];exact h')] at ha;cases ha
   rw[W5 zs (by omega) n i hi] at ha
   obtain⟨v,hv,hr⟩:=h.get _ a ha
   refine⟨v,?_,hr⟩
   rw[hlen] at hi hv
   have hv':z[i%z.size]?=some v:=by simpa using hv
   have aM:i%z.size<z.size:=Nat.mod_lt _ (by omega)
   simp[hi]
   rw[getElem!_pos z _ aM]
   rw[getElem?_pos z _ aM] at hv'
   simpa using hv'
theorem agy{L:List AV}{vs:Array Value}(h:aB ρ μ L vs.toList)(c:Nat)(elem:TypeId):TJ P ρ μ (.cells L .fix) ⟨c,0,vs.size⟩ (.cells vs elem (0,0)):=by
 have hl:L.length=vs.size:=by rw[h.length];simp
 refine .cells L .fix _ vs elem (0,0) ?_ (by simp) (Nat.le_of_eq hl) (fun _=>rfl) (fun _=>hl)
 intro i a ha
 obtain⟨v,hv,hr⟩:=h.get i a ha
 exact⟨v,by simpa using hv,hr⟩
theorem rY(elem:TypeId)(cells:Array Value):(newRow elem cells).run P w=.ok ⟨w.heap.size,0,none⟩ (w.alloc (.cells cells elem)):=rfl
theorem wrap_small(n:Nat)(hn:n≤1048576):IntKind.i64.wrap (n:Int)=n:=by
 rw[← nu]
 have hm:Int.emod (n:Int) 18446744073709551616=n:=by show(n:Int)%18446744073709551616=n;omega
 have aM:ltI (n:Int) 9223372036854775808=true:=by rw[ZE,decide_eq_true_eq];omega
 simp only[aW,full,half,hm,aM,cond_true]
def Made(P:Program)(ρ:Nat→Int)(w0:W0)(μ:Mu)(G:Key→Option ab)(w:World)(o:Oper)(ev:Operand→Value)(a:AV)(k:Key)(B:ab)(nx':Nat):Prop:=
 ∃ v w' l,(Go.execOp ev o).run P w=.ok (.value v) w'∧μ.le (μ.put k l)∧bG P ρ w0 (μ.put k l) (QK G k (some B)) nx' w'∧bn ρ (μ.put k l) a v
theorem Vj(hM:bG P ρ w0 μ G nx w){k:Key}(hk:μ k=none){nx':Nat}(hn:nx≤nx')(Ur:k.toNat<nx'){L:List AV}{vs:Array Value}(hL:aB ρ μ L vs.toList)(elem:TypeId) :
  μ.le (μ.put k ⟨w.heap.size,0,vs.size⟩)∧bG P ρ w0 (μ.put k ⟨w.heap.size,0,vs.size⟩) (QK G k (some (.cells L .fix))) nx' (w.alloc (.cells vs elem)):=by
 have hle:μ.le (μ.put k ⟨w.heap.size,0,vs.size⟩):=Mu.HY (.inl hk)
 exact hM.alloc k (.cells L .fix) (.cells vs elem) vs.size hk (agy (hL.mono hle) _ _) hn Ur
theorem WR(hM:bG P ρ w0 μ G nx w){o:Oper}{op:T7}(hp:lW P nt o=some op)
  (hE:Dp P ρ μ nt o.op.operands.toList tm ev) {f:Key→AV} {B:ab} (hl:allocOp op tm=some (f,B)) {k:Key} (hk:μ k=none) {nx':Nat} (hn:nx≤nx') (Ur:k.toNat<nx') :
  Made P ρ w0 μ G w o ev (f k) k B nx':=by
 obtain⟨dst,Eh,ty,pos,after,guard⟩:=o
 cases Eh with
 |alloc t=>
  simp only[lW] at hp
  split at hp
  ·rename_i ti hti
   obtain⟨i,d,z,hi,hd,hz,hzv,tF,YD⟩:=oY hti
   cases hp
   simp only[allocOp,dO,Prod.mk.injEq] at hl
   obtain⟨rfl,rfl⟩:=hl
   have Zg:aB ρ μ ti.zero.cells z.cells.toList:=(kY Bt z ti.zero hzv).cells
   obtain⟨h1,h2⟩:=Vj hM hk hn Ur Zg t
   refine⟨.pointer (some ⟨w.heap.size,0,none⟩),w.alloc (.cells z.cells t),_,?_,h1,h2,.ptr _ _ _ _ (Mu.fu _ _ _) rfl⟩
   simp only[Go.execOp]
   refine dM ?_
   simp[Instr.alloc,vC hi hz,newVar,rY]
  ·cases hp
 |box t x=>
  obtain⟨px,hx,rfl⟩:=map_some hp
  simp only[allocOp] at hl
  split at hl
  ·rename_i u hu
   simp only[dO,Prod.mk.injEq] at hl
   obtain⟨rfl,rfl⟩:=hl
   have hv:=(hE x (by simp[Op.operands]) px u hx hu).cells
   obtain⟨h1,h2⟩:=Vj hM hk hn Ur hv t
   refine⟨.pointer (some ⟨w.heap.size,0,none⟩),w.alloc (.cells (ev x).cells t),_,?_,h1,h2,.ptr _ _ _ _ (Mu.fu _ _ _) rfl⟩
   simp only[Go.execOp]
   refine dM ?_
   simp[Instr.box,newVar,rY]
  ·cases hl
 |buildSlice t len parts=>
  simp only[lW] at hp
  split at hp
  ·rename_i e hu
   split at hp
   ·rename_i ie LV
    obtain⟨i,d,z,hi,hd,hz,hzv,tF,YD⟩:=oY LV
    replace hp:=bj hp;obtain⟨hc,hp⟩:=hp
    simp only[Ad,Nat.ble_eq,bltN_eq,decide_eq_true_eq] at hc
    have hzl:=yB hc.2
    split at hp
    ·rename_i ps hps
     cases hp
     simp only[allocOp] at hl
     split at hl
     ·rename_i cs ON
      simp only[dO,Prod.mk.injEq] at hl
      obtain⟨rfl,rfl⟩:=hl
      have Zg:aB ρ μ ie.zero.cells z.cells.toList:=(kY Bt z ie.zero hzv).cells
      have hzs:z.cells.size=i.size:=by rw[← tF,← hzl,Zg.length];simp
      have ato:=abA Zg len
      rw[repL_eq,List.append_nil] at ON
      have oR:∀ y∈parts.toList.map (·.2),y∈(Op.buildSlice t len parts).operands.toList:=by
       intro y hy;simpa[Op.operands] using hy
      obtain⟨vs',hf,hr⟩:=HP (vs:=(Array.range (len*z.cells.size)).map (z.cells[· % z.cells.size]!)) hps ON (hE.sub oR) ato
      obtain⟨h1,h2⟩:=Vj hM hk hn Ur hr e
      have hvl:vs'.size=len*ie.size:=by
       have hlen:∀ (place:Nat→Option (Nat×Nat)) (l:List (Nat×Value)) (a b:Array Value),Instr.fill place a l=some b→b.size=a.size:=by
        intro place l
        induction l with
        |nil=>intro a b h;simp only[Instr.fill,dO] at h;rw[h]
        |cons x l ih=>
         obtain⟨i,v⟩:=x
         intro a b h
         simp only[Instr.fill] at h
         split at h
         ·cases h
         ·split at h
          ·cases h
          ·rw[ih _ _ h]
           rw[← Array.foldl_toList]
           have hf:∀ (l:List (Value×Nat)) (a:Array Value) (off:Nat),(l.foldl (fun(cs:Array Value) (p:Value×Nat)=>cs.setIfInBounds (off+p.2) p.1) a).size=a.size:=by
            intro l
            induction l with
            |nil=>intros;rfl
            |cons x l ih=>intro a off;rw[List.foldl_cons,ih];simp
           exact hf _ _ _
       rw[hlen _ _ _ _ hf]
       simp[hzs,tF]
      refine⟨.slice (some ⟨w.heap.size,0,none⟩) len len,w.alloc (.cells vs' e),_,?_,h1,h2,?_⟩
      ·simp only[Go.execOp]
       refine dM ?_
       have Yx:(parts.map fun(i,x)=>(i,ev x)).toList=parts.toList.map fun(i,x)=>(i,ev x):=by simp
       have hle:¬ (len*i.size>2^24):=by rw[← tF];omega
       simp only[Instr.buildSlice,uu,ag hu,pY,bL hi,if_neg hle]
       by_cases h0:len*i.size=0
       ·have ax7:len=0:=by
         rcases Nat.mul_eq_zero.1 h0 with h|h
         ·exact h
         ·omega
        subst ax7
        have:(Array.range (0*z.cells.size)).map (z.cells[· % z.cells.size]!)=#[]:=by simp
        rw[this] at hf
        simp only[h0,if_true,uu,AP,pY]
        rw[Yx]
        have e0:(Array.map (fun x=>(#[]:Array Value)[x%(#[]:Array Value).size]!) (Array.range 0))=#[]:=by simp
        rw[e0,← tF,hf]
        simp[rY]
       ·simp only[h0,if_false,uu,vC hi hz,pY,AP]
        rw[Yx]
        rw[hzs] at hf
        rw[← tF] at hf ⊢
        rw[hzs,← tF,hf]
        simp[rY]
      ·refine .slice k 0 len ie.size len _ _ (Mu.fu _ _ _) (by simp[hvl]) (bS _) (.inr rfl)
     ·cases hl
    ·cases hp
   ·cases hp
  ·cases hp
 |makeMap t r=>
  cases r with
  |some r=>simp[lW] at hp
  |none=>
   simp only[lW,dO] at hp;subst hp
   simp only[allocOp,dO,Prod.mk.injEq] at hl
   obtain⟨rfl,rfl⟩:=hl
   obtain⟨h1,h2⟩:=hM.alloc k (.map []) (.map #[] 0) 0 hk (.map _ _ _ _ trivial (by simp) rfl) hn Ur
   refine⟨.map (some w.heap.size),w.alloc (.map #[] 0),_,?_,h1,h2,.map _ _ _ (Mu.fu _ _ _) rfl⟩
   simp[Go.execOp,Instr.makeMap]
 |makeSlice t l c=>
  simp only[lW] at hp
  split at hp
  ·rename_i e hu
   split at hp
   ·rename_i ie pl pc LV vL hpc
    obtain⟨i,d,z,hi,hd,hz,hzv,tF,YD⟩:=oY LV
    split at hp
    ·rename_i i' IU
     rw[hi] at IU;cases IU
     replace hp:=bj hp;obtain⟨hc,hp⟩:=hp
     simp only[Ad,Nat.ble_eq,bltN_eq,decide_eq_true_eq] at hc
     have hzl:=yB hc.1.2
     cases hp
     simp only[allocOp] at hl
     split at hl
     ·rename_i va vc ha hcc
      split at hl
      ·rename_i nl nc hnl hnc
       replace hl:=bj hl;obtain⟨hlc,hl⟩:=hl
       simp only[Ad,Nat.ble_eq] at hlc
       simp only[dO,Prod.mk.injEq] at hl
       obtain⟨rfl,rfl⟩:=hl
       obtain⟨k1,e1⟩:=lV hnl (hE l (by simp[Op.operands]) pl _ vL ha)
       obtain⟨k2,e2⟩:=lV hnc (hE c (by simp[Op.operands]) pc _ hpc hcc)
       have Zg:aB ρ μ ie.zero.cells z.cells.toList:=(kY Bt z ie.zero hzv).cells
       have hzs:z.cells.size=i.size:=by rw[← tF,← hzl,Zg.length];simp
       have ato:=abA Zg nc
       rw[repL_eq,List.append_nil]
       obtain⟨h1,h2⟩:=Vj hM hk hn Ur ato e
       have hwr:∀ n:Nat,n≤1048576→IntKind.i64.wrap (n:Int)=n:=fun n hn=>wrap_small n hn
       refine⟨.slice (some ⟨w.heap.size,0,none⟩) nl nc,w.alloc (.cells ((Array.range (nc*z.cells.size)).map (z.cells[· % z.cells.size]!)) e),_,?_,h1,h2,?_⟩
       ·simp only[Go.execOp]
        refine dM ?_
        have hb:i.bytes*nc≤65536*1048576:=Nat.mul_le_mul hc.2 hlc.2
        have kO:¬ ((i.bytes:Int)*(nc:Int)>2^48):=by
         have:((i.bytes*nc:Nat):Int)≤((65536*1048576:Nat):Int):=by exact_mod_cast hb
         have e:((i.bytes*nc:Nat):Int)=(i.bytes:Int)*(nc:Int):=by simp
         rw[← e]
         omega
        have ak4:¬ ((nc:Int)<0):=by omega
        have ax8:¬ ((nl:Int)<0):=by omega
        have hgt:¬ ((nl:Int)>(nc:Int)):=by omega
        simp only[e1,e2,Instr.makeSlice,uu,ag hu,pY,asInt,asIntOf,AP,pG hi,hwr nl (by omega),hwr nc (by omega),decide_eq_false ak4,decide_eq_false kO,decide_eq_false ax8,decide_eq_false hgt,Bool.or_self,Yz,if_false,run_askRoom,Int.toNat_natCast,bL hi]
        by_cases h0:nc*i.size=0
        ·have aHo:nc=0:=by
          rcases Nat.mul_eq_zero.1 h0 with h|h
          ·exact h
          ·omega
         subst aHo
         simp only[h0,if_true,uu,AP,pY,rY]
         have e0:(Array.map (fun x=>(#[]:Array Value)[x%(#[]:Array Value).size]!) (Array.range 0))=#[]:=by simp
         have e1:(Array.map (fun x=>z.cells[x%z.cells.size]!) (Array.range (0*z.cells.size)))=#[]:=by simp
         rw[e0,e1]
        ·simp only[h0,if_false,uu,vC hi hz,pY,AP]
         simp[rY,hzs]
       ·refine .slice k 0 nl ie.size nc _ _ (Mu.fu _ _ _) ?_ (by omega) (.inr rfl)
        simp[hzs,tF]
      ·cases hl
     ·cases hl
    ·cases hp
   ·cases hp
  ·cases hp
 |move x=>obtain⟨px,hx,rfl⟩:=map_some hp;simp[allocOp] at hl
 |assign x=>obtain⟨px,hx,rfl⟩:=map_some hp;simp[allocOp] at hl
 |nilCheck x=>obtain⟨px,hx,rfl⟩:=map_some hp;simp[allocOp] at hl
 |unOp uop t x=>obtain⟨px,hx,rfl⟩:=map_some hp;simp[allocOp] at hl
 |panic x=>obtain⟨px,hx,rfl⟩:=map_some hp;simp[allocOp] at hl
 |makeFunc fn first cap=>
  exfalso
  cases fn<;>simp only[lW] at hp
  all_goals repeat' (first|(cases hp;done)|split at hp)
  all_goals (cases hp;simp[allocOp] at hl;done)
 |slice t x lo hi mx=>
  exfalso
  cases mx<;>simp only[lW] at hp
  all_goals repeat' (first|(cases hp;done)|(replace hp:=bj hp;replace hp:=hp.2)|split at hp)
  all_goals (cases hp;simp[allocOp] at hl;done)
 |range t x=>
  exfalso
  simp only[lW] at hp
  split at hp
  ·obtain⟨px,hx,rfl⟩:=map_some hp;simp[allocOp] at hl
  ·cases hp
 |next it s=>
  exfalso
  cases s
  ·obtain⟨px,hx,rfl⟩:=map_some hp;simp[allocOp] at hl
  ·simp[lW] at hp
 |_=>
  exfalso
  simp only[lW] at hp
  repeat' (first|(cases hp;done)|(replace hp:=bj hp;replace hp:=hp.2)|(replace hp:=abl hp;replace hp:=hp.2)|split at hp)
  all_goals first
   |(cases hp;simp[allocOp] at hl;done)
   |(obtain⟨px,hx,rfl⟩:=map_some hp;simp[allocOp] at hl;done)
   |skip
end
end Go.Sx
/-
 SX: operations that write: a store, a map's entry. No condition.
-/
namespace Go.Sx
open Go.RowKit
section
variable{P:Program}{ρ:Nat→Int}{w0:W0}{w:World}{μ:Mu}{G:Key→Option ab}{nx:Key}{orc:pF}{nt:Nat}{tm:T AV}{H:T ab}{ev:Operand→Value}
def Next.rel(ρ:Nat→Int)(μ:Mu)(a:AV):Next→Prop
 |.value v=>bn ρ μ a v
 |.skip=>a=.tuple []
 |_=>False
structure Kept(H H':T ab)(nx nx':Key)(μ μ':Mu)(G G':Key→Option ab):Prop where
 g:∀ b,aa b H=none→b.toNat<nx.toNat→G' b=G b
 m:∀ b,b.toNat<nx.toNat→μ' b=μ b
 h:∀ b,aa b H=none→b.toNat<nx.toNat→aa b H'=none
 n:nx.toNat≤nx'.toNat
theorem Kept.refl(H:T ab)(nx:Key)(μ:Mu)(G:Key→Option ab):Kept H H nx nx μ μ G G:=⟨fun _ _ _=>rfl,fun _ _=>rfl,fun _ h _=>h,bS _⟩
theorem Kept.trans{H1 H2 H3:T ab}{n1 n2 n3:Key}{m1 m2 m3:Mu}{G1 G2 G3:Key→Option ab}(a:Kept H1 H2 n1 n2 m1 m2 G1 G2)(b:Kept H2 H3 n2 n3 m2 m3 G2 G3):Kept H1 H3 n1 n3 m1 m3 G1 G3:=
 ⟨fun k hk hl=>(b.g k (a.h k hk hl) (YK hl a.n)).trans (a.g k hk hl),fun k hl=>(b.m k (YK hl a.n)).trans (a.m k hl),
  fun k hk hl=>b.h k (a.h k hk hl) (YK hl a.n),Nat.le_trans a.n b.n⟩
def Og(P:Program)(ρ:Nat→Int)(w0:W0)(μ:Mu)(G:Key→Option ab)(H:T ab)(nx:Key)(w:World)(s:Sem Next)(a:AV)(H':T ab)(nx':Key):Prop:=
 ∃ n w' μ' G',s.run P w=.ok n w'∧Next.rel ρ μ' a n∧μ.le μ'∧bG P ρ w0 μ' G' nx'.toNat w'∧HSub H' G'∧Kept H H' nx nx' μ μ' G G'
theorem bG.DV(hM:bG P ρ w0 μ G nx.toNat w):μ nx=none:=by
 cases h:μ nx with
 |none=>rfl
 |some l=>exact absurd (hM.new nx l h) (Nat.lt_irrefl _)
theorem af9{s:Sem Next}{v:Value}{a:AV}(hM:bG P ρ w0 μ G nx.toNat w)(hH:HSub H G)(h:s.run P w=.ok (.value v) w)(hr:bn ρ μ a v):Og P ρ w0 μ G H nx w s a H nx:=
 ⟨_,w,μ,G,h,hr,μ.le_refl,hM,hH,Kept.refl _ _ _ _⟩
theorem ahs{f:Key→AV}{B:ab}{a:AV}{H':T ab}{nx':Key}(h:newB f B H nx=.val a H' nx'):a=f nx∧H'=aK nx (some B) H∧nx'=nx.succ:=by
 simp only[newB,sTCe,OR.val.injEq] at h
 exact⟨h.1.symm,h.2.1.symm,h.2.2.symm⟩
theorem ne_of_lt{b:Key}(h:b.toNat<nx.toNat):b≠nx:=by intro e;subst e;exact absurd h (Nat.lt_irrefl _)
theorem KM(l:Loc)(B B':Option ab):Kept H (aK nx B' H) nx nx.succ μ (μ.put nx l) G (QK G nx B):=by
 have hs:=kTSu nx
 exact⟨fun b _ hl=>cg _ _ (ne_of_lt hl),fun b hl=>cg _ _ (ne_of_lt hl),fun b hb hl=>by rw[bU _ _ _ _ (ne_of_lt hl)];exact hb,by omega⟩
theorem aga(hM:bG P ρ w0 μ G nx.toNat w)(hH:HSub H G){o:Oper}{op:T7}(hp:lW P nt o=some op)(hE:Dp P ρ μ nt o.op.operands.toList tm ev)
  {f:Key→AV} {B:ab} (hl:allocOp op tm=some (f,B)):Og P ρ w0 μ G H nx w (Go.execOp ev o) (f nx) (aK nx (some B) H) nx.succ:=by
 have hs:=kTSu nx
 obtain⟨v,w',l,h1,h2,h3,h4⟩:=WR hM hp hE hl (hM.DV) (nx':=nx.succ.toNat) (by omega) (by omega)
 exact⟨.value v,w',_,_,h1,h4,h2,h3,hH.set nx (some B),KM _ _ _⟩
theorem agY(hM:bG P ρ w0 μ G nx.toNat w){b:Key}{L:List AV}{ck:CK}(hb:G b=some (.cells L ck))(Uj:ck≠.ro){l:Loc}(hl:μ b=some l){off:Nat}{vs:List AV}{us:List Value}
  (hv:aB ρ μ vs us) (Jk:∀ u∈us,u.oneCell'=true) (hle:off+vs.length≤L.length) :
  ∃ w',(storeCells ⟨l.c,l.base+off,none⟩ us).run P w=.ok () w'∧μ.le (μ.put b l)∧bG P ρ w0 (μ.put b l) (QK G b (some (.cells (L.take off++vs++L.drop (off+vs.length)) ck))) nx.toNat w':=by
 obtain⟨l',arr,elem,fz,h1,h2,hc,hs,hlen,hf,he⟩:=hM.cells hb
 rw[hl] at h1;cases h1
 have hfz:=hf Uj
 subst hfz
 have hvl:=hv.length
 obtain⟨w',e1,e2,e3,e4⟩:=xu P l.c (l.base+off) elem us 0 w arr h2 (by omega) Jk
 have mO:w0.heap.size≤l.c:=(hM.own b _ l hb hl).resolve_left (by cases ck<;>simp[ab.ro] at Uj ⊢)
 have Um:μ.le (μ.put b l):=Mu.HY (.inr hl)
 have vj:(ab.cells L ck).lo l=some 0:=by cases ck<;>first|rfl|exact absurd rfl Uj
 refine⟨w',e1,hM.put b _ l _ (.inr hl) e2 e4 ?_ (fun b' B' l' g m ne=>hM.sep b' b B' _ l' l g hb m hl ne) mO (bS _) (hM.new b l hl) (hM.lo0 hb hl vj)⟩
 refine .cells _ ck l _ elem (0,0) ?_ (by rw[AL];exact hs) (by simp;omega) (fun _=>rfl) (fun hk=>by have:=he hk;simp;omega)
 intro i a ha
 rw[tv us arr _ _ (by omega)]
 by_cases h1:i<off
 ·rw[if_neg (by omega)]
  rw[List.append_assoc,List.getElem?_append_left (by simp;omega),List.getElem?_take_of_lt h1] at ha
  obtain⟨v,hv',hr⟩:=hc i a ha
  exact⟨v,hv',hr.mono Um⟩
 ·by_cases h2:i<off+vs.length
  ·rw[if_pos (by omega)]
   rw[List.append_assoc,List.getElem?_append_right (by simp;omega),List.getElem?_append_left (by simp;omega)] at ha
   have e:i-(L.take off).length=i-off:=by simp;omega
   rw[e] at ha
   obtain⟨v,hv',hr⟩:=hv.get _ a ha
   refine⟨v,?_,hr.mono Um⟩
   rw[← hv']
   congr 1
   omega
  ·rw[if_neg (by omega)]
   rw[List.getElem?_append_right (by simp;omega),List.getElem?_drop] at ha
   have e:off+vs.length+(i-(L.take off++vs).length)=i:=by simp;omega
   rw[e] at ha
   obtain⟨v,hv',hr⟩:=hc i a ha
   exact⟨v,hv',hr.mono Um⟩
theorem TK{vs:List AV}{us:List Value}(hv:aB ρ μ vs us)(h:vs.all AV.aD=true):∀ u∈us,u.oneCell'=true:=by
 induction vs generalizing us with
 |nil=>cases hv;simp
 |cons a vs ih=>
  cases hv with|cons _ _ u us h1 h2=>
  simp only[List.all_cons,Ad] at h
  intro x hx
  cases hx with
  |head=>
   have:=h1.am0 h.1
   cases u<;>simp_all [Value.oneCell']
  |tail _ hx=>exact ih h2 h.2 x hx
theorem vA{b:Key}{B:ab}(hb:aa b H=some B){l:Loc}(hl:μ b=some l)(x y:Option ab):Kept H (aK b y H) nx nx μ (μ.put b l) G (QK G b x):=by
 have ne:∀ b',aa b' H=none→b'≠b:=by intro b' h e;subst e;rw[hb] at h;cases h
 refine⟨fun b' h _=>cg _ _ (ne b' h),fun b' _=>?_,fun b' h _=>by rw[bU _ _ _ _ (ne b' h)];exact h,bS _⟩
 by_cases h:b'=b
 ·subst h;rw[Mu.fu,hl]
 ·exact Mu.Co _ _ h
def Ye(P:Program)(kt:TypeId):Prop:=(∃ fs,P.underlying kt=some (.struct fs))∨∃ n e,P.underlying kt=some (.array n e)
def Shape(P:Program)(nt:Nat)(Eh:Op):T7→Prop
 |.store n pa pv=>∃ t x v i,Eh=.store t x v∧P.info? t=some i∧n=i.size∧pX P nt x=some pa∧pX P nt v=some pv
 |.mapupd sk pm pk pv=>∃ t m k v kt e kd,(Eh=.mapUpdate t m k v∨Eh=.insert t m k v)∧P.underlying t=some (.map kt e)∧LX P kt sk kd∧pX P nt m=some pm∧pX P nt k=some pk∧pX P nt v=some pv
 |.mapupdP p pm pk pv=>∃ t m k v kt e,(Eh=.mapUpdate t m k v∨Eh=.insert t m k v)∧P.underlying t=some (.map kt e)∧Ye P kt∧XJ P 100 kt=some p∧pX P nt m=some pm∧pX P nt k=some pk∧pX P nt v=some pv
 |.delP p pm pk=>∃ c t tl m k kt e,Eh=.call c∧c.callee=.builtin .delete∧c.args=#[m,k]∧c.argTypes.toList=t ::tl∧P.underlying t=some (.map kt e)∧Ye P kt∧XJ P 100 kt=some p∧pX P nt m=some pm∧pX P nt k=some pk
 |.rangeM px=>∃ t x kt e,Eh=.range t x∧P.underlying t=some (.map kt e)∧pX P nt x=some px
 |.nextM px=>∃ x,Eh=.next x false∧pX P nt x=some px
 |.strb px=>∃ src dst x e,Eh=.convert src dst x∧P.underlying src=some .string∧P.underlying dst=some (.slice e)∧P.underlying e=some (.int .u8)∧pX P nt x=some px
 |.append sz ps px=>∃ c s x t u e i ie,Eh=.call c∧c.callee=.builtin .append∧c.args=#[s,x]∧c.argTypes=#[t,u]∧P.underlying t=some (.slice e)∧((∃ e',P.underlying u=some (.slice e'))∨P.underlying u=some .string)∧
   tyI P e=some ie∧P.info? e=some i∧sz=ie.size∧0<ie.size∧ie.zero.cells.length=ie.size∧i.bytes≤65536∧pX P nt s=some ps∧pX P nt x=some px
 | .callF f l => ∃ c fn, Eh = .call c ∧ c.callee = .value (.func f) ∧ Yi P nt c.args.toList = some l ∧ P.funcs[f]? = some fn ∧ fn.body.isSome = true ∧ fn.name ≠ "runtime.NumGoroutine"
 |.callV v l=>∃ c x,Eh=.call c∧c.callee=.value x∧pX P nt x=some v∧Yi P nt c.args.toList=some l
 |.dfr v l=>∃ c x,Eh=.defer c∧c.callee=.value x∧pX P nt x=some v∧Yi P nt c.args.toList=some l
 |.panic px=>∃ x,Eh=.panic x∧pX P nt x=some px
 |.recover=>∃ c,Eh=.call c∧c.callee=.builtin .recover∧c.args=#[]
 |_=>True
theorem anF{xs:List Operand}(h:Yi P nt xs=some []):xs=[]:=by
 cases xs with
 |nil=>rfl
 |cons x xs=>simp only[Yi] at h;split at h<;>cases h
theorem iO{o:Oper}{op:T7}(hp:lW P nt o=some op):Shape P nt o.op op:=by
 obtain⟨dst,Eh,ty,pos,after,guard⟩:=o
 cases Eh with
 |move x=>obtain⟨px,hx,rfl⟩:=map_some hp;trivial
 |assign x=>obtain⟨px,hx,rfl⟩:=map_some hp;trivial
 |nilCheck x=>obtain⟨px,hx,rfl⟩:=map_some hp;trivial
 |unOp uop t x=>obtain⟨px,hx,rfl⟩:=map_some hp;trivial
 |box t x=>obtain⟨px,hx,rfl⟩:=map_some hp;trivial
 |panic x=>obtain⟨px,hx,rfl⟩:=map_some hp;exact⟨x,rfl,hx⟩
 |makeMap t r=>cases r<;>simp only[lW,dO] at hp<;>first|(cases hp;done)|(subst hp;trivial)
 |makeFunc fn first cap=>
  cases fn<;>simp only[lW] at hp
  all_goals repeat' (first|(cases hp;done)|split at hp)
  all_goals (cases hp;trivial)
 |slice t x lo hi mx=>
  cases mx<;>simp only[lW] at hp
  all_goals repeat' (first|(cases hp;done)|(replace hp:=bj hp;replace hp:=hp.2)|split at hp)
  all_goals (cases hp;trivial)
 |makeInterface t x=>
  simp only[lW] at hp
  split at hp
  ·cases hp
  ·cases hp
  ·obtain⟨px,hx,rfl⟩:=map_some hp;trivial
 |store t x v=>
  simp only[lW] at hp
  split at hp
  ·rename_i i px pv' h1 h2 h3
   simp only[dO] at hp
   subst hp
   exact⟨t,x,v,i,rfl,h1,rfl,h2,h3⟩
  ·cases hp
 |mapUpdate t m k v=>
  simp only[lW] at hp
  split at hp
  ·rename_i kt e hu
   split at hp
   ·cases hp;exact⟨t,m,k,v,kt,e,_,.inl rfl,hu,⟨‹_›,by simp⟩,‹_›,‹_›,‹_›⟩
   ·cases hp;exact⟨t,m,k,v,kt,e,_,.inl rfl,hu,⟨‹_›,by simp⟩,‹_›,‹_›,‹_›⟩
   ·split at hp
    ·cases hp;exact⟨t,m,k,v,kt,e,.inl rfl,hu,.inl ⟨_,‹_›⟩,‹_›,‹_›,‹_›,‹_›⟩
    ·cases hp
   ·split at hp
    ·cases hp;exact⟨t,m,k,v,kt,e,.inl rfl,hu,.inr ⟨_,_,‹_›⟩,‹_›,‹_›,‹_›,‹_›⟩
    ·cases hp
   ·cases hp
  ·cases hp
 |insert t m k v=>
  simp only[lW] at hp
  split at hp
  ·rename_i kt e hu
   split at hp
   ·cases hp;exact⟨t,m,k,v,kt,e,_,.inr rfl,hu,⟨‹_›,by simp⟩,‹_›,‹_›,‹_›⟩
   ·cases hp;exact⟨t,m,k,v,kt,e,_,.inr rfl,hu,⟨‹_›,by simp⟩,‹_›,‹_›,‹_›⟩
   ·split at hp
    ·cases hp;exact⟨t,m,k,v,kt,e,.inr rfl,hu,.inl ⟨_,‹_›⟩,‹_›,‹_›,‹_›,‹_›⟩
    ·cases hp
   ·split at hp
    ·cases hp;exact⟨t,m,k,v,kt,e,.inr rfl,hu,.inr ⟨_,_,‹_›⟩,‹_›,‹_›,‹_›,‹_›⟩
    ·cases hp
   ·cases hp
  ·cases hp
 |defer c=>
  simp only[lW] at hp
  split at hp
  ·rename_i x hc
   split at hp
   ·cases hp;exact⟨c,x,rfl,hc,‹_›,‹_›⟩
   ·cases hp
  ·cases hp
 |call c=>
  simp only[lW] at hp
  split at hp
  ·rename_i f hc
   split at hp
   ·rename_i l fn h1 h2
    replace hp:=bj hp;obtain⟨hb,hp⟩:=hp
    cases hp
    simp only[Ad,Bool.not_eq_true',beq_eq_false_iff_ne] at hb
    exact⟨c,fn,rfl,hc,h1,h2,hb.1,hb.2⟩
   ·cases hp
  ·rename_i x eM hc
   split at hp
   ·cases hp;exact⟨c,x,rfl,hc,‹_›,‹_›⟩
   ·cases hp
  ·cases hp
  ·rename_i b hc
   split at hp
   ·split at hp
    ·split at hp
     all_goals first|(cases hp;done)|(cases hp;trivial)
    ·cases hp
   ·rename_i ps px iv
    obtain⟨s,x,e1,h1,h2⟩:=acD iv
    have e1':c.args=#[s,x]:=by apply Array.ext';simpa using e1
    split at hp
    ·rename_i t u hty
     have ant:c.argTypes=#[t,u]:=by apply Array.ext';simpa using hty
     split at hp
     ·rename_i e e' hu hu'
      split at hp
      ·rename_i ie i LV hi
       replace hp:=bj hp;obtain⟨hb,hp⟩:=hp
       cases hp
       simp only[Ad,Nat.ble_eq,bltN_eq,decide_eq_true_eq] at hb
       exact⟨c,s,x,t,u,e,i,ie,rfl,hc,e1',ant,hu,.inl ⟨_,hu'⟩,LV,hi,rfl,hb.1.1,yB hb.1.2,hb.2,h1,h2⟩
      ·cases hp
     ·rename_i e hu hu'
      split at hp
      ·rename_i ie i LV hi
       replace hp:=bj hp;obtain⟨hb,hp⟩:=hp
       cases hp
       simp only[Ad,Nat.ble_eq,bltN_eq,decide_eq_true_eq] at hb
       exact⟨c,s,x,t,u,e,i,ie,rfl,hc,e1',ant,hu,.inr hu',LV,hi,rfl,hb.1.1,yB hb.1.2,hb.2,h1,h2⟩
      ·cases hp
     ·cases hp
    ·cases hp
   ·cases hp;trivial
   ·cases hp;trivial
   ·rename_i iv
    cases hp
    exact⟨c,rfl,hc,by apply Array.ext';simpa using anF iv⟩
   ·rename_i pm pk iv
    obtain⟨m,k,e1,h1,h2⟩:=acD iv
    have e1':c.args=#[m,k]:=by apply Array.ext';simpa using e1
    split at hp
    ·rename_i t tl hty
     split at hp
     ·rename_i kt e hu
      split at hp
      ·cases hp;exact⟨c,t,tl,m,k,kt,e,rfl,hc,e1',hty,hu,.inl ⟨_,‹_›⟩,‹_›,h1,h2⟩
      ·cases hp;exact⟨c,t,tl,m,k,kt,e,rfl,hc,e1',hty,hu,.inr ⟨_,_,‹_›⟩,‹_›,h1,h2⟩
      ·cases hp
     ·cases hp
    ·cases hp
   ·cases hp
 |range t x=>
  simp only[lW] at hp
  split at hp
  ·obtain⟨px,hx,rfl⟩:=map_some hp;exact⟨t,x,_,_,rfl,‹_›,hx⟩
  ·cases hp
 |next x s=>
  cases s
  ·obtain⟨px,hx,rfl⟩:=map_some hp;exact⟨x,rfl,hx⟩
  ·cases hp
 |entry x=>obtain⟨px,hx,rfl⟩:=map_some hp;trivial
 |convert src aGq x=>
  simp only[lW] at hp
  split at hp
  ·cases hp;trivial
  ·cases hp;trivial
  ·split at hp
   ·cases hp;trivial
   ·cases hp
  ·split at hp
   ·cases hp;exact⟨src,aGq,x,_,rfl,‹_›,‹_›,‹_›,‹_›⟩
   ·cases hp
  ·cases hp
 |_=>
  simp only[lW] at hp
  repeat' (first|(cases hp;done)|(replace hp:=bj hp;replace hp:=hp.2)|(replace hp:=abl hp;replace hp:=hp.2)|split at hp)
  all_goals (cases hp;trivial)
theorem aen(hM:bG P ρ w0 μ G nx.toNat w)(hH:HSub H G){o:Oper}{n:Nat}{pa pv:PX}(hp:lW P nt o=some (.store n pa pv))(hE:Dp P ρ μ nt o.op.operands.toList tm ev)
  {a:AV} {H':T ab} {nx':Key} (h:aOp orc (.store n pa pv) tm H nx=.val a H' nx'):Og P ρ w0 μ G H nx w (Go.execOp ev o) a H' nx':=by
 obtain⟨dst,Eh,ty,pos,after,guard⟩:=o
 obtain⟨t,x,v,i,e0,hi,rfl,hx,hv⟩:=iO hp
 simp only at e0
 subst e0
 simp only[aOp] at h
 split at h
 ·rename_i b off u hpa hpv
  cases hc:(Nat.beq (lenL u.cells) i.size&&u.cells.all AV.aD) with
  |false=>rw[hc] at h;cases h
  |true=>
   rw[hc] at h
   simp only[cond_true] at h
   simp only[Ad] at hc
   have tF:=yB hc.1
   rw[lenL_eq] at tF
   have hrv:=hE v (by simp[Op.operands]) pv u hv hpv
   have hra:=hE x (by simp[Op.operands]) pa _ hx hpa
   have main:∀ (L:List AV) (ck:CK),aa b H=some (.cells L ck)→ck≠.ro→
     adE u.cells off L (OR.bad 4) (fun l=>Gs b (some (.cells l ck)) H fun h=>.val (.tuple []) h nx)=.val a H' nx'→Og P ρ w0 μ G H nx w (Go.execOp ev ⟨dst,.store t x v,ty,pos,after,guard⟩) a H' nx':=by
    intro L ck hL Uj h
    rw[putC_eq] at h
    split at h
    ·rename_i hle
     rw[sTCe] at h
     simp only[OR.val.injEq] at h
     obtain⟨rfl,rfl,rfl⟩:=h
     generalize nz:ev x=xx at hra
     cases hra with|ptr _ _ l ad hm tu=>
     subst tu
     obtain⟨w',e1,e2,e3⟩:=agY hM (hH _ _ hL) Uj hm hrv.cells (TK hrv.cells hc.2) hle
     refine⟨.skip,w',_,_,?_,rfl,e2,e3,hH.set b _,vA hL hm _ _⟩
     have Y6:(ev v).cells.size=i.size:=by rw[← tF,hrv.cells.length];simp
     simp[Go.execOp,nz,Instr.storeAt,Instr.sureAddr,storeVar,bL hi,Y6,e1]
    ·cases h
   split at h
   ·cases h
   ·rename_i L ck eM hL
    exact main L ck hL (fun e=>eM e) h
   ·cases h
 ·cases h
end
end Go.Sx
/-
 SX: a map's entry, append. No condition.
-/
namespace Go.Sx
open Go.RowKit
section
variable{P:Program}{ρ:Nat→Int}{w0:W0}{w:World}{μ:Mu}{G:Key→Option ab}{nx:Key}{orc:pF}{nt:Nat}{tm:T AV}{H:T ab}{ev:Operand→Value}
theorem ZJ(ho:jt ρ orc){kt:TypeId}{kd:TypeDesc}{sk:Bool}(hu:LX P kt sk kd){k u:AV}{x v:Value}(hx:bn ρ μ k x)(hv:bn ρ μ u v) :
  ∀ {l r:List (AV×AV)} {es:List MapEntry} (i:Nat),tA ρ μ l es→setK orc sk k u l=some r→
   (Instr.findNow kd x es i=some none∧∀ b,tA ρ μ r (es ++ [⟨x,v,b⟩]))∨
   (∃ j e,Instr.findNow kd x es i=some (some (i+j,e.val))∧es[j]?=some e∧Instr.sameNow kd x e.key=some true∧tA ρ μ r (es.set j {e with key:=x,val:=v}))
 | [],r,[],i,hp,h=>by
  simp only[setK,dO] at h;subst h
  exact .inl ⟨rfl,fun b=>⟨hx,hv,trivial⟩⟩
 | [],_,_ ::_,i,hp,h=>hp.elim
 |(_,_) ::_,_,[],i,hp,h=>hp.elim
 |(a,c) ::l,r,e ::es,i,hp,h=>by
  obtain⟨h1,h2,h3⟩:=hp
  simp only[setK] at h
  split at h
  ·rename_i hk
   cases h
   have hs:=HT ho hu hx h1 hk
   exact .inr ⟨0,e,by simp[Instr.findNow,hs],by simp,hs,⟨hx,hv,h3⟩⟩
  ·rename_i hk
   have hs:=HT ho hu hx h1 hk
   split at h
   ·rename_i r' hr'
    cases h
    rcases ZJ ho hu hx hv (i+1) h3 hr' with⟨f,g⟩|⟨j,e',f,g1,g2,g3⟩
    ·exact .inl ⟨by simp[Instr.findNow,hs,f],fun b=>⟨h1,h2,g b⟩⟩
    ·refine .inr ⟨j+1,e',?_,by simpa using g1,g2,?_⟩
     ·simp[Instr.findNow,hs,f];omega
     ·simp only[List.set_cons_succ];exact⟨h1,h2,g3⟩
   ·cases h
  ·cases h
theorem aew{kt:TypeId}{kd:TypeDesc}{sk:Bool}(hu:LX P kt sk kd){x y:Value}(h:Instr.sameNow kd x y=some true):Instr.sameBits 10000 y x=true:=by
 obtain⟨_,hk⟩:=hu
 cases sk with
 |true=>
  have:kd=.string:=by simpa using hk
  subst this
  cases x<;>cases y<;>simp only[Instr.sameNow,dO] at h<;>first|(cases h;done)|skip
  rw[beq_toListBytes] at h
  have h:=eq_of_beq h
  simp[Instr.sameBits,beq_toListBytes,h]
 |false=>
  obtain⟨k,rfl⟩:∃ k,kd=.int k:=by simpa using hk
  cases x<;>cases y<;>simp[Instr.sameNow] at h
  obtain⟨rfl,rfl⟩:=h
  simp[Instr.sameBits]
theorem abq{es:Array MapEntry}{x:MapEntry}(h:∀ (i:Nat) (e:MapEntry),es.toList[i]?=some e→e.born=i)(hx:x.born=es.toList.length):∀ (i:Nat) (e:MapEntry),(es.push x).toList[i]?=some e→e.born=i:=by
 intro i e he
 simp only[Array.toList_push] at he
 rcases Nat.lt_trichotomy i es.toList.length with h'|h'|h'
 ·rw[List.getElem?_append_left h'] at he;exact h i e he
 ·subst h';simp at he;subst he;exact hx
 ·rw[zqo (by simp at h' ⊢;omega)] at he;cases he
theorem aex{es:List MapEntry}{j:Nat}{x y:MapEntry}(h:∀ (i:Nat) (e:MapEntry),es[i]?=some e→e.born=i)(hj:es[j]?=some x)(hy:y.born=x.born):∀ (i:Nat) (e:MapEntry),(es.set j y)[i]?=some e→e.born=i:=by
 intro i e he
 by_cases hij:j=i
 ·subst hij
  have hl:j<es.length:=by
   rcases Ts j es.length with h'|h'
   ·exact h'
   ·rw[zqo h'] at hj;cases hj
  rw[List.getElem?_set_self hl] at he
  cases he
  rw[hy];exact h j x hj
 ·rw[List.getElem?_set_ne hij] at he;exact h i e he
theorem acO(hM:bG P ρ w0 μ G nx.toNat w)(hH:HSub H G)(ho:jt ρ orc){o:Oper}{sk:Bool}{pm pk pv:PX}(hp:lW P nt o=some (.mapupd sk pm pk pv))(hE:Dp P ρ μ nt o.op.operands.toList tm ev)
  {a:AV} {H':T ab} {nx':Key} (h:aOp orc (.mapupd sk pm pk pv) tm H nx=.val a H' nx'):Og P ρ w0 μ G H nx w (Go.execOp ev o) a H' nx':=by
 obtain⟨dst,Eh,ty,pos,after,guard⟩:=o
 obtain⟨t,m,k,v,kt,e,kd,e0,hu,NM,hm,hk,hv⟩:=iO hp
 simp only at e0
 have hex:Go.execOp ev ⟨dst,Eh,ty,pos,after,guard⟩=(do Instr.mapUpdate t (ev m) (ev k) (ev v);pure .skip):=by
  rcases e0 with e0|e0<;>subst e0<;>rfl
 have oR:m∈Eh.operands.toList∧k∈Eh.operands.toList∧v∈Eh.operands.toList:=by
  rcases e0 with e0|e0<;>subst e0<;>simp[Op.operands]
 simp only[aOp] at h
 split at h
 ·rename_i b ka va hb hka hva
  split at h
  ·rename_i L hL
   split at h
   ·rename_i L' hL'
    rw[sTCe] at h
    simp only[OR.val.injEq] at h
    obtain⟨rfl,rfl,rfl⟩:=h
    have hrm:=hE m oR.1 pm _ hm hb
    have hrk:=hE k oR.2.1 pk _ hk hka
    have hrv:=hE v oR.2.2 pv _ hv hva
    generalize Ws:ev m=mm at hrm
    cases hrm with|map _ l r oH hr=>
    subst hr
    have hg:=hH _ _ hL
    obtain⟨l',o',h1,h2,h3⟩:=hM.Vo b _ hg
    rw[oH] at h1;cases h1
    cases h3 with|map _ _ es clock fg QW acE=>
    have sm:(getObj l.c).run P w=.ok (.map es clock) w:=by simp[getObj,Sem.run,h2]
    have WU:∀ o2,(setObj l.c o2).run P w=.ok () {w with heap:=w.heap.setIfInBounds l.c o2}:=by
     intro o2;simp[setObj,Sem.run,h2]
    have ON:l.c<w.heap.size:=hM.Cs b l oH
    have mO:w0.heap.size≤l.c:=(hM.own b _ l hg oH).resolve_left (by simp[ab.ro])
    have Um:μ.le (μ.put b l):=Mu.HY (.inr oH)
    have fin:∀ (es':Array MapEntry) (Gm:Nat),tA ρ μ L' es'.toList→(∀ (i:Nat) (e:MapEntry),es'.toList[i]?=some e→e.born=i)→Gm=L'.length→(Instr.mapUpdate t (ev m) (ev k) (ev v)).run P w=.ok () {w with heap:=w.heap.setIfInBounds l.c (.map es' Gm)}→
      Og P ρ w0 μ G H nx w (Go.execOp ev ⟨dst,Eh,ty,pos,after,guard⟩) (.tuple []) (aK b (some (.map L')) H) nx:=by
     intro es' Gm V9 kO hc' fe
     obtain⟨g1,g2⟩:=hM.put (w':={w with heap:=w.heap.setIfInBounds l.c (.map es' Gm)}) b (.map L') l (.map es' Gm) (.inr oH)
      ⟨rfl,rfl,rfl,by simp,fun j hj _=>by show(w.heap.setIfInBounds l.c _)[j]?=_;rw[zqn (Ne.symm hj)],bS _⟩
      (by show(w.heap.setIfInBounds l.c _)[l.c]?=_;simp[ON]) (.map _ _ _ _ (V9.mono Um) kO hc') (fun b' B' l' g m' ne=>hM.sep b' b B' _ l' l g hg m' oH ne) mO (bS _) (hM.new b l oH) (hM.lo0 hg oH rfl)
     refine⟨.skip,_,_,_,?_,rfl,g1,g2,hH.set b _,vA hL oH _ _⟩
     rw[hex]
     simp[fe]
    rcases ZJ ho NM hrk hrv 0 fg hL' with⟨f,g⟩|⟨j,e1,f,g1,g2,g3⟩
    ·have hlen:=fg.length
     have Sa:=(g clock).length
     refine fin (es.push {key:=ev k,val:=ev v,born:=clock}) (clock+1) (by simpa using g clock) (abq QW (by rw[acE,hlen])) (by simp at Sa hlen ⊢;omega) ?_
     simp[Ws,Instr.mapUpdate,ag hu,sm,run_checkKey NM _ 9999,run_findKey NM.1 f,WU]
    ·have UM:es[j]?=some e1:=by simpa using g1
     have RX:j<es.size:=by
      rcases Ts j es.size with h'|h'
      ·exact h'
      ·rw[zqj h'] at UM;cases UM
     have hlen:=fg.length
     have Sa:=g3.length
     have hml:(es.modify j fun e=>{e with key:=ev k,val:=ev v}).toList=es.toList.set j {e1 with key:=ev k,val:=ev v}:=by
      apply List.ext_getElem?
      intro q
      rw[Array.getElem?_toList,Array.getElem?_modify]
      by_cases hq:j=q
      ·subst hq;rw[if_pos rfl,UM,List.getElem?_set_self (by simpa using RX)];rfl
      ·rw[if_neg hq,List.getElem?_set_ne hq];simp
     refine fin (es.modify j fun e=>{e with key:=ev k,val:=ev v}) clock ?_ (by rw[hml];exact aex QW g1 rfl) (by simp at Sa hlen ⊢;omega) ?_
     ·have:(es.modify j fun e=>{e with key:=ev k,val:=ev v}).toList=es.toList.set j {e1 with key:=ev k,val:=ev v}:=by
       apply List.ext_getElem?
       intro q
       rw[Array.getElem?_toList,Array.getElem?_modify]
       by_cases hq:j=q
       ·subst hq;rw[if_pos rfl,UM,List.getElem?_set_self (by simpa using RX)];rfl
       ·rw[if_neg hq,List.getElem?_set_ne hq];simp
      rw[this];exact g3
     ·have hf:=run_findKey (w:=w) NM.1 f
      have hs:=aew NM g2
      simp[Ws,Instr.mapUpdate,ag hu,sm,run_checkKey NM _ 9999,hf,WU,Instr.keyThatStays,UM,hs]
   ·cases h
  ·cases h
 ·cases h
end
end Go.Sx
/-
 SX: slices made fast. No condition.
-/
namespace Go.Sx
open Go.RowKit
noncomputable def az(g:AV→T ab→AV×T ab):List AV→T ab→List AV×T ab
 | [],h=>([],h)
 |v ::l,h=>((g v h).1 ::(az g l (g v h).2).1,(az g l (g v h).2).2)
noncomputable def QM(ih:AV→T ab→AV×T ab)(v:AV)(h:T ab):AV×T ab:=
 match v with
 |.slice b off len sz=>match aa b h with
  |some (.cells l .fix)=>if len*sz≤(l.drop off).length then(.sl (az ih ((l.drop off).take (len*sz)) (aK b (some (.cells l .ro)) h)).1 len sz .any,(az ih ((l.drop off).take (len*sz)) (aK b (some (.cells l .ro)) h)).2) else(v,h)
  |some (.cells l .ro)=>if len*sz≤(l.drop off).length then(.sl (az ih ((l.drop off).take (len*sz)) h).1 len sz .any,(az ih ((l.drop off).take (len*sz)) h).2) else(v,h)
  |some (.cells l .part)=>if len*sz≤(l.drop off).length then(.sl (az ih ((l.drop off).take (len*sz)) (aK b none h)).1 len sz .any,(az ih ((l.drop off).take (len*sz)) (aK b none h)).2) else(v,h)
  |_=>(v,h)
 |.sl l len sz _=>(.sl l len sz .any,h)
 |.agg cs=>(.agg (az ih cs h).1,(az ih cs h).2)
 |v=>(v,h)
noncomputable def ax:Nat→AV→T ab→AV×T ab
 |0,v,h=>(v,h)
 |n+1,v,h=>QM (ax n) v h
section
variable{R:Type}
theorem Dn{g:AV→T ab→(AV→T ab→R)→R}{ga:AV→T ab→AV×T ab}(hg:∀ v h c,g v h c=c (ga v h).1 (ga v h).2):∀ (l:List AV) (h:T ab) (c:List AV→T ab→R),Vz g l h c=c (az ga l h).1 (az ga l h).2
 | [],h,c=>rfl
 |v ::l,h,c=>by
  show g v h (fun v h=>Vz g l h fun r h=>c (v ::r) h)=_
  rw[hg,Dn hg l]
  rfl
theorem Oz:∀ (n:Nat) (v:AV) (h:T ab) (c:AV→T ab→R),Uf n v h c=c (ax n v h).1 (ax n v h).2
 |0,v,h,c=>rfl
 |n+1,v,h,c=>by
  show amF (Uf n) v h c=_
  have hL:=Dn (R:=R) (Oz n)
  cases v with
  |slice b off len sz=>
   simp only[ax,QM,amF]
   cases hb:aa b h with
   |none=>rfl
   |some B=>
    cases B with
    |cells l ck=>
     cases ck<;>simp only[takeC_eq,dropL_eq,sTCe,hL]<;>split<;>rfl
    |_=>rfl
  |agg cs=>simp only[ax,QM,amF,hL]
  |_=>rfl
end
section
variable{P:Program}{ρ:Nat→Int}{w0:W0}{w:World}{nx:Key}
structure mg(P:Program)(ρ:Nat→Int)(w0:W0)(w:World)(nx:Key)(μ:Mu)(G:Key→Option ab)(H:T ab)(μ':Mu)(G':Key→Option ab)(H':T ab):Prop where
 le:μ.le μ'
 m:∀ b,μ' b=μ b
 M:bG P ρ w0 μ' G' nx.toNat w
 hs:HSub H' G'
 g:∀ b,aa b H=none→G' b=G b∧aa b H'=none
theorem mg.refl{μ:Mu}{G:Key→Option ab}{H:T ab}(hM:bG P ρ w0 μ G nx.toNat w)(hH:HSub H G):mg P ρ w0 w nx μ G H μ G H:=⟨μ.le_refl,fun _=>rfl,hM,hH,fun _ h=>⟨rfl,h⟩⟩
theorem mg.trans{μ μ1 μ2:Mu}{G G1 G2:Key→Option ab}{H H1 H2:T ab}(a:mg P ρ w0 w nx μ G H μ1 G1 H1)(b:mg P ρ w0 w nx μ1 G1 H1 μ2 G2 H2):mg P ρ w0 w nx μ G H μ2 G2 H2:=
 ⟨Mu.le_trans a.le b.le,fun k=>(b.m k).trans (a.m k),b.M,b.hs,fun k hk=>⟨((b.g k (a.g k hk).2).1).trans (a.g k hk).1,(b.g k (a.g k hk).2).2⟩⟩
theorem mg.kept{μ μ':Mu}{G G':Key→Option ab}{H H':T ab}(h:mg P ρ w0 w nx μ G H μ' G' H'):Kept H H' nx nx μ μ' G G':=
 ⟨fun b hb _=>(h.g b hb).1,fun b _=>h.m b,fun b hb _=>(h.g b hb).2,bS _⟩
def Mu.OS(μ:Mu)(c:Nat)(arr:Array Value):Mu:=⟨μ.loc,fun c' i=>match μ.fz c' i with|some v=>some v|none=>if c'=c then arr[i]? else none⟩
theorem alZ{μ:Mu}{G:Key→Option ab}{H:T ab}(hM:bG P ρ w0 μ G nx.toNat w)(hH:HSub H G){b:Key}{L:List AV}{ck:CK}(hb:aa b H=some (.cells L ck))(X:Option ab)(hX:X=none∨(X=some (.cells L .ro)∧ck≠.part)) :
  ∃ l arr elem f μ',μ b=some l∧w.heap[l.c]?=some (.cells arr elem f)∧mg P ρ w0 w nx μ G H μ' (QK G b X) (aK b X H)∧(∀ i v,arr[i]?=some v→μ'.fz l.c i=some v)∧
   (∀ i a,L[i]?=some a→∃ v,arr[l.base+i]?=some v∧bn ρ μ' a v)∧l.base+l.ext≤arr.size∧L.length≤l.ext:=by
 have hg:=hH _ _ hb
 obtain⟨l,arr,elem,f,h1,h2,hc,hs,hl,hf,he⟩:=hM.cells hg
 have hle:μ.le (μ.OS l.c arr):=by
  refine⟨fun _ _ h=>h,fun c i v h=>?_⟩
  show(match μ.fz c i with|some v=>some v|none=>if c=l.c then arr[i]? else none)=some v
  rw[h]
 have hold:∀ i v,μ.fz l.c i=some v→arr[i]?=some v:=by
  intro i v h
  obtain⟨Tv,aa2,f',e1,e2⟩:=hM.fzw _ _ _ h
  rw[h2] at e1;cases e1
  exact e2
 have hfz:∀ i v,arr[i]?=some v→(μ.OS l.c arr).fz l.c i=some v:=by
  intro i v h
  show(match μ.fz l.c i with|some v=>some v|none=>if l.c=l.c then arr[i]? else none)=some v
  cases hz:μ.fz l.c i with
  |none=>simp[h]
  |some u=>have:=hold i u hz;rw[h] at this;cases this;rfl
 refine⟨l,arr,elem,f,μ.OS l.c arr,h1,h2,⟨hle,fun _=>rfl,?_,?_,?_⟩,hfz,fun i a ha=>?_,hs,hl⟩
 ·refine⟨?_,?_,hM.Cs,?_,hM.Xk,hM.new,hM.below,?_,?_,fun c i v e=>hle.f _ _ _ (hM.zle c i v e),?_,?_,hM.dr⟩
  ·intro b' B' e
   by_cases HX:b'=b
   ·subst HX
    rw[iL] at e
    rcases hX with rfl|⟨rfl,hck⟩<;>cases e
    exact⟨l,_,h1,h2,.cells L .ro l arr elem f (fun i a ha=>let ⟨v,hv,hr⟩:=hc i a ha;⟨v,hv,hr.mono hle⟩) hs hl (fun h=>absurd rfl h) (fun _=>he hck)⟩
   ·rw[cg _ _ HX] at e
    obtain⟨l',o',e1,e2,e3⟩:=hM.Vo b' B' e
    exact⟨l',o',e1,e2,e3.mono hle⟩
  ·intro b1 b2 B1 B2 l1 l2 e1 e2 m1 m2 eM
   have:∀ x B,QK G b X x=some B→∃ B',G x=some B':=by
    intro x B e
    by_cases HX:x=b
    ·subst HX;exact⟨_,hg⟩
    ·rw[cg _ _ HX] at e;exact⟨_,e⟩
   obtain⟨B1',e1'⟩:=this _ _ e1
   obtain⟨B2',e2'⟩:=this _ _ e2
   exact hM.sep b1 b2 B1' B2' l1 l2 e1' e2' m1 m2 eM
  ·intro b' B' l' e m
   by_cases HX:b'=b
   ·subst HX;rw[iL] at e;rcases hX with rfl|⟨rfl,hck⟩<;>cases e;exact .inl trivial
   ·rw[cg _ _ HX] at e;exact hM.own b' B' l' e m
  ·intro c i v e
   have e2:(match μ.fz c i with|some v=>some v|none=>if c=l.c then arr[i]? else none)=some v:=e
   clear e
   cases hz:μ.fz c i with
   |some u=>rw[hz] at e2;cases e2;exact hM.fzw _ _ _ hz
   |none=>
    rw[hz] at e2
    by_cases hcc:c=l.c
    ·subst hcc;simp only[if_true] at e2;exact⟨arr,elem,f,h2,e2⟩
    ·simp only[hcc,if_false] at e2;cases e2
  ·intro b' B' l' n e m vj i hi
   by_cases HX:b'=b
   ·subst HX;rw[iL] at e;rcases hX with rfl|⟨rfl,hck⟩<;>cases e;cases vj
   ·rw[cg _ _ HX] at e
    have eM:l'.c≠l.c:=hM.sep b' b B' _ l' l e hg m h1 HX
    have:=hM.fzf b' B' l' n e m vj i hi
    show(match μ.fz l'.c i with|some v=>some v|none=>if l'.c=l.c then arr[i]? else none)=none
    rw[this];simp[eM]
  ·intro c i v e
   have e2:(match μ.fz c i with|some v=>some v|none=>if c=l.c then arr[i]? else none)=some v:=e
   clear e
   cases hz:μ.fz c i with
   |some u=>rw[hz] at e2;cases e2;exact hM.fzo c i v hz
   |none=>
    rw[hz] at e2
    by_cases hcc:c=l.c
    ·subst hcc
     simp only[if_true] at e2
     cases ck with
     |fix=>exact .inl ((hM.own b _ l hg h1).resolve_left (by simp[ab.ro]))
     |part=>exact .inl ((hM.own b _ l hg h1).resolve_left (by simp[ab.ro]))
     |ro=>
      rcases hM.rof b L l hg h1 with h'|h'
      ·exact .inl h'
      ·have:=h' arr elem f i v h2 e2
       rw[hz] at this;cases this
    ·simp only[hcc,if_false] at e2;cases e2
  ·intro b' L' l' e m
   by_cases HX:b'=b
   ·subst HX
    have m:μ b'=some l':=m
    rw[h1] at m;cases m
    refine .inr fun Tv ee ff i v ha hv=>?_
    rw[h2] at ha;cases ha
    exact hfz i v hv
   ·rw[cg _ _ HX] at e
    rcases hM.rof b' L' l' e m with h'|h'
    ·exact .inl h'
    ·exact .inr fun Tv ee ff i v ha hv=>hle.f _ _ _ (h' Tv ee ff i v ha hv)
 ·exact hH.set b _
 ·intro b' kO
  have eM:b'≠b:=by intro e;subst e;rw[hb] at kO;cases kO
  exact⟨cg _ _ eM,by rw[bU _ _ _ _ eM];exact kO⟩
 ·obtain⟨v,hv,hr⟩:=hc i a ha
  exact⟨v,hv,hr.mono hle⟩
def ahT(P:Program)(ρ:Nat→Int)(w0:W0)(w:World)(nx:Key)(g:AV→T ab→AV×T ab):Prop:=∀ (v:AV) (u:Value) (μ:Mu) (G:Key→Option ab) (H:T ab),bG P ρ w0 μ G nx.toNat w→HSub H G→bn ρ μ v u→
 ∃ μ' G',mg P ρ w0 w nx μ G H μ' G' (g v H).2∧bn ρ μ' (g v H).1 u
theorem vz{g:AV→T ab→AV×T ab}(hg:ahT P ρ w0 w nx g):∀ (l:List AV) (us:List Value) (μ:Mu) (G:Key→Option ab) (H:T ab),bG P ρ w0 μ G nx.toNat w→HSub H G→aB ρ μ l us→
  ∃ μ' G',mg P ρ w0 w nx μ G H μ' G' (az g l H).2∧aB ρ μ' (az g l H).1 us
 | [],us,μ,G,H,hM,hH,h=>by cases h;exact⟨μ,G,mg.refl hM hH,.nil⟩
 |v ::l,us,μ,G,H,hM,hH,h=>by
  cases h with|cons _ _ u us h1 h2=>
  obtain⟨μ1,G1,f1,r1⟩:=hg v u μ G H hM hH h1
  obtain⟨μ2,G2,f2,r2⟩:=vz hg l us μ1 G1 _ f1.M f1.hs (h2.mono f1.le)
  exact⟨μ2,G2,f1.trans f2,.cons _ _ _ _ (r1.mono f2.le) r2⟩
theorem aeK{ih:AV→T ab→AV×T ab}(hi:ahT P ρ w0 w nx ih):ahT P ρ w0 w nx (QM ih):=by
 intro v u μ G H hM hH hv
 unfold QM
 split
 ·rename_i b off len sz
  have go:∀ (L:List AV) (ck:CK) (X:Option ab),(X=none∨(X=some (.cells L .ro)∧ck≠.part))→aa b H=some (.cells L ck)→len*sz≤(L.drop off).length→∃ μ1 G1 vs,mg P ρ w0 w nx μ G H μ1 G1 (aK b X H)∧aB ρ μ1 ((L.drop off).take (len*sz)) vs∧
    ∃ cap c o a,u=.slice (some a) len cap∧len≤cap∧(cap=0∨a=⟨c,o,none⟩)∧(∀ i v,vs[i]?=some v→μ1.fz c (o+i)=some v):=by
   intro L ck X hX hb hle
   obtain⟨l,arr,elem,f,μ',h1,h2,h3,h4,h5,h6,h7⟩:=alZ hM hH hb X hX
   cases hv with|slice _ _ _ _ cap l' a hm Ob hlen ha=>
   rw[h1] at hm;cases hm
   by_cases h0:len*sz=0
   ·refine⟨μ',_,[],h3,by rw[h0];simp;exact .nil,cap,l.c,l.base+off,a,rfl,hlen,ha,?_⟩
    intro i v hv;simp at hv
   ·refine⟨μ',_,(arr.toList.drop (l.base+off)).take (len*sz),h3,Ei h5 (by omega) (by simp at hle;omega),cap,l.c,l.base+off,a,rfl,hlen,ha,?_⟩
    intro i v hv
    have hi:i<len*sz:=by
     rcases Ts i (len*sz) with h'|h'
     ·exact h'
     ·rw[zqo (by simp;omega)] at hv;cases hv
    rw[List.getElem?_take_of_lt hi,List.getElem?_drop] at hv
    exact h4 _ _ (by simpa using hv)
  have fin:∀ (L:List AV) (ck:CK) (H1:T ab) (μ1:Mu) (G1:Key→Option ab) (vs:List Value),len*sz≤(L.drop off).length→mg P ρ w0 w nx μ G H μ1 G1 H1→aB ρ μ1 ((L.drop off).take (len*sz)) vs→
    (∃ cap c o a,u=.slice (some a) len cap∧len≤cap∧(cap=0∨a=⟨c,o,none⟩)∧(∀ i v,vs[i]?=some v→μ1.fz c (o+i)=some v))→
    ∃ μ' G',mg P ρ w0 w nx μ G H μ' G' (az ih ((L.drop off).take (len*sz)) H1).2∧bn ρ μ' (.sl (az ih ((L.drop off).take (len*sz)) H1).1 len sz .any) u:=by
   intro L ck H1 μ1 G1 vs hle f1 r1 hx
   obtain⟨cap,c,o,a,rfl,hlen,ha,hf⟩:=hx
   obtain⟨μ2,G2,f2,r2⟩:=vz hi _ _ μ1 G1 H1 f1.M f1.hs r1
   refine⟨μ2,G2,f1.trans f2,.sl _ len sz .any cap c o a vs r2 ?_ hlen ha (fun i v hv=>f2.le.f _ _ _ (hf i v hv)) trivial⟩
   rw[r2.length,← r1.length,zqy]
   omega
  split
  ·rename_i L hb
   split
   ·rename_i hle
    obtain⟨μ1,G1,vs,f1,r1,hx⟩:=go L .fix _ (.inr ⟨rfl,by simp⟩) hb hle
    exact fin L .fix _ μ1 G1 vs hle f1 r1 hx
   ·exact⟨μ,G,mg.refl hM hH,hv⟩
  ·rename_i L hb
   split
   ·rename_i hle
    obtain⟨μ1,G1,vs,f1,r1,hx⟩:=go L .ro _ (.inr ⟨rfl,by simp⟩) hb hle
    -- the row was only read before: the heap stays as it was
    have f1':mg P ρ w0 w nx μ G H μ1 G1 H:=⟨f1.le,f1.m,f1.M,fun b' B' e=>by
      refine f1.hs b' B' ?_
      by_cases HX:b'=b
      ·subst HX;rw[hb] at e;cases e;rw[gTSm]
      ·rw[bU _ _ _ _ HX];exact e,fun b' kO=>⟨(f1.g b' kO).1,kO⟩⟩
    exact fin L .ro _ μ1 G1 vs hle f1' r1 hx
   ·exact⟨μ,G,mg.refl hM hH,hv⟩
  ·rename_i L hb
   split
   ·rename_i hle
    obtain⟨μ1,G1,vs,f1,r1,hx⟩:=go L .part none (.inl rfl) hb hle
    exact fin L .part _ μ1 G1 vs hle f1 r1 hx
   ·exact⟨μ,G,mg.refl hM hH,hv⟩
  ·exact⟨μ,G,mg.refl hM hH,hv⟩
 ·rename_i l len sz fl
  cases hv with|sl _ _ _ _ cap c o a vs hr hn hl ha hf hg=>
  exact⟨μ,G,mg.refl hM hH,.sl _ _ _ _ cap c o a vs hr hn hl ha hf trivial⟩
 ·rename_i cs
  cases hv with|agg _ vs hr=>
  obtain⟨μ1,G1,f1,r1⟩:=vz hi _ _ μ G H hM hH hr
  exact⟨μ1,G1,f1,.agg _ _ r1⟩
 ·exact⟨μ,G,mg.refl hM hH,hv⟩
theorem Ln:∀ (n:Nat),ahT P ρ w0 w nx (ax n)
 |0=>fun v u μ G H hM hH hv=>⟨μ,G,mg.refl hM hH,hv⟩
 |n+1=>aeK (Ln n)
theorem LQ(g:AV→T ab→AV×T ab):∀ (l:List AV) (H:T ab),(az g l H).1.length=l.length
 | [],H=>rfl
 |v ::l,H=>by simp[az,LQ g l]
end
end Go.Sx
/-
 SX: append. No condition.
-/
namespace Go.Sx
open Go.RowKit
theorem aa7(Cn:Nat):∀ (r c:Nat),c<Cn→Builtin.growBy Cn r c≤Cn+(Cn+768) / 4
 |0,c,h=>by simp[Builtin.growBy];omega
 |r+1,c,h=>by
  simp only[Builtin.growBy]
  rw[if_neg (by omega)]
  by_cases h':c+(c+768) / 4<Cn
  ·exact aa7 Cn r _ h'
  ·have:Builtin.growBy Cn r (c+(c+768) / 4)=c+(c+768) / 4:=by
    cases r with
    |zero=>rfl
    |succ r=>simp only[Builtin.growBy];rw[if_pos (by omega)]
   rw[this]
   omega
theorem afH{Cn cap:Nat}(h:cap<Cn):Builtin.nextslicecap Cn cap≤2*Cn+1000:=by
 unfold Builtin.nextslicecap
 split
 ·omega
 ·split
  ·omega
  ·have:=aa7 Cn 4 cap h
   omega
section
variable{P:Program}{ρ:Nat→Int}{w0:W0}{w:World}{μ:Mu}{G:Key→Option ab}{nx:Key}{orc:pF}{nt:Nat}{tm:T AV}{H:T ab}{ev:Operand→Value}
structure aiv(P:Program)(t u e:TypeId)(i:TypeInfo)(z:Value):Prop where
 ht:P.underlying t=some (.slice e)
 hu:(∃ e',P.underlying u=some (.slice e'))∨P.underlying u=some .string
 hi:P.info? e=some i
 hz:i.zero=some z
 pos:0<i.size
 zs:z.cells.size=i.size
 by_:i.bytes≤65536
theorem pR{t u e:TypeId}{i:TypeInfo}{z:Value}(hT:aiv P t u e i z)(ty:TypeId){base:Option Addr}{sLen sCap n:Nat}{x:Value}{us:Array Value}(hn:(Builtin.lenOf x).run P w=.ok n w)
  (hle:sLen+n≤sCap) (hc:(Builtin.firstCells i.size n x).run P w=.ok us w) :
  (Builtin.append_ #[t,u] ty #[.slice base sLen sCap,x]).run P w =
   (match base with|some a=>(storeCells (a.add (sLen*i.size)) us.toList).run P w|none=>.ok () w).andThen fun _ w'=>.ok (.slice base (sLen+n) sCap) w':=by
 rcases hT.hu with⟨e',h⟩|h
 all_goals
  simp only[Builtin.append_,List.getElem?_toArray,List.getElem?_cons_zero,List.getElem?_cons_succ,uu,ag hT.ht,pY,bL hT.hi,ag h,AP,Yz,if_false,hn,hle,if_true,Bool.not_false,hc]
  cases base<;>simp
theorem run_append_grow{t u e:TypeId}{i:TypeInfo}{z:Value}(hT:aiv P t u e i z)(ty:TypeId){base:Option Addr}{sLen sCap n:Nat}{x:Value}{us os:Array Value}(hn:(Builtin.lenOf x).run P w=.ok n w)
  (hgt:sCap<sLen+n) (hsm:sLen+n≤1048576) (hc:∀ d,(Builtin.firstCells i.size n x).run P {w with drawn:=d}=.ok us {w with drawn:=d})
  (ho:∀ d,(Builtin.firstCells i.size sLen (.slice base sLen sCap)).run P {w with drawn:=d}=.ok os {w with drawn:=d}) :
  ∃ cap,sLen+n≤cap∧(Builtin.append_ #[t,u] ty #[.slice base sLen sCap,x]).run P w =
   .ok (.slice (some ⟨w.heap.size,0,none⟩) (sLen+n) cap) ({w with drawn:=w.drawn+1}.alloc (.cells (os++us++Builtin.zeroCells z.cells (cap-(sLen+n))) e)):=by
 refine⟨(sLen+n)+w.tape w.drawn (.appendCap (sLen+n) sCap e)%(2^63-(sLen+n)),by omega,?_⟩
 have h1:¬ (sLen+n≤sCap):=by omega
 have h2:¬ (((sLen+n:Nat):Int)>IntKind.i64.max∧(False∨i.bytes=0)):=by
  have:IntKind.i64.max=9223372036854775807:=by decide
  rw[this]
  omega
 have h3:¬ (Builtin.nextslicecap (sLen+n) sCap*i.bytes>2^48):=by
  have a:=afH hgt
  have:Builtin.nextslicecap (sLen+n) sCap*i.bytes≤2098152*65536:=Nat.mul_le_mul (by omega) hT.by_
  omega
 have hch:(choose (.appendCap (sLen+n) sCap e)).run P w=.ok ((sLen+n)+w.tape w.drawn (.appendCap (sLen+n) sCap e)%(2^63-(sLen+n))) {w with drawn:=w.drawn+1}:=by
  simp[Question.forced,Question.cut]
 have ho':=ho (w.drawn+1)
 have hc':=hc (w.drawn+1)
 rcases hT.hu with⟨e',h⟩|h
 all_goals
  simp only[Builtin.append_,List.getElem?_toArray,List.getElem?_cons_zero,List.getElem?_cons_succ,uu,ag hT.ht,pY,bL hT.hi,ag h,AP,Yz,if_false,hn,h1,Bool.not_false,pG hT.hi]
  rw[if_neg h2]
  simp only[uu,pG hT.hi,pY]
  rw[if_neg h3]
  simp only[uu,hch,pY,pG hT.hi,run_askRoom,ho',if_true,hc',vC hT.hi hT.hz,rY,AP]
structure YY(P:Program)(ρ:Nat→Int)(μ:Mu)(w:World)(sz:Nat)(x:Value)(new:List AV)(m:Nat)(us:Array Value):Prop where
 hn:(Builtin.lenOf x).run P w=.ok m w
 hc:∀ d,(Builtin.firstCells sz m x).run P {w with drawn:=d}=.ok us {w with drawn:=d}
 hr:aB ρ μ new us.toList
 hl:new.length=m*sz
theorem YY.now{sz:Nat}{x:Value}{new:List AV}{m:Nat}{us:Array Value}(h:YY P ρ μ w sz x new m us):(Builtin.firstCells sz m x).run P w=.ok us w:=h.hc w.drawn
theorem QJ(z:Array Value)(n:Nat):(Builtin.zeroCells z n).size=n*z.size:=by simp[Builtin.zeroCells]
def Mu.mark(μ:Mu)(k:Key)(c base ext:Nat)(arr:Array Value):Mu:=⟨QK μ.loc k (some ⟨c,base,ext⟩),fun c' i=>match μ.fz c' i with|some v=>some v|none=>if c'=c∧i<base then arr[i]? else none⟩
theorem Mu.pS(μ:Mu)(k:Key)(c base ext:Nat)(arr:Array Value):(μ.mark k c base ext arr) k=some ⟨c,base,ext⟩:=iL _ _ _
theorem Mu.tr(μ:Mu){k b:Key}(c base ext:Nat)(arr:Array Value)(h:b≠k):(μ.mark k c base ext arr) b=μ b:=cg _ _ h
theorem bG.mark{w':World}{n n':Nat}(h:bG P ρ w0 μ G n w)(k:Key)(c base ext:Nat){arr:Array Value}{elem:TypeId}(hk:μ k=none)(hw:Touch w w' c)(ho:w'.heap[c]?=some (.cells arr elem (0,0)))
  (hs:base+ext≤arr.size) (SN:∀ b B' l',G b=some B'→μ b=some l'→l'.c≠c) (hold:∀ i v,μ.fz c i=some v→arr[i]?=some v∧i<base) (mO:w0.heap.size≤c) (hn:n≤n') (Ur:k.toNat<n') :
  μ.le (μ.mark k c base ext arr)∧bG P ρ w0 (μ.mark k c base ext arr) (QK G k (some .tok)) n' w'∧(∀ i v,i<base→arr[i]?=some v→(μ.mark k c base ext arr).fz c i=some v):=by
 have aki:∀ c' i,(μ.mark k c base ext arr).fz c' i=(match μ.fz c' i with|some v=>some v|none=>if c'=c∧i<base then arr[i]? else none):=fun _ _=>rfl
 have hle:μ.le (μ.mark k c base ext arr):=by
  refine⟨fun b l e=>?_,fun c' i v e=>by rw[aki,e]⟩
  by_cases hb:b=k
  ·subst hb;rw[hk] at e;cases e
  ·rw[Mu.tr _ _ _ _ _ hb];exact e
 have hlc:c<w'.heap.size:=by
  rcases Ts c w'.heap.size with h'|h'
  ·exact h'
  ·rw[zqj h'] at ho;cases ho
 refine⟨hle,⟨?_,?_,?_,?_,?_,?_,hw.below h.below h.below.size mO,?_,?_,fun c' i v e=>hle.f _ _ _ (h.zle c' i v e),?_,?_,Nat.le_trans h.dr hw.dr⟩,?_⟩
 ·intro b B' e
  by_cases hb:b=k
  ·subst hb
   rw[iL] at e
   cases e
   exact⟨_,_,Mu.pS _ _ _ _ _ _,ho,.tok _ arr elem hs⟩
  ·rw[cg _ _ hb] at e
   obtain⟨l',o',h1,h2,h3⟩:=h.Vo b B' e
   refine⟨l',o',by rw[Mu.tr _ _ _ _ _ hb];exact h1,?_,h3.mono hle⟩
   rw[hw.other l'.c (SN b B' l' e h1) (h.Cs b l' h1)]
   exact h2
 ·intro b b' B1 B2 l1 l2 e1 e2 m1 m2 eM
  by_cases hb:b=k
  ·subst hb
   rw[Mu.pS] at m1;cases m1
   have kO:b'≠b:=fun e=>eM e.symm
   rw[cg _ _ kO] at e2
   rw[Mu.tr _ _ _ _ _ kO] at m2
   exact fun e=>SN b' B2 l2 e2 m2 e.symm
  ·rw[cg _ _ hb] at e1
   rw[Mu.tr _ _ _ _ _ hb] at m1
   by_cases kO:b'=k
   ·subst kO
    rw[Mu.pS] at m2;cases m2
    exact SN b B1 l1 e1 m1
   ·rw[cg _ _ kO] at e2
    rw[Mu.tr _ _ _ _ _ kO] at m2
    exact h.sep b b' B1 B2 l1 l2 e1 e2 m1 m2 eM
 ·intro b l' e
  by_cases hb:b=k
  ·subst hb;rw[Mu.pS] at e;cases e;exact hlc
  ·rw[Mu.tr _ _ _ _ _ hb] at e;exact YK (h.Cs b l' e) hw.size
 ·intro b B' l' e m
  by_cases hb:b=k
  ·subst hb;rw[Mu.pS] at m;cases m;exact .inr mO
  ·rw[cg _ _ hb] at e;rw[Mu.tr _ _ _ _ _ hb] at m;exact h.own b B' l' e m
 ·intro b hb
  obtain⟨ext,he⟩:=h.Xk b hb
  exact⟨ext,hle.l _ _ he⟩
 ·intro b l' e
  by_cases hb:b=k
  ·subst hb;exact Ur
  ·rw[Mu.tr _ _ _ _ _ hb] at e;exact YK (h.new b l' e) hn
 ·intro c' i v e
  rw[aki] at e
  cases hz:μ.fz c' i with
  |some u=>
   rw[hz] at e;cases e
   by_cases hc:c'=c
   ·subst hc;exact⟨arr,elem,(0,0),ho,(hold i v hz).1⟩
   ·obtain⟨Tv,aa2,f',h1,h2⟩:=h.fzw c' i v hz
    have aM:c'<w.heap.size:=by
     rcases Ts c' w.heap.size with h'|h'
     ·exact h'
     ·rw[zqj h'] at h1;cases h1
    exact⟨Tv,aa2,f',by rw[hw.other c' hc aM];exact h1,h2⟩
  |none=>
   rw[hz] at e
   simp only at e
   by_cases hc:c'=c∧i<base
   ·rw[if_pos hc] at e;rw[hc.1];exact⟨arr,elem,(0,0),ho,e⟩
   ·rw[if_neg hc] at e;cases e
 ·intro b B' l' n e m vj i hi
  rw[aki]
  by_cases hb:b=k
  ·subst hb
   rw[iL] at e;cases e
   rw[Mu.pS] at m;cases m
   simp only[ab.lo,dO] at vj;subst vj
   cases hz:μ.fz c i with
   |some u=>exact absurd (hold i u hz).2 (by show ¬ i<base;exact Nat.not_lt.2 hi)
   |none=>
    have:¬ (c=c∧i<base):=fun h=>absurd h.2 (Nat.not_lt.2 hi)
    show(if c=c∧i<base then arr[i]? else none)=none
    rw[if_neg this]
  ·rw[cg _ _ hb] at e;rw[Mu.tr _ _ _ _ _ hb] at m
   have eM:=SN b B' l' e m
   rw[h.fzf b B' l' n e m vj i hi]
   simp[eM]
 ·intro c' i v e
  rw[aki] at e
  cases hz:μ.fz c' i with
  |some u=>rw[hz] at e;cases e;exact h.fzo c' i v hz
  |none=>
   rw[hz] at e
   simp only at e
   by_cases hc:c'=c∧i<base
   ·rw[hc.1];exact .inl mO
   ·rw[if_neg hc] at e;cases e
 ·intro b L l' e m
  by_cases hb:b=k
  ·subst hb;rw[Mu.pS] at m;cases m;exact .inl mO
  ·rw[cg _ _ hb] at e;rw[Mu.tr _ _ _ _ _ hb] at m
   rcases h.rof b L l' e m with h1|h1
   ·exact .inl h1
   ·refine .inr fun Tv ee f i v ha hv=>hle.f _ _ _ (h1 Tv ee f i v ?_ hv)
    rw[← hw.other l'.c (SN b _ l' e m) (h.Cs b l' m)];exact ha
 ·intro i v hi hv
  rw[aki]
  cases hz:μ.fz c i with
  |some u=>have:=(hold i u hz).1;rw[hv] at this;cases this;rfl
  |none=>simp[hi,hv]
theorem afI(c base ext:Nat)(arr:Array Value)(B B':Option ab):Kept H (aK nx B' H) nx nx.succ μ (μ.mark nx c base ext arr) G (QK G nx B):=by
 have hs:=kTSu nx
 exact⟨fun b _ hl=>cg _ _ (ne_of_lt hl),fun b hl=>Mu.tr _ _ _ _ _ (ne_of_lt hl),fun b hb hl=>by rw[bU _ _ _ _ (ne_of_lt hl)];exact hb,by omega⟩
theorem adR(hM:bG P ρ w0 μ G nx.toNat w){t u e:TypeId}{i:TypeInfo}{z:Value}(hT:aiv P t u e i z){L:List AV}{vs:Array Value}(hL:aB ρ μ L vs.toList){len cap:Nat}(hlen:vs.size=len*i.size)(Ob:len≤cap) :
  ∃ μ',μ.le μ'∧bG P ρ w0 μ' (QK G nx (some .tok)) nx.succ.toNat ({w with drawn:=w.drawn+1}.alloc (.cells (vs++Builtin.zeroCells z.cells (cap-len)) e))∧
   bn ρ μ' (.sl L len i.size (.tok nx)) (.slice (some ⟨w.heap.size,0,none⟩) len cap)∧(∀ (B B':Option ab) (H:T ab) (G:Key→Option ab),Kept H (aK nx B' H) nx nx.succ μ μ' G (QK G nx B)):=by
 have hs:=kTSu nx
 have hk:=hM.DV
 have hzs:(Builtin.zeroCells z.cells (cap-len)).size=(cap-len)*i.size:=by rw[QJ,hT.zs]
 obtain⟨h1,h2,h3⟩:=(hM.drawn (w.drawn+1) (Nat.le_succ _)).mark (w':={w with drawn:=w.drawn+1}.alloc (.cells (vs++Builtin.zeroCells z.cells (cap-len)) e)) nx w.heap.size (len*i.size) ((cap-len)*i.size) (arr:=vs++Builtin.zeroCells z.cells (cap-len)) (elem:=e) hk
  (Touch.alloc _ _) (by show(w.heap.push _)[w.heap.size]?=_;simp) (by rw[Array.size_append,hzs,hlen];exact bS _)
  (fun b B' l' _ m=>Nat.ne_of_lt (hM.Cs b l' m)) (fun j v hv=>by rw[hM.afK j] at hv;cases hv) hM.below.size (n':=nx.succ.toNat) (by omega) (by omega)
 refine⟨_,h1,h2,?_,fun B B' H G=>afI _ _ _ _ B B'⟩
 refine .sl L len i.size _ cap w.heap.size 0 _ vs.toList (hL.mono h1) ?_ Ob (.inr rfl) ?_ ?_
 ·rw[hL.length];simpa using hlen
 ·intro j v hv
  have hj:j<vs.size:=by
   rcases Ts j vs.size with h'|h'
   ·exact h'
   ·rw[zqo (by simpa using h')] at hv;cases hv
  rw[Nat.zero_add]
  refine h3 j v (by omega) ?_
  rw[Array.getElem?_append_left hj]
  simpa using hv
 ·show _=some (⟨w.heap.size,0+len*i.size,(cap-len)*i.size⟩:Loc)
  rw[Nat.zero_add]
  exact Mu.pS _ _ _ _ _ _
theorem aa8(hM:bG P ρ w0 μ G nx.toNat w){t u e:TypeId}{i:TypeInfo}{z:Value}(hT:aiv P t u e i z){L:List AV}{vs:Array Value}(hL:aB ρ μ L vs.toList){len cap:Nat}(hlen:vs.size=len*i.size)(Ob:len≤cap) :
  ∃ μ',μ.le μ'∧bG P ρ w0 μ' (QK G nx (some (.cells L .part))) nx.succ.toNat ({w with drawn:=w.drawn+1}.alloc (.cells (vs++Builtin.zeroCells z.cells (cap-len)) e))∧
   bn ρ μ' (.slice nx 0 len i.size) (.slice (some ⟨w.heap.size,0,none⟩) len cap)∧(∀ (B B':Option ab) (H:T ab) (G:Key→Option ab),Kept H (aK nx B' H) nx nx.succ μ μ' G (QK G nx B)):=by
 have hs:=kTSu nx
 have hk:=hM.DV
 have hzs:(Builtin.zeroCells z.cells (cap-len)).size=(cap-len)*i.size:=by rw[QJ,hT.zs]
 have tF:(vs++Builtin.zeroCells z.cells (cap-len)).size=cap*i.size:=by
  rw[Array.size_append,hzs,hlen,← Nat.add_mul];congr 1;omega
 have hLl:L.length=len*i.size:=by rw[hL.length];simpa using hlen
 have RJ:len*i.size≤cap*i.size:=Nat.mul_le_mul_right _ Ob
 have hle:μ.le (μ.put nx ⟨w.heap.size,0,cap*i.size⟩):=Mu.HY (.inl hk)
 have hb:TJ P ρ (μ.put nx ⟨w.heap.size,0,cap*i.size⟩) (.cells L .part) ⟨w.heap.size,0,cap*i.size⟩ (.cells (vs++Builtin.zeroCells z.cells (cap-len)) e (0,0)):=by
  refine .cells L .part _ _ e (0,0) ?_ (by rw[tF];simp) (by show L.length≤cap*i.size;omega) (fun _=>rfl) (fun h=>absurd rfl h)
  intro j a ha
  obtain⟨v,hv,hr⟩:=hL.get j a ha
  refine⟨v,?_,hr.mono hle⟩
  have hj:j<vs.size:=by
   rcases Ts j vs.size with h'|h'
   ·exact h'
   ·rw[zqo (by simpa using h')] at hv;cases hv
  show(vs++_)[0+j]?=some v
  rw[Nat.zero_add,Array.getElem?_append_left hj]
  simpa using hv
 obtain⟨g1,g2⟩:=(hM.drawn (w.drawn+1) (Nat.le_succ _)).alloc nx (.cells L .part) (.cells (vs++Builtin.zeroCells z.cells (cap-len)) e) (cap*i.size) hk hb (nx':=nx.succ.toNat) (by omega) (by omega)
 refine⟨_,g1,g2,?_,fun B B' H G=>KM _ _ _⟩
 exact .slice nx 0 len i.size cap _ _ (Mu.fu _ _ _) (by simp) Ob (.inr (by simp))
theorem YZ(hM:bG P ρ w0 μ G nx.toNat w)(hH:HSub H G){t u e:TypeId}{i:TypeInfo}{z:Value}(hT:aiv P t u e i z)(ty:TypeId){s:AV}{sv xv:Value}(hs:bn ρ μ s sv){new:List AV}{m:Nat}{us:Array Value}
  (hx:YY P ρ μ w i.size xv new m us) {a:AV} {H':T ab} {nx':Key} (h:appendTo i.size s new m H nx=.val a H' nx') :
  ∃ v w' μ' G',(Builtin.append_ #[t,u] ty #[sv,xv]).run P w=.ok v w'∧bn ρ μ' a v∧μ.le μ'∧bG P ρ w0 μ' G' nx'.toNat w'∧HSub H' G'∧Kept H H' nx nx' μ μ' G G':=by
 have hss:=kTSu nx
 have Y5:us.size=m*i.size:=by have:=hx.hr.length;rw[hx.hl] at this;simpa using this.symm
 have Oc:=hT.pos
 unfold appendTo at h
 split at h
 ·-- nothing there
  cases hs
  cases hm0:Nat.beq m 0 with
  |true=>
   rw[hm0] at h
   simp only[cond_true,OR.val.injEq] at h
   obtain⟨rfl,rfl,rfl⟩:=h
   have hm:=yB hm0
   subst hm
   refine⟨.slice none 0 0,w,μ,G,?_,.nils,μ.le_refl,hM,hH,Kept.refl _ _ _ _⟩
   rw[pR hT ty (base:=none) (sLen:=0) (sCap:=0) hx.hn (bS _) hx.now]
   rfl
  |false=>
   rw[hm0] at h
   simp only[cond_false] at h
   have avA:m≠0:=by intro e;subst e;cases hm0
   cases hms:Nat.ble m 1048576 with
   |false=>rw[hms] at h;cases h
   |true=>
    rw[hms] at h
    rw[Nat.ble_eq] at hms
    simp only[cond_true,sTCe,OR.val.injEq] at h
    obtain⟨rfl,rfl,rfl⟩:=h
    obtain⟨cap,Ob,fe⟩:=run_append_grow (P:=P) (w:=w) hT ty (base:=none) (sLen:=0) (sCap:=0) (os:=#[]) hx.hn (by omega) (by omega) hx.hc (by intro d;rfl)
    simp only[Nat.zero_add] at Ob fe
    obtain⟨μ',g1,g2,g3,g4⟩:=aa8 hM hT hx.hr Y5 Ob
    refine⟨_,_,_,_,fe,g3,g1,?_,hH.set nx _,g4 _ _ _ _⟩
    have:(#[]:Array Value)++us=us:=by simp
    rw[this]
    exact g2
 ·-- a row avr is not written any more
  rename_i L len T8 fl
  cases hm0:Nat.beq m 0 with
  |true=>
   rw[hm0] at h
   simp only[cond_true,OR.val.injEq] at h
   obtain⟨rfl,rfl,rfl⟩:=h
   have hm:=yB hm0
   subst hm
   have hus:us=#[]:=by apply Array.eq_empty_of_size_eq_zero;simpa using Y5
   subst hus
   have hs0:=hs
   cases hs with|sl _ _ _ _ cap c o ad vs vG hn hle tu hf hg=>
   refine⟨.slice (some ad) len cap,w,μ,G,?_,hs0,μ.le_refl,hM,hH,Kept.refl _ _ _ _⟩
   rw[pR hT ty (base:=some ad) (sLen:=len) (sCap:=cap) hx.hn (by omega) hx.now]
   simp[storeCells]
  |false=>
   rw[hm0] at h
   simp only[cond_false] at h
   have avA:m≠0:=by intro e;subst e;cases hm0
   cases hc0:(Nat.beq i.size T8&&Nat.ble (len+m) 1048576&&new.all AV.aD) with
   |false=>rw[hc0] at h;cases h
   |true=>
    rw[hc0] at h
    simp only[cond_true] at h
    simp only[Ad,Nat.ble_eq] at hc0
    obtain⟨⟨Y6,hsm⟩,afL⟩:=hc0
    have Y6:=yB Y6
    subst Y6
    split at h
    ·cases h
    ·rename_i b
     split at h
     ·rename_i avC
      simp only[appC_eq,sTCe,OR.val.injEq] at h
      obtain⟨rfl,rfl,rfl⟩:=h
      cases hs with|sl _ _ _ _ cap c o ad vs vG hn hle tu hf hg=>
      have hg:μ b=some ⟨c,o+len*i.size,(cap-len)*i.size⟩:=hg
      have hgb:=hH _ _ avC
      have hvl:=vG.length
      obtain⟨lb,ob,q1,q2,q3⟩:=hM.Vo b _ hgb
      rw[hg] at q1;cases q1
      cases q3 with|tok _ arr elem hsb=>
      have hsb:o+len*i.size+(cap-len)*i.size≤arr.size:=hsb
      have q2:w.heap[c]?=some (.cells arr elem (0,0)):=q2
      have hM1:bG P ρ w0 μ (QK G b none) nx.toNat w:=hM.sub (fun b' B' e'=>by
       by_cases hb:b'=b
       ·subst hb;rw[iL] at e';cases e'
       ·rw[cg _ _ hb] at e';exact e')
      have ne:∀ b',aa b' H=none→b'≠b:=fun b' h0 e0=>by rw[e0,avC] at h0;cases h0
      have adS:∀ (μ':Mu) x y,(∀ b':Key,b'.toNat<nx.toNat→μ' b'=μ b')→Kept H (aK nx y (aK b none H)) nx nx.succ μ μ' G (QK (QK G b none) nx x):=by
       intro μ' x y oH
       exact⟨fun b' kO aM=>by rw[cg _ _ (ne_of_lt aM),cg _ _ (ne b' kO)],oH,
        fun b' kO aM=>by rw[bU _ _ _ _ (ne_of_lt aM),bU _ _ _ _ (ne b' kO)];exact kO,by omega⟩
      have adT:aB ρ μ (L++new) (vs++us.toList):=vG.append hx.hr
      by_cases hlm:len+m≤cap
      ·-- in place, behind Ee end
       have tu:ad=⟨c,o,none⟩:=tu.resolve_left (by omega)
       subst tu
       have amS:=TK hx.hr afL
       have avE:(cap-len)*i.size=cap*i.size-len*i.size:=Nat.mul_sub_right_distrib _ _ _
       have hmul:(len+m)*i.size≤cap*i.size:=Nat.mul_le_mul_right _ hlm
       have arx:(len+m)*i.size=len*i.size+m*i.size:=Nat.add_mul _ _ _
       have hlc:len*i.size≤cap*i.size:=Nat.mul_le_mul_right _ hle
       obtain⟨w',e1,e2,e3,e4⟩:=xu P c (o+len*i.size) elem us.toList 0 w arr q2 (by simp[Y5];omega) amS
       have mO:w0.heap.size≤c:=(hM.own b _ _ hgb hg).resolve_left (by simp[ab.ro])
       have akk:∀ j v,μ.fz c j=some v→arr[j]?=some v∧j<o+len*i.size:=by
        intro j v hj
        constructor
        ·obtain⟨Tv,aa2,f',x1,x2⟩:=hM.fzw _ _ _ hj
         rw[q2] at x1;cases x1;exact x2
        ·rcases Ts j (o+len*i.size) with h'|h'
         ·exact h'
         ·have:=hM.fzf b _ _ (o+len*i.size) hgb hg rfl j h'
          rw[this] at hj;cases hj
       have avF:(cap-(len+m))*i.size=cap*i.size-(len+m)*i.size:=Nat.mul_sub_right_distrib _ _ _
       obtain⟨g1,g2,g3⟩:=hM1.mark (w':=w') nx c (o+(len+m)*i.size) ((cap-(len+m))*i.size) hM.DV e2 e4 (by rw[AL];omega)
        (fun b' B' l' gg mm=>by
         by_cases HX:b'=b
         ·subst HX;rw[iL] at gg;cases gg
         ·rw[cg _ _ HX] at gg
          exact hM.sep b' b B' _ l' _ gg hgb mm hg HX)
        (fun j v hj=>by
         obtain⟨y1,y2⟩:=akk j v hj
         refine⟨?_,by omega⟩
         rw[tv _ _ _ _ (by simp[Y5];omega),if_neg (by omega)]
         exact y1) mO (n':=nx.succ.toNat) (by omega) (by omega)
       refine⟨.slice (some ⟨c,o,none⟩) (len+m) cap,w',_,_,?_,?_,g1,g2,(hH.set b none).set nx _,adS _ _ _ (fun b' aM=>Mu.tr _ _ _ _ _ (ne_of_lt aM))⟩
       ·rw[pR hT ty (base:=some ⟨c,o,none⟩) hx.hn hlm hx.now]
        simp only[z6,e1,pY]
       ·refine .sl _ _ _ _ cap c o _ (vs++us.toList) (adT.mono g1) ?_ hlm (.inr rfl) ?_ ?_
        ·rw[Lc,hn,hx.hl,arx]
        ·intro j v hj
         by_cases hj1:j<vs.length
         ·rw[List.getElem?_append_left hj1] at hj
          exact g1.f _ _ _ (hf j v hj)
         ·rw[List.getElem?_append_right (by omega)] at hj
          have RX:j-vs.length<us.size:=by
           rcases Ts (j-vs.length) us.size with h'|h'
           ·exact h'
           ·rw[zqo (by simpa using h')] at hj;cases hj
          refine g3 _ _ (by omega) ?_
          rw[tv _ _ _ _ (by simp[Y5];omega),if_pos (by simp;omega)]
          rw[← hj];congr 1;omega
        ·exact Mu.pS _ _ _ _ _ _
      ·-- a new row
       have QL:∀ d,(Builtin.firstCells i.size len (.slice (some ad) len cap)).run P {w with drawn:=d}=.ok vs.toArray {w with drawn:=d}:=by
        intro d
        simp only[Builtin.firstCells]
        by_cases h0:len=0
        ·subst h0
         have:vs=[]:=zqr (by omega)
         subst this
         simp[loadCells,loadCellsFrom]
        ·have tu:ad=⟨c,o,none⟩:=tu.resolve_left (by omega)
         subst tu
         rw[XU (hM.akl d) hf (by omega),XO (by omega)]
       obtain⟨aqD,adU,fe⟩:=run_append_grow (P:=P) (w:=w) hT ty (base:=some ad) hx.hn (by omega) hsm hx.hc QL
       have hr2:aB ρ μ (L++new) (vs.toArray++us).toList:=by simpa using adT
       have akm:(vs.toArray++us).size=(len+m)*i.size:=by
        rw[Array.size_append,Y5,Nat.add_mul];simp;omega
       obtain⟨μ',g1,g2,g3,g4⟩:=adR hM1 hT hr2 akm adU
       refine⟨_,_,_,_,fe,g3,g1,g2,(hH.set b none).set nx _,adS _ _ _ (fun b' aM=>(g4 none none H G).m b' aM)⟩
     ·cases h
 ·rename_i b off len T8
  cases hc0:(Nat.beq i.size T8&&Nat.ble (len+m) 1048576&&new.all AV.aD) with
  |false=>rw[hc0] at h;cases h
  |true=>
   rw[hc0] at h
   simp only[cond_true] at h
   simp only[Ad,Nat.ble_eq] at hc0
   obtain⟨⟨Y6,hsm⟩,afL⟩:=hc0
   have Y6:=yB Y6
   subst Y6
   have hs0:=hs
   cases hs with|slice _ _ _ _ cap l ad oH Ob hlen tu=>
   have amS:=TK hx.hr afL
   -- a new row
   have aA8:∀ (L:List AV) (ck:CK),aa b H=some (.cells L ck)→cap<len+m→len*i.size≤(L.drop off).length→
     ∃ v w' μ' G',(Builtin.append_ #[t,u] ty #[.slice (some ad) len cap,xv]).run P w=.ok v w'∧bn ρ μ' (.slice nx 0 (len+m) i.size) v∧μ.le μ'∧
      bG P ρ w0 μ' G' nx.succ.toNat w'∧HSub (aK nx (some (.cells ((az (ax 9999) ((L.drop off).take (len*i.size)) H).1++new) .part)) (az (ax 9999) ((L.drop off).take (len*i.size)) H).2) G'∧Kept H (aK nx (some (.cells ((az (ax 9999) ((L.drop off).take (len*i.size)) H).1++new) .part)) (az (ax 9999) ((L.drop off).take (len*i.size)) H).2) nx nx.succ μ μ' G G':=by
    intro L ck hL hgt hle
    have hg:=hH _ _ hL
    obtain⟨l',arr,elem,fz,k1,k2,k3,k4,k5,k7⟩:=hM.cells hg
    rw[oH] at k1;cases k1
    have QL:∀ d,(Builtin.firstCells i.size len (.slice (some ad) len cap)).run P {w with drawn:=d}=.ok ((arr.toList.drop (l.base+off)).take (len*i.size)).toArray {w with drawn:=d}:=by
     intro d
     simp only[Builtin.firstCells]
     by_cases h0:len=0
     ·subst h0;simp[loadCells,loadCellsFrom]
     ·have tu:ad=⟨l.c,l.base+off,none⟩:=tu.resolve_left (by omega)
      subst tu
      refine pH P {w with drawn:=d} l.c (l.base+off) arr elem fz k2 (len*i.size) ?_
      simp at hle
      have:0<len*i.size:=Nat.mul_pos (by omega) Oc
      omega
    have vG:aB ρ μ ((L.drop off).take (len*i.size)) ((arr.toList.drop (l.base+off)).take (len*i.size)):=by
     by_cases h0:len=0
     ·subst h0;simp;exact .nil
     ·have:0<len*i.size:=Nat.mul_pos (by omega) Oc
      simp at hle
      exact Ei k3 (by omega) (by omega)
    obtain⟨μ1,G1,f1,r1⟩:=vz (Ln 9999) _ _ μ G H hM hH vG
    obtain⟨aqD,adU,fe⟩:=run_append_grow (P:=P) (w:=w) hT ty (base:=some ad) hx.hn hgt hsm hx.hc QL
    have hr2:aB ρ μ1 ((az (ax 9999) ((L.drop off).take (len*i.size)) H).1++new) (((arr.toList.drop (l.base+off)).take (len*i.size)).toArray++us).toList:=by
     simpa using r1.append (hx.hr.mono f1.le)
    have akm:(((arr.toList.drop (l.base+off)).take (len*i.size)).toArray++us).size=(len+m)*i.size:=by
     have:=hr2.length
     rw[Lc,LQ,zqy,hx.hl] at this
     have e:min (len*i.size) (L.drop off).length=len*i.size:=by omega
     rw[e,← Nat.add_mul] at this
     simpa using this.symm
    obtain⟨μ',g1,g2,g3,g4⟩:=aa8 f1.M hT hr2 akm adU
    exact⟨_,_,μ',_,fe,g3,Mu.le_trans f1.le g1,g2,f1.hs.set nx _,f1.kept.trans (g4 _ _ _ _)⟩
   have avH:∀ (L:List AV) (ck:CK),ck≠.part→aa b H=some (.cells L ck)→¬ (off+(len+m)*i.size≤L.length)→cap<len+m:=by
    intro L ck hck hL hle
    obtain⟨l',arr,elem,fz,k1,k2,k3,k4,k5,k7,k8⟩:=hM.cells (hH _ _ hL)
    rw[oH] at k1;cases k1
    have k8:=k8 hck
    rcases Ts cap (len+m) with h'|h'
    ·exact h'
    ·have:(len+m)*i.size≤cap*i.size:=Nat.mul_le_mul_right _ h'
     omega
   have aoJ:∀ (L:List AV) (ck:CK),ck≠.part→aa b H=some (.cells L ck)→¬ (off+(len+m)*i.size≤L.length)→
     (GQ (len*i.size) (Eu off L) (OR.bad 14) (fun xE=>Vz (Uf 9999) xE H fun xE h=>ab5 xE new (fun r=>Gs nx (some (.cells r .part)) h fun h=>.val (.slice nx 0 (len+m) i.size) h nx.succ)))=.val a H' nx'→
     ∃ v w' μ' G',(Builtin.append_ #[t,u] ty #[.slice (some ad) len cap,xv]).run P w=.ok v w'∧bn ρ μ' a v∧μ.le μ'∧bG P ρ w0 μ' G' nx'.toNat w'∧HSub H' G'∧Kept H H' nx nx' μ μ' G G':=by
    intro L ck hck hL hle h
    simp only[takeC_eq,dropL_eq,Dn (Oz 9999),appC_eq,sTCe] at h
    split at h
    ·rename_i avI
     simp only[OR.val.injEq] at h
     obtain⟨rfl,rfl,rfl⟩:=h
     exact aA8 L ck hL (avH L ck hck hL hle) avI
    ·cases h
   split at h
   ·rename_i L hL
    cases hle:Nat.ble (off+(len+m)*i.size) (lenL L) with
    |true=>
     rw[hle] at h
     rw[lenL_eq,Nat.ble_eq] at hle
     simp only[cond_true] at h
     rw[putC_eq] at h
     split at h
     ·rename_i ajd
      rw[sTCe] at h
      simp only[OR.val.injEq] at h
      obtain⟨rfl,rfl,rfl⟩:=h
      have hg:=hH _ _ hL
      obtain⟨l',arr,elem,fz,k1,k2,k3,k4,k5,k7,k8⟩:=hM.cells hg
      rw[oH] at k1;cases k1
      have k8:=k8 (by simp)
      have hlm:len+m≤cap:=by
       have:(len+m)*i.size≤cap*i.size:=by omega
       exact Nat.le_of_mul_le_mul_right this Oc
      obtain⟨w',e1,e2,e3⟩:=agY hM hg (by simp) oH hx.hr amS (off:=off+len*i.size) ajd
      have iZ:(storeCells (ad.add (len*i.size)) us.toList).run P w=.ok () w':=by
       rcases tu with h0|h0
       ·have hm0:m=0:=by omega
        subst hm0
        have:us=#[]:=by apply Array.eq_empty_of_size_eq_zero;simpa using Y5
        subst this
        exact e1
       ·subst h0;rw[z6,Nat.add_assoc];exact e1
      refine⟨.slice (some ad) (len+m) cap,w',_,_,?_,.slice b off _ _ cap l ad (Mu.fu _ _ _) Ob hlm tu,e2,e3,hH.set b _,vA hL oH _ _⟩
      rw[pR hT ty (base:=some ad) hx.hn hlm hx.now]
      simp only[iZ,pY]
     ·cases h
    |false=>
     rw[hle] at h
     have hle:¬ (off+(len+m)*i.size≤L.length):=by rw[← Nat.ble_eq,← lenL_eq,hle];simp
     exact aoJ L .fix (by simp) hL hle h
   ·rename_i L hL
    cases hle:Nat.ble (off+(len+m)*i.size) (lenL L) with
    |true=>rw[hle] at h;cases h
    |false=>
     rw[hle] at h
     have hle:¬ (off+(len+m)*i.size≤L.length):=by rw[← Nat.ble_eq,← lenL_eq,hle];simp
     exact aoJ L .ro (by simp) hL hle h
   ·-- a row of more cells aL3 are known
    rename_i L hL
    have hg:=hH _ _ hL
    obtain⟨l',arr,elem,fz,k1,k2,k3,k4,k5,k7,k8⟩:=hM.cells hg
    rw[oH] at k1;cases k1
    have k7:=k7 (by simp)
    subst k7
    cases hm0:Nat.beq m 0 with
    |true=>
     rw[hm0] at h
     simp only[cond_true,OR.val.injEq] at h
     obtain⟨rfl,rfl,rfl⟩:=h
     have hm:=yB hm0
     subst hm
     have hus:us=#[]:=by apply Array.eq_empty_of_size_eq_zero;simpa using Y5
     subst hus
     refine⟨.slice (some ad) len cap,w,μ,G,?_,hs0,μ.le_refl,hM,hH,Kept.refl _ _ _ _⟩
     rw[pR hT ty (base:=some ad) (sLen:=len) (sCap:=cap) hx.hn (by omega) hx.now]
     simp[storeCells]
    |false=>
     rw[hm0] at h
     simp only[cond_false] at h
     have avA:m≠0:=by intro e;subst e;cases hm0
     cases hc1:(Nat.beq off 0&&Nat.beq (len*i.size) (lenL L)) with
     |false=>rw[hc1] at h;cases h
     |true=>
      rw[hc1] at h
      simp only[cond_true,appC_eq,sTCe,OR.val.injEq] at h
      obtain⟨rfl,rfl,rfl⟩:=h
      simp only[Ad] at hc1
      have aA9:=yB hc1.1
      have hLl:=yB hc1.2
      rw[lenL_eq] at hLl
      subst aA9
      have hM1:bG P ρ w0 μ (QK G b none) nx.toNat w:=hM.sub (fun b' B' e'=>by
       by_cases hb:b'=b
       ·subst hb;rw[iL] at e';cases e'
       ·rw[cg _ _ hb] at e';exact e')
      have ne:∀ b',aa b' H=none→b'≠b:=fun b' h0 e0=>by rw[e0,hL] at h0;cases h0
      have adS:∀ (μ':Mu) x y,(∀ b':Key,b'.toNat<nx.toNat→μ' b'=μ b')→Kept H (aK nx y (aK b none H)) nx nx.succ μ μ' G (QK (QK G b none) nx x):=by
       intro μ' x y oH
       exact⟨fun b' kO aM=>by rw[cg _ _ (ne_of_lt aM),cg _ _ (ne b' kO)],oH,
        fun b' kO aM=>by rw[bU _ _ _ _ (ne_of_lt aM),bU _ _ _ _ (ne b' kO)];exact kO,by omega⟩
      have aoL:aB ρ μ L ((arr.toList.drop l.base).take (len*i.size)):=by
       have:=Ei k3 (off:=0) (n:=len*i.size) (by omega) (by omega)
       rw[List.drop_zero,XO (by omega),Nat.add_zero] at this
       exact this
      have adT:aB ρ μ (L++new) ((arr.toList.drop l.base).take (len*i.size)++us.toList):=aoL.append hx.hr
      have hvl:=aoL.length
      by_cases hlm:len+m≤cap
      ·-- in place, behind Ee end
       have tu:ad=⟨l.c,l.base+0,none⟩:=tu.resolve_left (by omega)
       rw[Nat.add_zero] at tu
       subst tu
       have hmul:(len+m)*i.size≤cap*i.size:=Nat.mul_le_mul_right _ hlm
       have arx:(len+m)*i.size=len*i.size+m*i.size:=Nat.add_mul _ _ _
       obtain⟨w',e1,e2,e3,e4⟩:=xu P l.c (l.base+len*i.size) elem us.toList 0 w arr k2 (by simp[Y5];omega) amS
       have mO:w0.heap.size≤l.c:=(hM.own b _ _ hg oH).resolve_left (by simp[ab.ro])
       have avJ:∀ j,μ.fz l.c j=none:=hM.lo0 hg oH rfl
       have avF:(cap-(len+m))*i.size=cap*i.size-(len+m)*i.size:=Nat.mul_sub_right_distrib _ _ _
       obtain⟨g1,g2,g3⟩:=hM1.mark (w':=w') nx l.c (l.base+(len+m)*i.size) ((cap-(len+m))*i.size) hM.DV e2 e4 (by rw[AL];omega)
        (fun b' B' l' gg mm=>by
         by_cases HX:b'=b
         ·subst HX;rw[iL] at gg;cases gg
         ·rw[cg _ _ HX] at gg
          exact hM.sep b' b B' _ l' _ gg hg mm oH HX)
        (fun j v hj=>by rw[avJ j] at hj;cases hj) mO (n':=nx.succ.toNat) (by omega) (by omega)
       refine⟨.slice (some ⟨l.c,l.base,none⟩) (len+m) cap,w',_,_,?_,?_,g1,g2,(hH.set b none).set nx _,adS _ _ _ (fun b' aM=>Mu.tr _ _ _ _ _ (ne_of_lt aM))⟩
       ·rw[pR hT ty (base:=some ⟨l.c,l.base,none⟩) hx.hn hlm hx.now]
        simp only[z6,e1,pY]
       ·refine .sl _ _ _ _ cap l.c l.base _ ((arr.toList.drop l.base).take (len*i.size)++us.toList) (adT.mono g1) ?_ hlm (.inr rfl) ?_ ?_
        ·rw[Lc,← hLl,hx.hl,arx]
        ·intro j v hj
         have RX:j<len*i.size+us.size:=by
          rcases Ts j (len*i.size+us.size) with h'|h'
          ·exact h'
          ·rw[zqo (by simp;omega)] at hj;cases hj
         refine g3 _ _ (by omega) ?_
         rw[tv _ _ _ _ (by simp[Y5];omega)]
         by_cases hj1:j<len*i.size
         ·rw[if_neg (by omega)]
          rw[List.getElem?_append_left (by omega),List.getElem?_take_of_lt hj1,List.getElem?_drop] at hj
          simpa using hj
         ·rw[if_pos (by simp;omega)]
          rw[List.getElem?_append_right (by omega)] at hj
          rw[← hj];congr 1;omega
        ·exact Mu.pS _ _ _ _ _ _
      ·-- a new row
       have QL:∀ d,(Builtin.firstCells i.size len (.slice (some ad) len cap)).run P {w with drawn:=d}=.ok ((arr.toList.drop l.base).take (len*i.size)).toArray {w with drawn:=d}:=by
        intro d
        simp only[Builtin.firstCells]
        by_cases h0:len=0
        ·subst h0;simp[loadCells,loadCellsFrom]
        ·have tu:ad=⟨l.c,l.base+0,none⟩:=tu.resolve_left (by omega)
         rw[Nat.add_zero] at tu
         subst tu
         refine pH P {w with drawn:=d} l.c l.base arr elem (0,0) k2 (len*i.size) ?_
         omega
       obtain⟨aqD,adU,fe⟩:=run_append_grow (P:=P) (w:=w) hT ty (base:=some ad) hx.hn (by omega) hsm hx.hc QL
       have hr2:aB ρ μ (L++new) (((arr.toList.drop l.base).take (len*i.size)).toArray++us).toList:=by simpa using adT
       have akm:(((arr.toList.drop l.base).take (len*i.size)).toArray++us).size=(len+m)*i.size:=by
        rw[Array.size_append,Y5,Nat.add_mul];simp at hvl ⊢;omega
       obtain⟨μ',g1,g2,g3,g4⟩:=adR hM1 hT hr2 akm adU
       refine⟨_,_,_,_,fe,g3,g1,g2,(hH.set b none).set nx _,adS _ _ _ (fun b' aM=>(g4 none none H G).m b' aM)⟩
   ·cases h
 ·cases h
end
end Go.Sx
/-
 SX: maps whose keys have several cells, entries that are deleted, ranges over maps, a string's bytes. No condition.
-/
namespace Go.Sx
open Go.RowKit
section
variable{P:Program}{ρ:Nat→Int}{w0:W0}{w:World}{μ:Mu}{G:Key→Option ab}{nx:Key}{orc:pF}{nt:Nat}{tm:T AV}{H:T ab}{ev:Operand→Value}
def HV(em:Bool)(d:Nat)(xs:Array Value):List Field→Sem Unit
 | []=>pure ()
 | f :: fs => if f.name ≠ "_" then do
   let a ← part f.type xs f.offset
   Instr.checkKey em d f.type a
   HV em d xs fs
  else HV em d xs fs
theorem Dh(em:Bool)(d:Nat){t:TypeId}{fs:Array Field}(hu:P.underlying t=some (.struct fs))(xs:Array Value) :
  (Instr.checkKey em (d+1) t (.agg xs)).run P w=(HV em d xs fs.toList).run P w:=by
 simp only[Instr.checkKey,uu,ag hu,pY]
 rw[← Array.forIn_toList]
 generalize fs.toList=l
 clear hu
 induction l generalizing w with
 |nil=>simp[HV]
 |cons f l ih=>
  simp only[List.forIn_cons,HV,uu,Sem.run_ite]
  split
  ·generalize (part f.type xs f.offset).run P w=r1
   cases r1 with
   |ok a w1=>
    simp only[pY]
    generalize (Instr.checkKey em d f.type a).run P w1=r2
    cases r2 with
    |ok b w2=>simp only[pY,AP];exact ih
    |halt x w2=>simp[Result.andThen]
   |halt x w1=>simp[Result.andThen]
  ·simp only[AP,pY]
   exact ih
def Rw(em:Bool)(d:Nat)(e:TypeId)(c:Nat)(xs:Array Value):List Nat→Sem Unit
 | []=>pure ()
 |i ::is=>do
  let a ← part e xs (i*c)
  Instr.checkKey em d e a
  Rw em d e c xs is
theorem T3(em:Bool)(d:Nat){t e:TypeId}{n:Nat}{i:TypeInfo}(hu:P.underlying t=some (.array n e))(hi:P.info? e=some i)(xs:Array Value) :
  (Instr.checkKey em (d+1) t (.agg xs)).run P w=(Rw em d e i.size xs (List.range n)).run P w:=by
 simp only[Instr.checkKey,uu,ag hu,pY]
 simp only[Std.Legacy.Range.forIn_eq_forIn_range',Std.Legacy.Range.size,Nat.sub_zero,Nat.add_one_sub_one,Nat.div_one,List.range_eq_range']
 generalize List.range' 0 n=is
 induction is generalizing w with
 |nil=>simp[Rw]
 |cons j is ih=>
  simp only[List.forIn_cons,Rw,uu,bL hi,pY]
  generalize (part e xs (j*i.size)).run P w=r1
  cases r1 with
  |ok a w1=>
   simp only[pY]
   generalize (Instr.checkKey em d e a).run P w1=r2
   cases r2 with
   |ok b w2=>simp only[pY,AP];exact ih
   |halt x w2=>simp[Result.andThen]
  |halt x w1=>simp[Result.andThen]
theorem ZS{a:List AV}:∀ {l:List (Nat×Bu)},YL a l=true→∀ x∈l,∃ u,a[x.1]?=some u
 | [],_,x,hx=>by cases hx
 |(o,p) ::l,h,x,hx=>by
  simp only[YL,nth_eq] at h
  split at h
  ·rename_i u hu
   rcases xH.1 hx with rfl|hx
   ·exact⟨u,hu⟩
   ·exact ZS h x hx
  ·cases h
theorem T4(em:Bool){xs:Array Value}(d:Nat):∀ (n:Nat) (fs:List Field) (l:List (Nat×Bu)),eqFields P n fs=some l→(∀ x∈l,∃ v,xs[x.1]?=some v)→(HV em (d+1) xs fs).run P w=.ok () w
 |n,[],l,_,_=>rfl
 |0,f ::fs,l,hf,_=>by simp[eqFields] at hf
 |n+1,f ::fs,l,hf,hp=>by
  simp only[eqFields] at hf
  cases hn : (f.name == "_") with
  |true=>rw[hn] at hf;cases hf
  |false=>
   rw[hn] at hf
   simp only[cond_false] at hf
   have eM : f.name ≠ "_" := by simpa using hn
   have key:∀ (q:Bu) (l':List (Nat×Bu)) (d':TypeDesc),P.underlying f.type=some d'→(d'=.bool∨(∃ k,d'=.int k)∨d'=.string)→eqFields P n fs=some l'→l=(f.offset,q) ::l'→(HV em (d+1) xs (f ::fs)).run P w=.ok () w:=by
    intro q l' d' hd' hk SO hl
    subst hl
    obtain⟨v,hv⟩:=hp (f.offset,q) (by simp)
    have atd:YC d'=false:=by rcases hk with rfl|⟨k,rfl⟩|rfl<;>rfl
    have ahM:(part f.type xs f.offset).run P w=.ok v w:=by
     have hv:xs[f.offset]?=some v:=hv
     simp[part,yC hd',atd,hv]
    have hck:(Instr.checkKey em (d+1) f.type v).run P w=.ok () w:=by
     rcases hk with rfl|⟨k,rfl⟩|rfl<;>simp[Instr.checkKey,ag hd']
    simp only[HV,ne_eq,eM,not_false_eq_true,if_true,uu,ahM,pY,hck]
    exact T4 em d n fs l' SO fun x hx=>hp x (by simp[hx])
   split at hf
   ·rename_i h1 h2
    simp only[dO] at hf
    have Of:P.underlying f.type=some .bool:=xz h1
    exact key _ _ _ Of (.inl rfl) h2 hf.symm
   ·rename_i h1 h2
    simp only[dO] at hf
    obtain⟨k,Of⟩:=xz h1
    exact key _ _ _ Of (.inr (.inl ⟨k,rfl⟩)) h2 hf.symm
   ·rename_i h1 h2
    simp only[dO] at hf
    have Of:P.underlying f.type=some .string:=xz h1
    exact key _ _ _ Of (.inr (.inr rfl)) h2 hf.symm
   ·cases hf
theorem ZT{l:List (Nat×Bu)}{sz:Nat}:∀ (n off:Nat) (x:Nat×Bu),x∈l→∀ i,i<n→(off+i*sz+x.1,x.2)∈Oq l sz n off
 |0,_,_,_,i,hi=>absurd hi (Nat.not_lt_zero _)
 |n+1,off,x,hx,i,hi=>by
  simp only[Oq,List.mem_append]
  cases i with
  |zero=>exact .inl (Vn.2 ⟨x,hx,by simp⟩)
  |succ i=>
   right
   have:=ZT (sz:=sz) n (off+sz) x hx i (by omega)
   have e:off+sz+i*sz=off+(i+1)*sz:=by rw[Nat.add_mul,Nat.one_mul];omega
   rwa [e] at this
theorem ZU(em:Bool){e:TypeId}{i:TypeInfo}{fs:Array Field}{n:Nat}{l:List (Nat×Bu)}(hi:P.info? e=some i)(hu:P.underlying e=some (.struct fs))(hf:eqFields P n fs.toList=some l)(aM:∀ x∈l,x.1<i.size){xs:Array Value}(d:Nat) :
  ∀ (is:List Nat),(∀ j∈is,∀ x∈l,∃ v,xs[j*i.size+x.1]?=some v)→(Rw em (d+2) e i.size xs is).run P w=.ok () w
 | [],_=>rfl
 |j ::is,h=>by
  simp only[Rw,uu,WY hi hu,pY]
  rw[show d+2=d+1+1 from rfl,Dh em (d+1) hu,T4 em d n fs.toList l hf]
  ·simp only[pY]
   exact ZU em hi hu hf aM d is fun k hk=>h k (by simp[hk])
  ·intro x hx
   obtain⟨v,hv⟩:=h j (by simp) x hx
   refine⟨v,?_⟩
   have:=aM x hx
   have h2:j*i.size+x.1<xs.size:=by
    rcases Ts (j*i.size+x.1) xs.size with h'|h'
    ·exact h'
    ·rw[zqj h'] at hv;cases hv
   rw[Array.getElem?_extract_of_lt (by omega),← hv,Array.getElem?_eq_getElem h2]
theorem S0(em:Bool){t:TypeId}{l:List (Nat×Bu)}(hp:Iv P t (.parts l)){A:List AV}{xs:Array Value}(hx:aB ρ μ A xs.toList)(UE:YL A l=true)(d:Nat) :
  (Instr.checkKey em (d+3) t (.agg xs)).run P w=.ok () w:=by
 have sm:∀ x∈l,∃ v,xs[x.1]?=some v:=by
  intro x hx'
  obtain⟨u,hu⟩:=ZS UE x hx'
  obtain⟨v,hv,_⟩:=hx.get _ _ hu
  exact⟨v,by simpa using hv⟩
 rcases hp with⟨fs,n,hu,iZ,hf⟩|⟨len,e,i,fs,n,l',hu,hi,hue,iZ,hf,aM,rfl⟩
 ·rw[show d+3=d+2+1 from rfl,Dh em (d+2) hu]
  exact T4 em (d+1) n fs.toList l hf sm
 ·rw[show d+3=d+2+1 from rfl,T3 em (d+2) hu hi]
  refine ZU em hi hue hf aM d _ fun j hj x hx'=>?_
  have:=ZT (sz:=i.size) len 0 x hx' j (by simpa using hj)
  simpa using sm _ this
theorem bn.flat{a:AV}{x y:Value}(h:agU a=true)(hx:bn ρ μ a x)(hy:bn ρ μ a y):x=y:=by
 cases hx<;>first|(cases h;done)|skip
 ·cases hy;rfl
 ·rename_i k s n e
  cases hy with|int _ _ n' e'=>rw[← e,← e']
 ·rename_i n c s e e'
  cases hy with|str _ _ s' f f'=>
  subst e e'
  have:(Nat.beq s.data.toList.length s'.data.toList.length&&Nat.beq (enc s.data.toList) (enc s'.data.toList))=true:=by
   rw[f,f'];simp
  rw[Yh] at this
  have:=eq_of_beq this
  congr 1
  apply ByteArray.ext
  exact Array.ext' this
theorem aB.flat:∀ {l:List AV} {xs ys:List Value},Mo l=true→aB ρ μ l xs→aB ρ μ l ys→xs=ys
 | [],_,_,_,hx,hy=>by cases hx;cases hy;rfl
 |a ::l,_,_,h,hx,hy=>by
  simp only[Mo,Ad] at h
  cases hx with|cons _ _ v vs h1 h2=>cases hy with|cons _ _ u us k1 k2=>
  rw[bn.flat h.1 h1 k1,aB.flat h.2 h2 k2]
theorem aiU{a:AV}{x:Value}(h:agU a=true)(hx:bn ρ μ a x)(n:Nat):Instr.sameBits n x x=true:=by
 cases hx<;>first|(cases h;done)|skip
 ·cases n<;>simp[Instr.sameBits]
 ·cases n<;>simp[Instr.sameBits]
 ·cases n<;>simp[Instr.sameBits,beq_toListBytes]
theorem ZV:∀ {l:List AV} {xs:List Value},Mo l=true→aB ρ μ l xs→∀ (n:Nat),((xs.zip xs).all fun(x,y)=>Instr.sameBits n x y)=true
 | [],_,_,hx,n=>by cases hx;rfl
 |a ::l,_,h,hx,n=>by
  simp only[Mo,Ad] at h
  cases hx with|cons _ _ v vs h1 h2=>
  simp only[List.zip_cons_cons,List.all_cons,Ad]
  exact⟨aiU h.1 h1 n,ZV h.2 h2 n⟩
theorem alL{l:List AV}{xs:Array Value}(h:Mo l=true)(hx:aB ρ μ l xs.toList):Instr.sameBits 10000 (.agg xs) (.agg xs)=true:=by
 simp only[Instr.sameBits,beq_self_eq_true,Bool.true_and]
 exact ZV h hx 9999
theorem ZW{p:Bu}{k:AV}(h:Sd p k=true):∃ l A,p=.parts l∧k=.agg A∧Mo A=true∧YL A l=true:=by
 cases p<;>first|(simp[Sd] at h;done)|skip
 cases k<;>first|(simp[Sd] at h;done)|skip
 simp only[Sd,Ad] at h
 exact⟨_,_,rfl,rfl,h.1,h.2⟩
theorem L9(ho:jt ρ orc){kt:TypeId}{l:List (Nat×Bu)}(hp:Iv P kt (.parts l)){A:List AV}(Oo:Mo A=true){a:AV}{x y:Value}(hx:bn ρ μ (.agg A) x)(hy:bn ρ μ a y){b:Bool}
  (hb:aih orc (.parts l) (.agg A) a=some b):(Op.equal kt x y).run P w=.ok b w∧(b=true→x=y):=by
 have hq:nw orc (.parts l) (.agg A) a=some b∧(b=true→AV.beq (.agg A) a=true):=by
  unfold aih at hb
  split at hb
  ·rename_i h1
   cases hc:AV.beq (.agg A) a with
   |false=>rw[hc] at hb;cases hb
   |true=>rw[hc] at hb;simp only[cond_true,dO] at hb;subst hb;exact⟨h1,fun _=>rfl⟩
  ·rename_i h1
   refine⟨hb,fun e=>?_⟩
   subst e
   exact absurd hb h1
 obtain⟨h1,h2⟩:=hq
 cases a<;>first|(simp[nw] at h1;done)|skip
 rename_i B
 cases hx with|agg _ xs hx=>cases hy with|agg _ ys hy=>
 simp only[nw] at h1
 refine⟨WL ho hp hx hy h1 9997,fun e=>?_⟩
 have:=AV.eq_of_beq _ _ (h2 e)
 cases this
 have:=aB.flat Oo hx hy
 rw[Array.ext' this]
theorem ZX{b:Bool}{x:OR}{m:Nat}{a:AV}{H':T ab}{nx':Key}(h:(bif b then x else .bad m)=.val a H' nx'):b=true∧x=.val a H' nx':=by
 cases b with
 |true=>exact⟨rfl,h⟩
 |false=>cases h
theorem W3(ho:jt ρ orc){kt:TypeId}{pl:List (Nat×Bu)}(hp:Iv P kt (.parts pl)){A:List AV}(Oo:Mo A=true){u:AV}{x v:Value}(hx:bn ρ μ (.agg A) x)(hv:bn ρ μ u v) :
  ∀ {l r:List (AV×AV)} {es:List MapEntry} (i:Nat),tA ρ μ l es→Wv orc (.parts pl) (.agg A) u l=some r→
   ((Instr.findAsking kt x es i).run P w=.ok none w∧∀ b,tA ρ μ r (es ++ [⟨x,v,b⟩]))∨
   (∃ j e,(Instr.findAsking kt x es i).run P w=.ok (some (i+j,e.val)) w∧es[j]?=some e∧e.key=x∧tA ρ μ r (es.set j {e with key:=x,val:=v}))
 | [],r,[],i,V9,h=>by
  simp only[Wv,dO] at h;subst h
  exact .inl ⟨rfl,fun b=>⟨hx,hv,trivial⟩⟩
 | [],_,_ ::_,i,V9,h=>V9.elim
 |(_,_) ::_,_,[],i,V9,h=>V9.elim
 |(a,c) ::l,r,e ::es,i,V9,h=>by
  obtain⟨h1,h2,h3⟩:=V9
  simp only[Wv] at h
  split at h
  ·rename_i hk
   cases h
   obtain⟨q1,q2⟩:=L9 (w:=w) ho hp Oo hx h1 hk
   exact .inr ⟨0,e,by simp[Instr.findAsking,q1],by simp,(q2 rfl).symm,⟨hx,hv,h3⟩⟩
  ·rename_i hk
   obtain⟨q1,q2⟩:=L9 (w:=w) ho hp Oo hx h1 hk
   split at h
   ·rename_i r' hr'
    cases h
    rcases W3 ho hp Oo hx hv (i+1) h3 hr' with⟨f,g⟩|⟨j,e',f,g1,g2,g3⟩
    ·exact .inl ⟨by simp[Instr.findAsking,q1,f],fun b=>⟨h1,h2,g b⟩⟩
    ·refine .inr ⟨j+1,e',?_,by simpa using g1,g2,?_⟩
     ·simp[Instr.findAsking,q1,f];omega
     ·simp only[List.set_cons_succ];exact⟨h1,h2,g3⟩
   ·cases h
  ·cases h
theorem W4(ho:jt ρ orc){kt:TypeId}{pl:List (Nat×Bu)}(hp:Iv P kt (.parts pl)){A:List AV}(Oo:Mo A=true){x:Value}(hx:bn ρ μ (.agg A) x) :
  ∀ {l r:List (Nat×AV×AV)} {es:List MapEntry} (i:Nat),mb ρ μ l es→adF orc (.parts pl) (.agg A) l=some r→
   ((Instr.findAsking kt x es i).run P w=.ok none w∧mb ρ μ r es)∨
   (∃ j e,(Instr.findAsking kt x es i).run P w=.ok (some (i+j,e)) w∧j<es.length∧mb ρ μ r (es.eraseIdx j))
 | [],r,[],i,V9,h=>by
  simp only[adF,dO] at h;subst h
  exact .inl ⟨rfl,trivial⟩
 | [],_,_ ::_,i,V9,h=>V9.elim
 |(_,_,_) ::_,_,[],i,V9,h=>V9.elim
 |(s,a,c) ::l,r,e ::es,i,V9,h=>by
  obtain⟨h0,h1,h2,h3⟩:=V9
  simp only[adF] at h
  split at h
  ·rename_i hk
   cases h
   obtain⟨q1,q2⟩:=L9 (w:=w) ho hp Oo hx h1 hk
   exact .inr ⟨0,e.val,by simp[Instr.findAsking,q1],by simp,by simpa using h3⟩
  ·rename_i hk
   obtain⟨q1,q2⟩:=L9 (w:=w) ho hp Oo hx h1 hk
   split at h
   ·rename_i r' hr'
    cases h
    rcases W4 ho hp Oo hx (i+1) h3 hr' with⟨f,g⟩|⟨j,e',f,g1,g2⟩
    ·exact .inl ⟨by simp[Instr.findAsking,q1,f],⟨h0,h1,h2,g⟩⟩
    ·refine .inr ⟨j+1,e',?_,by simpa using g1,?_⟩
     ·simp[Instr.findAsking,q1,f];omega
     ·simp only[List.eraseIdx_cons_succ];exact⟨h0,h1,h2,g2⟩
   ·cases h
  ·cases h
theorem Ec{kt:TypeId}(hk:Ye P kt)(x:Value)(es:List MapEntry):(Instr.findKey kt x es).run P w=(Instr.findAsking kt x es).run P w:=by
 have key:∀ (kd:TypeDesc),P.underlying kt=some kd→(∀ a b,Instr.sameNow kd a b=none)→(Instr.findKey kt x es).run P w=(Instr.findAsking kt x es).run P w:=by
  intro kd hu hs
  simp only[Instr.findKey,uu,ag hu,pY]
  cases es with
  |nil=>rfl
  |cons e es=>simp[Instr.findNow,hs]
 rcases hk with⟨fs,hu⟩|⟨n,e,hu⟩
 ·exact key _ hu (by intro a b;cases a<;>cases b<;>rfl)
 ·exact key _ hu (by intro a b;cases a<;>cases b<;>rfl)
theorem aeB{kt:TypeId}{p:Bu}(hk:Ye P kt)(hp:XJ P 100 kt=some p):Iv P kt p:=xz hp
theorem Lr(hM:bG P ρ w0 μ G nx.toNat w)(hH:HSub H G){b:Key}{L:List (Nat×AV×AV)}{c:Nat}(h:stamped b H=some (L,c)) :
  ∃ B l es,aa b H=some B∧μ b=some l∧w.heap[l.c]?=some (.map es c)∧mb ρ μ L es.toList∧w0.heap.size≤l.c∧B.lo l=some 0:=by
 unfold stamped at h
 split at h
 ·rename_i L' hL
  simp only[dO,Prod.mk.injEq] at h
  obtain⟨rfl,rfl⟩:=h
  have hg:=hH _ _ hL
  obtain⟨l,o,h1,h2,h3⟩:=hM.Vo b _ hg
  cases h3 with|map _ _ es clock fg QW acE=>
  subst acE
  rw[lenL_eq]
  exact⟨_,l,es,hL,h1,h2,fg.stamps 0 (by simpa using QW),(hM.own b _ l hg h1).resolve_left (by simp[ab.ro]),rfl⟩
 ·rename_i L' c' hL
  simp only[dO,Prod.mk.injEq] at h
  obtain⟨rfl,rfl⟩:=h
  have hg:=hH _ _ hL
  obtain⟨l,o,h1,h2,h3⟩:=hM.Vo b _ hg
  cases h3 with|mapD _ _ es clock fg=>
  exact⟨_,l,es,hL,h1,h2,fg,(hM.own b _ l hg h1).resolve_left (by simp[ab.ro]),rfl⟩
 ·cases h
theorem aaN(hM:bG P ρ w0 μ G nx.toNat w)(hH:HSub H G)(ho:jt ρ orc){o:Oper}{p:Bu}{pm pk pv:PX}(hp:lW P nt o=some (.mapupdP p pm pk pv))(hE:Dp P ρ μ nt o.op.operands.toList tm ev)
  {a:AV} {H':T ab} {nx':Key} (h:aOp orc (.mapupdP p pm pk pv) tm H nx=.val a H' nx'):Og P ρ w0 μ G H nx w (Go.execOp ev o) a H' nx':=by
 obtain⟨dst,Eh,ty,pos,after,guard⟩:=o
 obtain⟨t,m,k,v,kt,e,e0,hu,agw,vL,hm,hk,hv⟩:=iO hp
 simp only at e0
 have hex:Go.execOp ev ⟨dst,Eh,ty,pos,after,guard⟩=(do Instr.mapUpdate t (ev m) (ev k) (ev v);pure .skip):=by
  rcases e0 with e0|e0<;>subst e0<;>rfl
 have oR:m∈Eh.operands.toList∧k∈Eh.operands.toList∧v∈Eh.operands.toList:=by
  rcases e0 with e0|e0<;>subst e0<;>simp[Op.operands]
 simp only[aOp] at h
 split at h
 ·rename_i b ka va hb hka hva
  split at h
  ·rename_i L hL
   replace h:=ZX h
   obtain⟨UE,h⟩:=h
   obtain⟨pl,A,rfl,rfl,Oo,ati⟩:=ZW UE
   split at h
   ·rename_i L' hL'
    rw[sTCe] at h
    simp only[OR.val.injEq] at h
    obtain⟨rfl,rfl,rfl⟩:=h
    have aeC:=aeB agw vL
    have hrm:=hE m oR.1 pm _ hm hb
    have hrk:=hE k oR.2.1 pk _ hk hka
    have hrv:=hE v oR.2.2 pv _ hv hva
    generalize Ws:ev m=mm at hrm
    cases hrm with|map _ l r oH hr=>
    subst hr
    generalize NM:ev k=kk at hrk
    have atj:=hrk
    cases hrk with|agg _ xs hxs=>
    have hg:=hH _ _ hL
    obtain⟨l',o',h1,h2,h3⟩:=hM.Vo b _ hg
    rw[oH] at h1;cases h1
    cases h3 with|map _ _ es clock fg QW acE=>
    have sm:(getObj l.c).run P w=.ok (.map es clock) w:=by simp[getObj,Sem.run,h2]
    have WU:∀ o2,(setObj l.c o2).run P w=.ok () {w with heap:=w.heap.setIfInBounds l.c o2}:=by
     intro o2;simp[setObj,Sem.run,h2]
    have ON:l.c<w.heap.size:=hM.Cs b l oH
    have mO:w0.heap.size≤l.c:=(hM.own b _ l hg oH).resolve_left (by simp[ab.ro])
    have Um:μ.le (μ.put b l):=Mu.HY (.inr oH)
    have hck:(Instr.checkKey false 10000 kt (.agg xs)).run P w=.ok () w:=S0 false aeC hxs ati 9997
    have fin:∀ (es':Array MapEntry) (Gm:Nat),tA ρ μ L' es'.toList→(∀ (i:Nat) (e:MapEntry),es'.toList[i]?=some e→e.born=i)→Gm=L'.length→(Instr.mapUpdate t (ev m) (ev k) (ev v)).run P w=.ok () {w with heap:=w.heap.setIfInBounds l.c (.map es' Gm)}→
      Og P ρ w0 μ G H nx w (Go.execOp ev ⟨dst,Eh,ty,pos,after,guard⟩) (.tuple []) (aK b (some (.map L')) H) nx:=by
     intro es' Gm V9 kO hc' fe
     obtain⟨g1,g2⟩:=hM.put (w':={w with heap:=w.heap.setIfInBounds l.c (.map es' Gm)}) b (.map L') l (.map es' Gm) (.inr oH)
      ⟨rfl,rfl,rfl,by simp,fun j hj _=>by show(w.heap.setIfInBounds l.c _)[j]?=_;rw[zqn (Ne.symm hj)],bS _⟩
      (by show(w.heap.setIfInBounds l.c _)[l.c]?=_;simp[ON]) (.map _ _ _ _ (V9.mono Um) kO hc') (fun b' B' l' g m' ne=>hM.sep b' b B' _ l' l g hg m' oH ne) mO (bS _) (hM.new b l oH) (hM.lo0 hg oH rfl)
     refine⟨.skip,_,_,_,?_,rfl,g1,g2,hH.set b _,vA hL oH _ _⟩
     rw[hex]
     simp[fe]
    rcases W3 (w:=w) ho aeC Oo atj hrv 0 fg hL' with⟨f,g⟩|⟨j,e1,f,g1,g2,g3⟩
    ·have hlen:=fg.length
     have Sa:=(g clock).length
     refine fin (es.push {key:=ev k,val:=ev v,born:=clock}) (clock+1) (by rw[NM];simpa using g clock) (abq QW (by rw[acE,hlen])) (by simp at Sa hlen ⊢;omega) ?_
     simp[Ws,NM,Instr.mapUpdate,ag hu,sm,hck,Ec agw,f,WU]
    ·have UM:es[j]?=some e1:=by simpa using g1
     have RX:j<es.size:=by
      rcases Ts j es.size with h'|h'
      ·exact h'
      ·rw[zqj h'] at UM;cases UM
     have hlen:=fg.length
     have Sa:=g3.length
     have hml:(es.modify j fun e=>{e with key:=ev k,val:=ev v}).toList=es.toList.set j {e1 with key:=ev k,val:=ev v}:=by
      apply List.ext_getElem?
      intro q
      rw[Array.getElem?_toList,Array.getElem?_modify]
      by_cases hq:j=q
      ·subst hq;rw[if_pos rfl,UM,List.getElem?_set_self (by simpa using RX)];rfl
      ·rw[if_neg hq,List.getElem?_set_ne hq];simp
     refine fin (es.modify j fun e=>{e with key:=ev k,val:=ev v}) clock ?_ (by rw[hml];exact aex QW g1 rfl) (by simp at Sa hlen ⊢;omega) ?_
     ·rw[hml,NM];exact g3
     ·have hs:=alL Oo hxs
      simp[Ws,NM,Instr.mapUpdate,ag hu,sm,hck,Ec agw,f,WU,Instr.keyThatStays,UM,g2,hs]
   ·cases h
  ·cases h
 ·cases h
theorem ags(hM:bG P ρ w0 μ G nx.toNat w)(hH:HSub H G)(ho:jt ρ orc){o:Oper}{p:Bu}{pm pk:PX}(hp:lW P nt o=some (.delP p pm pk))(hE:Dp P ρ μ nt o.op.operands.toList tm ev)
  {a:AV} {H':T ab} {nx':Key} (h:aOp orc (.delP p pm pk) tm H nx=.val a H' nx'):Og P ρ w0 μ G H nx w (Go.execOp ev o) a H' nx':=by
 obtain⟨dst,Eh,ty,pos,after,guard⟩:=o
 obtain⟨c,t,tl,m,k,kt,e,e0,alB,iv,hty,hu,agw,vL,hm,hk⟩:=iO hp
 obtain⟨callee,args,argTypes⟩:=c
 simp only at e0 alB iv hty
 subst e0 alB iv
 have ax1:argTypes[0]?=some t:=by rw[← Array.getElem?_toList,hty];rfl
 have hex:Go.execOp ev ⟨dst,.call ⟨.builtin .delete,#[m,k],argTypes⟩,ty,pos,after,guard⟩=(do pure (.value (← Builtin.delete_ argTypes ty (#[m,k].map ev)))):=rfl
 have aHh:m∈(Op.call ⟨.builtin .delete,#[m,k],argTypes⟩).operands.toList:=by simp[Op.operands,Call.operands]
 have aHi:k∈(Op.call ⟨.builtin .delete,#[m,k],argTypes⟩).operands.toList:=by simp[Op.operands,Call.operands]
 simp only[aOp] at h
 split at h
 ·rename_i b ka hb hka
  split at h
  ·rename_i L c0 hL
   replace h:=ZX h
   obtain⟨UE,h⟩:=h
   obtain⟨pl,A,rfl,rfl,Oo,ati⟩:=ZW UE
   split at h
   ·rename_i L' hL'
    rw[sTCe] at h
    simp only[OR.val.injEq] at h
    obtain⟨rfl,rfl,rfl⟩:=h
    have aeC:=aeB agw vL
    have hrm:=hE m aHh pm _ hm hb
    have hrk:=hE k aHi pk _ hk hka
    generalize Ws:ev m=mm at hrm
    cases hrm with|map _ l r oH hr=>
    subst hr
    generalize NM:ev k=kk at hrk
    have atj:=hrk
    cases hrk with|agg _ xs hxs=>
    obtain⟨B,l',es,hB,h1,h2,fg,mO,vj⟩:=Lr hM hH hL
    rw[oH] at h1;cases h1
    have hg:=hH _ _ hB
    have sm:(getObj l.c).run P w=.ok (.map es c0) w:=by simp[getObj,Sem.run,h2]
    have WU:∀ o2,(setObj l.c o2).run P w=.ok () {w with heap:=w.heap.setIfInBounds l.c o2}:=by
     intro o2;simp[setObj,Sem.run,h2]
    have ON:l.c<w.heap.size:=hM.Cs b l oH
    have Um:μ.le (μ.put b l):=Mu.HY (.inr oH)
    have hck:(Instr.checkKey es.isEmpty 10000 kt (.agg xs)).run P w=.ok () w:=S0 _ aeC hxs ati 9997
    have fin:∀ (es':Array MapEntry),mb ρ μ L' es'.toList→(Builtin.delete_ argTypes ty #[ev m,ev k]).run P w=.ok (.tuple #[]) {w with heap:=w.heap.setIfInBounds l.c (.map es' c0)}→
      Og P ρ w0 μ G H nx w (Go.execOp ev ⟨dst,.call ⟨.builtin .delete,#[m,k],argTypes⟩,ty,pos,after,guard⟩) (.tuple []) (aK b (some (.mapD L' c0)) H) nx:=by
     intro es' V9 fe
     obtain⟨g1,g2⟩:=hM.put (w':={w with heap:=w.heap.setIfInBounds l.c (.map es' c0)}) b (.mapD L' c0) l (.map es' c0) (.inr oH)
      ⟨rfl,rfl,rfl,by simp,fun j hj _=>by show(w.heap.setIfInBounds l.c _)[j]?=_;rw[zqn (Ne.symm hj)],bS _⟩
      (by show(w.heap.setIfInBounds l.c _)[l.c]?=_;simp[ON]) (.mapD _ _ _ _ (V9.mono Um)) (fun b' B' l' g m' ne=>hM.sep b' b B' _ l' l g hg m' oH ne) mO (bS _) (hM.new b l oH) (hM.lo0 hg oH vj)
     refine⟨.value (.tuple #[]),_,_,_,?_,.tuple _ _ .nil,g1,g2,hH.set b _,vA hB oH _ _⟩
     rw[hex]
     have e2:#[m,k].map ev=#[ev m,ev k]:=by simp
     rw[e2]
     exact dM fe
    rcases W4 (w:=w) ho aeC Oo atj 0 fg hL' with⟨f,g⟩|⟨j,e1,f,g1,g2⟩
    ·refine fin es g ?_
     simp[Ws,NM,Builtin.delete_,ax1,ag hu,sm,hck,Ec agw,f,WU]
    ·refine fin (es.eraseIdxIfInBounds j) (by simpa using g2) ?_
     simp[Ws,NM,Builtin.delete_,ax1,ag hu,sm,hck,Ec agw,f,WU]
   ·cases h
  ·cases h
 ·cases h
theorem acZ(hM:bG P ρ w0 μ G nx.toNat w)(hH:HSub H G){o:Oper}{px:PX}(hp:lW P nt o=some (.rangeM px))(hE:Dp P ρ μ nt o.op.operands.toList tm ev)
  {a:AV} {H':T ab} {nx':Key} (h:aOp orc (.rangeM px) tm H nx=.val a H' nx'):Og P ρ w0 μ G H nx w (Go.execOp ev o) a H' nx':=by
 obtain⟨dst,Eh,ty,pos,after,guard⟩:=o
 obtain⟨t,x,kt,e,e0,hu,hx⟩:=iO hp
 simp only at e0
 subst e0
 simp only[aOp] at h
 split at h
 ·rename_i m hm
  split at h
  ·rename_i L n hL
   obtain⟨rfl,rfl,rfl⟩:=ahs h
   have hs:=kTSu nx
   have hrm:=hE x (by simp[Op.operands]) px _ hx hm
   generalize Ws:ev x=mm at hrm
   cases hrm with|map _ l r oH hr=>
   subst hr
   obtain⟨B,l',es,hB,h1,h2,fg,mO,vj⟩:=Lr hM hH hL
   rw[oH] at h1;cases h1
   have hk:=hM.DV
   have eM:m≠nx:=by intro e;subst e;rw[hk] at oH;cases oH
   obtain⟨g1,g2⟩:=hM.alloc (nx':=nx.succ.toNat) nx (.iter m n []) (.mapIter (some l.c) n #[] n) 0 hk
    (.iter m n [] _ l #[] (by rw[Mu.Co _ _ eM];exact oH) rfl rfl) (by omega) (by omega)
   refine⟨.value (.pointer (some ⟨w.heap.size,0,none⟩)),w.alloc (.mapIter (some l.c) n #[] n),_,_,?_,?_,g1,g2,hH.set nx _,KM _ _ _⟩
   ·have sm:(getObj l.c).run P w=.ok (.map es n) w:=by simp[getObj,Sem.run,h2]
    have aog:∀ ob,(newObj ob).run P w=.ok w.heap.size (w.alloc ob):=fun _=>rfl
    show(do pure (Next.value (← Instr.range t (ev x))):Sem Next).run P w=_
    refine dM ?_
    simp[Ws,Instr.range,ag hu,sm]
   ·exact .ptr nx 0 ⟨w.heap.size,0,0⟩ _ (Mu.fu _ _ _) rfl
  ·cases h
 ·cases h
theorem bG.aoh(hM:bG P ρ w0 μ G nx.toNat w){w':World}(hT:Touch w w' w.heap.size){arr:Array Value}{elem:TypeId}{f:Nat×Nat}(aog:w'.heap[w.heap.size]?=some (.cells arr elem f)) :
  μ.le ⟨μ.loc,fun c i=>if c=w.heap.size then arr[i]? else μ.fz c i⟩∧bG P ρ w0 ⟨μ.loc,fun c i=>if c=w.heap.size then arr[i]? else μ.fz c i⟩ G nx.toNat w':=by
 have hold:∀ c i v,μ.fz c i=some v→c≠w.heap.size:=by
  intro c i v h e
  subst e
  rw[hM.afK] at h;cases h
 have hle:μ.le ⟨μ.loc,fun c i=>if c=w.heap.size then arr[i]? else μ.fz c i⟩:=
  ⟨fun _ _ h=>h,fun c i v h=>by show(if c=w.heap.size then arr[i]? else μ.fz c i)=some v;rw[if_neg (hold c i v h)];exact h⟩
 have tF:w0.heap.size≤w.heap.size:=hM.below.size
 refine⟨hle,?_,hM.sep,?_,hM.own,hM.Xk,hM.new,hT.below hM.below tF tF,?_,?_,?_,?_,?_,Nat.le_trans hM.dr hT.dr⟩
 ·intro b B hg
  obtain⟨l,o,h1,h2,h3⟩:=hM.Vo b B hg
  have:=hM.Cs b l h1
  exact⟨l,o,h1,by rw[hT.other l.c (by omega) this];exact h2,h3.mono hle⟩
 ·intro b l h
  exact YK (hM.Cs b l h) hT.size
 ·intro c i v h
  have h:(if c=w.heap.size then arr[i]? else μ.fz c i)=some v:=h
  by_cases hc:c=w.heap.size
  ·subst hc
   rw[if_pos rfl] at h
   exact⟨arr,elem,f,aog,h⟩
  ·rw[if_neg hc] at h
   obtain⟨Tv,aa2,f',h1,h2⟩:=hM.fzw c i v h
   have aM:c<w.heap.size:=by
    rcases Ts c w.heap.size with h'|h'
    ·exact h'
    ·rw[zqj h'] at h1;cases h1
   exact⟨Tv,aa2,f',by rw[hT.other c hc aM];exact h1,h2⟩
 ·intro b B l n hg hm vj i hi
  have:=hM.Cs b l hm
  show(if l.c=w.heap.size then arr[i]? else μ.fz l.c i)=none
  rw[if_neg (by omega)]
  exact hM.fzf b B l n hg hm vj i hi
 ·intro c i v h
  exact hle.f c i v (hM.zle c i v h)
 ·intro c i v h
  have h:(if c=w.heap.size then arr[i]? else μ.fz c i)=some v:=h
  by_cases hc:c=w.heap.size
  ·exact .inl (by omega)
  ·rw[if_neg hc] at h
   exact hM.fzo c i v h
 ·intro b L l hg hm
  rcases hM.rof b L l hg hm with h|h
  ·exact .inl h
  ·refine .inr fun Tv e ff i v ha hv=>hle.f _ _ _ (h Tv e ff i v ?_ hv)
   have:=hM.Cs b l hm
   rwa [hT.other l.c (by omega) this] at ha
theorem aeD(w:World)(e:TypeId)(s:ByteArray):Touch w (Lib.bytesWorld w e s) w.heap.size:=by
 refine⟨?_,?_,?_,?_,fun k hk hs=>Lib.bytesWorld_at_old w e s k hs,?_⟩
 ·simp[Lib.bytesWorld,World.freeze,World.alloc,World.drew,-World.alloc_eq,-World.drew_eq]
 ·simp[Lib.bytesWorld,World.freeze,World.alloc,World.drew,-World.alloc_eq,-World.drew_eq]
 ·simp[Lib.bytesWorld,World.freeze,World.alloc,World.drew,-World.alloc_eq,-World.drew_eq]
 ·rw[Lib.bytesWorld_size];omega
 ·simp[Lib.bytesWorld,World.freeze,World.alloc,World.drew,-World.alloc_eq,-World.drew_eq]
theorem Vf:∀ (n c:Nat),(bytesOf n c).length=n
 |0,_=>rfl
 |n+1,c=>by simp[bytesOf,Vf n]
theorem Vg:∀ (l:List UInt8),aB ρ μ (bytesOf l.length (enc l)) (l.map fun b=>Value.int .u8 ((b.toNat:Nat):Int))
 | []=>.nil
 |b ::l=>by
  have hb:b.toNat<256:=b.toNat_lt
  have h1:(b.toNat+256*enc l)%256=b.toNat:=by omega
  have h2:(b.toNat+256*enc l) / 256=enc l:=by omega
  simp only[Tj,bytesOf,enc,h1,h2,XW]
  exact .cons _ _ _ _ (.int _ _ _ rfl) (Vg l)
theorem agt(hM:bG P ρ w0 μ G nx.toNat w)(hH:HSub H G){o:Oper}{px:PX}(hp:lW P nt o=some (.strb px))(hE:Dp P ρ μ nt o.op.operands.toList tm ev)
  {a:AV} {H':T ab} {nx':Key} (h:aOp orc (.strb px) tm H nx=.val a H' nx'):Og P ρ w0 μ G H nx w (Go.execOp ev o) a H' nx':=by
 obtain⟨dst,Eh,ty,pos,after,guard⟩:=o
 obtain⟨src,dt,x,e,e0,hs,hd,he,hx⟩:=iO hp
 simp only at e0
 subst e0
 simp only[aOp] at h
 split at h
 ·rename_i n c hc
  simp only[OR.val.injEq] at h
  obtain⟨rfl,rfl,rfl⟩:=h
  have hr:=hE x (by simp[Op.operands]) px _ hx hc
  generalize nz:ev x=xx at hr
  cases hr with|str _ _ s e1 e2=>
  subst e1 e2
  have fe:=Lib.run_convert_string_bytes (P:=P) w src dt e s hs hd he
  have aog:=Lib.bytesWorld_at_new w e s
  obtain⟨g1,g2⟩:=hM.aoh (aeD w e s) aog
  have tF:s.size=s.data.toList.length:=Array.length_toList.symm
  refine⟨.value (.slice (some ⟨w.heap.size,0,none⟩) s.size (grownCap w s.size 0 e)),Lib.bytesWorld w e s,_,G,?_,?_,g1,g2,hH,⟨fun _ _ _=>rfl,fun _ _=>rfl,fun _ h _=>h,bS _⟩⟩
  ·show(do pure (Next.value (← convert src dt (ev x))):Sem Next).run P w=_
   rw[nz]
   exact dM fe
  ·rw[tF]
   refine .sl _ _ _ _ _ w.heap.size 0 _ (s.data.toList.map fun b=>Value.int .u8 ((b.toNat:Nat):Int)) (Vg _) (by rw[Vf,Nat.mul_one]) ?_ (.inr rfl) ?_ trivial
   ·simp only[grownCap,Question.cut];omega
   ·intro i v hv
    show(if w.heap.size=w.heap.size then(Lib.bytesCells w e s)[0+i]? else _)=some v
    rw[if_pos rfl,Nat.zero_add]
    have hi:i<s.data.toList.length:=by
     rcases Ts i s.data.toList.length with h'|h'
     ·exact h'
     ·rw[zqo (by simpa using h')] at hv;cases hv
    rw[← hv]
    unfold Lib.bytesCells
    rw[Array.getElem?_append_left (by simpa using hi)]
    simp
 ·cases h
end
end Go.Sx
/-
 SX: every operation that has a value. No condition.
-/
namespace Go.Sx
open Go.RowKit
section
variable{P:Program}{ρ:Nat→Int}{w0:W0}{w:World}{μ:Mu}{G:Key→Option ab}{nx:Key}{orc:pF}{nt:Nat}{tm:T AV}{H:T ab}{ev:Operand→Value}
theorem W1:∀ (l:List UInt8),aB ρ μ (bytesOf l.length (enc l)) (l.map fun b=>Value.int .u8 ((b.toNat:Nat):Int))
 | []=>.nil
 |b ::l=>by
  have hb:b.toNat<256:=b.toNat_lt
  have h1:(b.toNat+256*enc l)%256=b.toNat:=by omega
  have h2:(b.toNat+256*enc l) / 256=enc l:=by omega
  simp only[Tj,bytesOf,enc,h1,h2,XW]
  exact .cons _ _ _ _ (.int _ _ _ rfl) (W1 l)
theorem W2:∀ (n c:Nat),(bytesOf n c).length=n
 |0,_=>rfl
 |n+1,c=>by simp[bytesOf,W2 n]
theorem acY(hM:bG P ρ w0 μ G nx.toNat w)(hH:HSub H G){o:Oper}{sz:Nat}{ps px:PX}(hp:lW P nt o=some (.append sz ps px))(hE:Dp P ρ μ nt o.op.operands.toList tm ev)
  {a:AV} {H':T ab} {nx':Key} (h:aOp orc (.append sz ps px) tm H nx=.val a H' nx'):Og P ρ w0 μ G H nx w (Go.execOp ev o) a H' nx':=by
 obtain⟨dst,Eh,ty,pos,after,guard⟩:=o
 obtain⟨c,s,x,t,u,e,i,ie,e0,alB,iv,hty,hu,hu',LV,hi,tF,Oc,hzl,hby,hs,hx⟩:=iO hp
 obtain⟨callee,args,argTypes⟩:=c
 simp only at e0 alB iv hty
 subst e0 alB iv hty
 obtain⟨i',d,z,IU,hd,hz,hzv,aG4,YD⟩:=oY LV
 rw[hi] at IU;cases IU
 have Zg:aB ρ μ ie.zero.cells z.cells.toList:=(kY Bt z ie.zero hzv).cells
 have hzs:z.cells.size=i.size:=by rw[← aG4,← hzl,Zg.length];simp
 have hT:aiv P t u e i z:=⟨hu,hu',hi,hz,by omega,hzs,hby⟩
 have Y6:sz=i.size:=by omega
 subst Y6
 have hms:s∈(Op.call ⟨.builtin .append,#[s,x],#[t,u]⟩).operands.toList:=by simp[Op.operands,Call.operands]
 have hmx:x∈(Op.call ⟨.builtin .append,#[s,x],#[t,u]⟩).operands.toList:=by simp[Op.operands,Call.operands]
 have ate:∀ (sa:AV) (new:List AV) (m:Nat) (us:Array Value) (μ1:Mu) (G1:Key→Option ab) (H1:T ab),mg P ρ w0 w nx μ G H μ1 G1 H1→ps.at tm=some sa→YY P ρ μ1 w i.size (ev x) new m us→appendTo i.size sa new m H1 nx=.val a H' nx'→
   Og P ρ w0 μ G H nx w (Go.execOp ev ⟨dst,.call ⟨.builtin .append,#[s,x],#[t,u]⟩,ty,pos,after,guard⟩) a H' nx':=by
  intro sa new m us μ1 G1 H1 f1 hsa atf hap
  obtain⟨v,w',μ',G',r1,r2,r3,r4,r5,r6⟩:=YZ f1.M f1.hs hT ty ((hE s hms ps sa hs hsa).mono f1.le) atf hap
  refine⟨.value v,w',μ',G',?_,r2,Mu.le_trans f1.le r3,r4,r5,f1.kept.trans r6⟩
  have:Go.execOp ev ⟨dst,.call ⟨.builtin .append,#[s,x],#[t,u]⟩,ty,pos,after,guard⟩=(do pure (.value (← Builtin.append_ #[t,u] ty (#[s,x].map ev)))):=rfl
  have e2:#[s,x].map ev=#[ev s,ev x]:=by simp
  rw[this,e2]
  exact dM r1
 have fin:∀ (sa:AV) (new:List AV) (m:Nat) (us:Array Value),ps.at tm=some sa→YY P ρ μ w i.size (ev x) new m us→appendTo i.size sa new m H nx=.val a H' nx'→
   Og P ρ w0 μ G H nx w (Go.execOp ev ⟨dst,.call ⟨.builtin .append,#[s,x],#[t,u]⟩,ty,pos,after,guard⟩) a H' nx':=
  fun sa new m us hsa atf hap=>ate sa new m us μ G H (mg.refl hM hH) hsa atf hap
 simp only[aOp] at h
 split at h
 ·rename_i sa hsa hxa
  have hv:=hE x hmx px _ hx hxa
  generalize nz:ev x=xx at hv fin
  cases hv
  exact fin sa [] 0 #[] hsa ⟨rfl,fun _=>rfl,.nil,by simp⟩ h
 ·rename_i sa b off len T8 hsa hxa
  replace h:=(show Nat.beq i.size T8=true∧_ from by
   cases hb:Nat.beq i.size T8 with
   |false=>rw[hb] at h;cases h
   |true=>rw[hb] at h;exact⟨rfl,h⟩)
  obtain⟨alD,h⟩:=h
  have alD:=yB alD
  subst alD
  simp only[cond_true] at h
  split at h
  ·rename_i L ck hL
   rw[takeC_eq,dropL_eq] at h
   split at h
   ·rename_i hle
    have hv:=hE x hmx px _ hx hxa
    generalize nz:ev x=xx at hv ate
    cases hv with|slice _ _ _ _ cap l ad oH Ob hlen tu=>
    obtain⟨l',arr,elem,fz,k1,k2,k3,k4,k5,k7⟩:=hM.cells (hH _ _ hL)
    rw[oH] at k1;cases k1
    rw[Dn (Oz 9999)] at h
    have vG:aB ρ μ ((L.drop off).take (len*i.size)) ((arr.toList.drop (l.base+off)).take (len*i.size)):=by
     by_cases h0:len=0
     ·subst h0;simp;exact .nil
     ·have:0<len*i.size:=Nat.mul_pos (by omega) (by omega)
      simp at hle
      simpa using Ei k3 (by omega) (by omega)
    obtain⟨μ1,G1,f1,r1⟩:=vz (Ln 9999) _ _ μ G H hM hH vG
    refine ate sa _ len ((arr.toList.drop (l.base+off)).take (len*i.size)).toArray μ1 G1 _ f1 hsa ⟨rfl,?_,r1,?_⟩ h
    ·intro d
     simp only[Builtin.firstCells]
     by_cases h0:len=0
     ·subst h0;simp[loadCells,loadCellsFrom]
     ·have tu:ad=⟨l.c,l.base+off,none⟩:=tu.resolve_left (by omega)
      subst tu
      refine pH P {w with drawn:=d} l.c (l.base+off) arr elem fz k2 (len*i.size) ?_
      simp at hle
      have:0<len*i.size:=Nat.mul_pos (by omega) (by omega)
      omega
    ·rw[LQ,zqy];omega
   ·cases h
  ·cases h
 ·rename_i sa L len T8 fl hsa hxa
  cases hb:Nat.beq i.size T8 with
  |false=>rw[hb] at h;cases h
  |true=>
   rw[hb] at h
   simp only[cond_true] at h
   have alD:=yB hb
   subst alD
   have hv:=hE x hmx px _ hx hxa
   generalize nz:ev x=xx at hv fin
   cases hv with|sl _ _ _ _ cap c o ad vs vG hn hle tu hf hg=>
   have hvl:=vG.length
   refine fin sa L len vs.toArray hsa ⟨rfl,?_,by simpa using vG,hn⟩ h
   intro d
   simp only[Builtin.firstCells]
   by_cases h0:len=0
   ·subst h0
    have:vs=[]:=zqr (by omega)
    subst this
    simp[loadCells,loadCellsFrom]
   ·have tu:ad=⟨c,o,none⟩:=tu.resolve_left (by omega)
    subst tu
    rw[XU (hM.akl d) hf (by omega),XO (by omega)]
 ·rename_i sa n c hsa hxa
  cases hb:Nat.beq i.size 1 with
  |false=>rw[hb] at h;cases h
  |true=>
   rw[hb] at h
   simp only[cond_true] at h
   have h1:=yB hb
   have hv:=hE x hmx px _ hx hxa
   generalize nz:ev x=xx at hv fin
   cases hv with|str _ _ st iZ aoc=>
   subst iZ aoc
   refine fin sa _ _ (st.data.map fun b=>Value.int .u8 ((b.toNat:Nat):Int)) hsa ⟨?_,?_,?_,?_⟩ h
   ·simp only[Builtin.lenOf,AP,Lib.size_eq]
   ·intro d
    simp only[Builtin.firstCells,AP]
    have:(st.extract 0 st.data.toList.length)=st:=by
     apply ByteArray.ext
     apply Array.ext'
     rw[Lib.extract_data]
     simp only[List.drop_zero,Nat.sub_zero,List.take_length]
    rw[this]
   ·simpa using W1 (ρ:=ρ) (μ:=μ) st.data.toList
   ·rw[W2,h1,Nat.mul_one]
 ·cases h
theorem atg{x:Option AV}{a:AV}{H':T ab}{nx':Key}(h:okV H nx x=.val a H' nx'):x=some a∧H'=H∧nx'=nx:=by
 cases x with
 |none=>cases h
 |some v=>simp only[okV,OR.val.injEq] at h;exact⟨by rw[h.1],h.2.1.symm,h.2.2.symm⟩
theorem abm(hM:bG P ρ w0 μ G nx.toNat w)(hH:HSub H G)(ho:jt ρ orc){o:Oper}{op:T7}(hp:lW P nt o=some op)(hE:Dp P ρ μ nt o.op.operands.toList tm ev)
  {a:AV} {H':T ab} {nx':Key} (h:aOp orc op tm H nx=.val a H' nx'):Og P ρ w0 μ G H nx w (Go.execOp ev o) a H' nx':=by
 have aG6:okV H nx (lightOp orc op tm H)=.val a H' nx'→Og P ρ w0 μ G H nx w (Go.execOp ev o) a H' nx':=by
  intro h
  obtain⟨h1,rfl,rfl⟩:=atg h
  obtain⟨v,h2,h3⟩:=WQ hM hH ho hp hE h1
  exact af9 hM hH h2 h3
 have alE:(match allocOp op tm with|some (v,b)=>newB v b H nx|none=>.bad 2)=.val a H' nx'→Og P ρ w0 μ G H nx w (Go.execOp ev o) a H' nx':=by
  intro h
  split at h
  ·rename_i f B hl
   obtain⟨rfl,rfl,rfl⟩:=ahs h
   exact aga hM hH hp hE hl
  ·cases h
 cases op with
 |store n pa pv=>exact aen hM hH hp hE h
 |mapupd sk pm pk pv=>exact acO hM hH ho hp hE h
 |mapupdP p pm pk pv=>exact aaN hM hH ho hp hE h
 |delP p pm pk=>exact ags hM hH ho hp hE h
 |rangeM px=>exact acZ hM hH hp hE h
 |strb px=>exact agt hM hH hp hE h
 |nextM px=>
  exfalso
  simp only[aOp] at h
  repeat' (first|(cases h;done)|split at h)
  all_goals (rw[show ∀ (b:Bool) (x y:OR),(bif b then x else y)=if b=true then x else y from fun b x y=>by cases b<;>rfl] at h;repeat' (first|(cases h;done)|split at h))
 |append sz ps px=>exact acY hM hH hp hE h
 |new zs=>exact alE h
 |box x=>exact alE h
 |bslice sz len zs ps=>exact alE h
 |mkmap=>exact alE h
 |mkslice sz zs l c=>exact alE h
 |callF f l=>simp only[aOp] at h;split at h<;>cases h
 |callV v l=>simp only[aOp] at h;split at h<;>cases h
 |dfr v l=>simp only[aOp] at h;split at h<;>cases h
 |panic x=>simp only[aOp] at h;split at h<;>cases h
 |recover=>cases h
 |_=>exact aG6 h
end
end Go.Sx
/-
 SX: operations that enter a function, panic, defer, recover. No condition.
-/
namespace Go.Sx
open Go.RowKit
section
variable{P:Program}{ρ:Nat→Int}{w0:W0}{w:World}{μ:Mu}{G:Key→Option ab}{nx:Key}{orc:pF}{nt:Nat}{tm:T AV}{H:T ab}{ev:Operand→Value}
theorem aaw{op:T7}{r:OR}(h:aOp orc op tm H nx=r)(hl:aOp orc op tm H nx=okV H nx (lightOp orc op tm H)):(∃ a H' nx',r=.val a H' nx')∨∃ n,r=.bad n:=by
 rw[hl] at h
 subst h
 cases lightOp orc op tm H with
 |none=>exact .inr ⟨_,rfl⟩
 |some v=>exact .inl ⟨_,_,_,rfl⟩
def Lp(r:OR):Prop:=(∃ a H' nx',r=.val a H' nx')∨∃ n,r=.bad n
def arH:T7→Bool
 |.callF _ _|.callV _ _|.dfr _ _|.panic _|.recover|.nextM _=>true
 |_=>false
theorem ag4{α:Type}{vs:List α}{off:Nat}{l:List α}{bad:OR}{c:List α→OR}(hb:Lp bad)(hc:∀ l,Lp (c l)):Lp (adE vs off l bad c):=by
 rw[putC_eq];split
 ·exact hc _
 ·exact hb
theorem Zn{α:Type}{n:Nat}{l:List α}{bad:OR}{c:List α→OR}(hb:Lp bad)(hc:∀ l,Lp (c l)):Lp (GQ n l bad c):=by
 rw[takeC_eq];split
 ·exact hc _
 ·exact hb
theorem cy(n:Nat):Lp (.bad n):=.inr ⟨n,rfl⟩
theorem tE(a:AV)(H:T ab)(nx:Key):Lp (.val a H nx):=.inl ⟨_,_,_,rfl⟩
theorem VZ(f:Key→AV)(B:ab):Lp (newB f B H nx):=by simp only[newB,sTCe];exact tE _ _ _
theorem ou{b:Bool}{x y:OR}(hx:Lp x)(hy:Lp y):Lp (bif b then x else y):=by cases b<;>assumption
theorem DZ(sz:Nat)(s:AV)(new:List AV)(m:Nat):Lp (appendTo sz s new m H nx):=by
 unfold appendTo
 split
 ·refine ou (tE _ _ _) (ou ?_ (cy _))
  rw[sTCe];exact tE _ _ _
 ·refine ou (tE _ _ _) (ou ?_ (cy _))
  split
  ·exact cy _
  ·split
   ·rw[appC_eq,sTCe,sTCe];exact tE _ _ _
   ·exact cy _
 ·refine ou ?_ (cy _)
  split
  ·refine ou (ag4 (cy _) fun _=>by rw[sTCe];exact tE _ _ _) (Zn (cy _) fun _=>?_)
   rw[Dn (Oz 9999),appC_eq,sTCe];exact tE _ _ _
  ·refine ou (cy _) (Zn (cy _) fun _=>?_)
   rw[Dn (Oz 9999),appC_eq,sTCe];exact tE _ _ _
  ·refine ou (tE _ _ _) (ou ?_ (cy _))
   rw[appC_eq,sTCe,sTCe];exact tE _ _ _
  ·exact cy _
 ·exact cy _
theorem arI{op:T7}(he:arH op=false):Lp (aOp orc op tm H nx):=by
 cases op with
 |callF f' ps=>cases he
 |callV pv ps=>cases he
 |dfr v l=>cases he
 |panic x=>cases he
 |recover=>cases he
 |nextM x=>cases he
 |mapupdP p pm pk pv=>
  simp only[aOp]
  split
  ·split
   ·refine ou ?_ (cy _)
    split
    ·rw[sTCe];exact tE _ _ _
    ·exact cy _
   ·exact cy _
  ·exact cy _
 |delP p pm pk=>
  simp only[aOp]
  split
  ·split
   ·refine ou ?_ (cy _)
    split
    ·rw[sTCe];exact tE _ _ _
    ·exact cy _
   ·exact cy _
  ·exact cy _
 |rangeM x=>
  simp only[aOp]
  split
  ·split
   ·exact VZ _ _
   ·exact cy _
  ·exact cy _
 |strb x=>
  simp only[aOp]
  split
  ·exact tE _ _ _
  ·exact cy _
 |store n pa pv=>
  simp only[aOp]
  split
  ·refine ou ?_ (cy _)
   split
   ·exact cy _
   ·exact ag4 (cy _) fun _=>by rw[sTCe];exact tE _ _ _
   ·exact cy _
  ·exact cy _
 |mapupd sk pm pk pv=>
  simp only[aOp]
  split
  ·split
   ·split
    ·rw[sTCe];exact tE _ _ _
    ·exact cy _
   ·exact cy _
  ·exact cy _
 |append sz ps px=>
  simp only[aOp]
  split
  ·exact DZ _ _ _ _
  ·refine ou ?_ (cy _)
   split
   ·exact Zn (cy _) fun _=>by rw[Dn (Oz 9999)];exact DZ _ _ _ _
   ·exact cy _
  ·exact ou (DZ _ _ _ _) (cy _)
  ·exact ou (DZ _ _ _ _) (cy _)
  ·exact cy _
 |new zs=>simp only[aOp];split;exact VZ _ _;exact cy _
 |box x=>simp only[aOp];split;exact VZ _ _;exact cy _
 |bslice sz len zs ps=>simp only[aOp];split;exact VZ _ _;exact cy _
 |mkmap=>simp only[aOp];split;exact VZ _ _;exact cy _
 |mkslice sz zs l c=>simp only[aOp];split;exact VZ _ _;exact cy _
 |_=>exact aaw rfl rfl
theorem UP{x:PX}{r:OR}(h:aOp orc (.nextM x) tm H nx=r):(∃ l,r=.alt l)∨∃ n,r=.bad n:=by
 simp only[aOp] at h
 split at h
 ·split at h
  ·split at h
   ·rename_i m n seen _ _ L c _
    cases hb:(Nat.beq c n&&OM n L) with
    |false=>rw[hb] at h;exact .inr ⟨_,h.symm⟩
    |true=>
     rw[hb] at h
     simp only[cond_true] at h
     split at h
     ·exact .inl ⟨_,h.symm⟩
     ·exact .inl ⟨_,h.symm⟩
   ·exact .inr ⟨_,h.symm⟩
  ·exact .inr ⟨_,h.symm⟩
 ·exact .inr ⟨_,h.symm⟩
theorem Rk{op:T7}{r:OR}(h:aOp orc op tm H nx=r)(hr:¬ Lp r):arH op=true:=by
 cases he:arH op with
 |true=>rfl
 |false=>exact absurd (h ▸ arI (orc:=orc) (tm:=tm) (H:=H) (nx:=nx) he) hr
theorem ag5{f:Nat}{first cap:List AV}{v:Value}(h:bn ρ μ (.fn f first cap) v):∃ vs ws,v=.func (.func f) vs ws∧aB ρ μ first vs.toList∧aB ρ μ cap ws.toList:=by
 cases h with|fn _ _ _ vs ws h h'=>exact⟨vs,ws,rfl,h,h'⟩
theorem vN {f : Nat} {fn : Func} (hf : P.funcs[f]? = some fn) (hb : fn.body.isSome = true) (hn : fn.name ≠ "runtime.NumGoroutine") (args : Array Value) : (callFunc f args).run P w = .ok (.enter f args) w := by
 have h1:fn.body.isNone=false:=by cases h:fn.body<;>simp_all
 have h2 : (fn.name == "runtime.NumGoroutine") = false := by simpa using hn
 simp only[callFunc,uu,run_program,pY,hf,h2,h1,Yz,if_false,AP]
theorem ae4{o:Oper}{op:T7}(hp:lW P nt o=some op)(hE:Dp P ρ μ nt o.op.operands.toList tm ev){f:Nat}{l:List AV}(h:aOp orc op tm H nx=.call f l)
  {fn : Func} (hf : P.funcs[f]? = some fn) (hb : fn.body.isSome = true) (hn : fn.name ≠ "runtime.NumGoroutine") :
  ∃ args,(Go.execOp ev o).run P w=.ok (.enter f args) w∧aB ρ μ l args.toList:=by
 have he:=Rk h (by rintro(⟨_,_,_,e⟩|⟨_,e⟩)<;>cases e)
 obtain⟨dst,Eh,ty,pos,after,guard⟩:=o
 cases op<;>first|(cases he;done)|skip
 ·rcases UP h with⟨_,e⟩|⟨_,e⟩<;>cases e
 ·rename_i f' ps
  obtain⟨c,fn',e0,hc,iv,_⟩:=iO hp
  obtain⟨callee,args,argTypes⟩:=c
  simp only at e0 hc iv
  subst e0 hc
  simp only[aOp] at h
  split at h
  ·rename_i l' SO
   simp only[OR.call.injEq] at h
   obtain⟨rfl,rfl⟩:=h
   have hv:bn ρ μ (.fn f' [] []) (ev (.func f')):=hE (.func f') (by simp[Op.operands,Call.operands]) _ _ rfl rfl
   obtain⟨vs,ws,e1,h1,h2⟩:=ag5 hv
   have hvs:vs=#[]:=by apply Array.ext';generalize vs.toList=x at h1;cases h1;rfl
   have hws:ws=#[]:=by apply Array.ext';generalize ws.toList=x at h2;cases h2;rfl
   subst hvs hws
   refine⟨args.map ev,?_,?_⟩
   ·simp[Go.execOp,resolve,e1,Deferred.ofValue,invoke,vN hf hb hn]
   ·have:=rZ (ev:=ev) iv SO (hE.sub fun y hy=>by simp[Op.operands,Call.operands] at hy ⊢;exact .inr hy)
    simpa using this
  ·cases h
 ·rename_i pv ps
  obtain⟨c,x,e0,hc,hx,iv⟩:=iO hp
  obtain⟨callee,args,argTypes⟩:=c
  simp only at e0 hc iv
  subst e0 hc
  simp only[aOp] at h
  split at h
  ·rename_i f' first cap l' hv' SO
   simp only[OR.call.injEq] at h
   obtain⟨rfl,rfl⟩:=h
   have hv:=hE x (by simp[Op.operands,Call.operands]) pv _ hx hv'
   obtain⟨vs,ws,e1,h1,h2⟩:=ag5 hv
   refine⟨vs++args.map ev++ws,?_,?_⟩
   ·simp[Go.execOp,resolve,e1,Deferred.ofValue,invoke,vN hf hb hn]
   ·have:=rZ (ev:=ev) iv SO (hE.sub fun y hy=>by simp[Op.operands,Call.operands] at hy ⊢;exact .inr hy)
    have h3:aB ρ μ l' (args.map ev).toList:=by simpa using this
    simpa using(h1.append h3).append h2
  ·cases h
  ·cases h
 ·rename_i v l';simp only[aOp] at h;split at h<;>cases h
 ·rename_i x;simp only[aOp] at h;split at h<;>cases h
 ·cases h
theorem ahZ{o:Oper}{op:T7}(hp:lW P nt o=some op)(hE:Dp P ρ μ nt o.op.operands.toList tm ev){k:Key}{l:List AV}(h:aOp orc op tm H nx=.yld k l) :
  ∃ args lc,μ k=some lc∧(Go.execOp ev o).run P w=(Instr.yield lc.c args).run P w∧aB ρ μ l args.toList:=by
 have he:=Rk h (by rintro(⟨_,_,_,e⟩|⟨_,e⟩)<;>cases e)
 obtain⟨dst,Eh,ty,pos,after,guard⟩:=o
 cases op<;>first|(cases he;done)|skip
 ·rcases UP h with⟨_,e⟩|⟨_,e⟩<;>cases e
 ·simp only[aOp] at h;split at h<;>cases h
 ·rename_i pv ps
  obtain⟨c,x,e0,hc,hx,iv⟩:=iO hp
  obtain⟨callee,args,argTypes⟩:=c
  simp only at e0 hc iv
  subst e0 hc
  simp only[aOp] at h
  split at h
  ·cases h
  ·rename_i k' l' hv' SO
   simp only[OR.yld.injEq] at h
   obtain⟨rfl,rfl⟩:=h
   have hv:=hE x (by simp[Op.operands,Call.operands]) pv _ hx hv'
   generalize nz:ev x=xx at hv
   cases hv with|yld _ lc r hm hr=>
   subst hr
   refine⟨args.map ev,lc,hm,?_,?_⟩
   ·simp[Go.execOp,resolve,nz,Deferred.ofValue,invoke]
   ·have:=rZ (ev:=ev) iv SO (hE.sub fun y hy=>by simp[Op.operands,Call.operands] at hy ⊢;exact .inr hy)
    simpa using this
  ·cases h
 ·simp only[aOp] at h;split at h<;>cases h
 ·simp only[aOp] at h;split at h<;>cases h
 ·cases h
theorem ah2{o:Oper}{op:T7}(hp:lW P nt o=some op)(hE:Dp P ρ μ nt o.op.operands.toList tm ev){a:AV}(h:aOp orc op tm H nx=.pan a) :
  ∃ v,(Go.execOp ev o).run P w=.halt (.panic v) w∧bn ρ μ a v:=by
 have he:=Rk h (by rintro(⟨_,_,_,e⟩|⟨_,e⟩)<;>cases e)
 obtain⟨dst,Eh,ty,pos,after,guard⟩:=o
 cases op<;>first|(cases he;done)|skip
 ·rcases UP h with⟨_,e⟩|⟨_,e⟩<;>cases e
 ·simp only[aOp] at h;split at h<;>cases h
 ·simp only[aOp] at h;split at h<;>cases h
 ·simp only[aOp] at h;split at h<;>cases h
 ·rename_i px
  obtain⟨x,e0,hx⟩:=iO hp
  simp only at e0
  subst e0
  simp only[aOp] at h
  split at h
  ·rename_i t u hu
   simp only[OR.pan.injEq] at h;subst h
   have hv:=hE x (by simp[Op.operands]) px _ hx hu
   refine⟨ev x,?_,hv⟩
   generalize nz:ev x=xx at hv
   cases hv
   simp[Go.execOp,nz,Instr.panic]
  ·cases h
 ·cases h
theorem ah3{o:Oper}{op:T7}(hp:lW P nt o=some op)(hE:Dp P ρ μ nt o.op.operands.toList tm ev){f:Nat}{l:List AV}(h:aOp orc op tm H nx=.dfr f l) :
  ∃ c ws vs,o.op=.defer c∧(resolve ev c o.type).run P w=.ok ⟨.fn (.func f) ws,vs⟩ w∧(Go.execOp ev o).run P w=.ok (.defer ⟨.fn (.func f) ws,vs⟩) w∧aB ρ μ l (vs++ws).toList:=by
 have he:=Rk h (by rintro(⟨_,_,_,e⟩|⟨_,e⟩)<;>cases e)
 obtain⟨dst,Eh,ty,pos,after,guard⟩:=o
 cases op<;>first|(cases he;done)|skip
 ·rcases UP h with⟨_,e⟩|⟨_,e⟩<;>cases e
 ·simp only[aOp] at h;split at h<;>cases h
 ·simp only[aOp] at h;split at h<;>cases h
 ·rename_i pv ps
  obtain⟨c,x,e0,hc,hx,iv⟩:=iO hp
  obtain⟨callee,args,argTypes⟩:=c
  simp only at e0 hc iv
  subst e0 hc
  simp only[aOp] at h
  split at h
  ·rename_i f' first cap l' hv' SO
   simp only[OR.dfr.injEq] at h
   obtain⟨rfl,rfl⟩:=h
   have hv:=hE x (by simp[Op.operands,Call.operands]) pv _ hx hv'
   obtain⟨vs,ws,e1,h1,h2⟩:=ag5 hv
   refine⟨_,ws,vs++args.map ev,rfl,?_,?_,?_⟩
   ·simp[resolve,e1,Deferred.ofValue]
   ·simp[Go.execOp,resolve,e1,Deferred.ofValue]
   ·have:=rZ (ev:=ev) iv SO (hE.sub fun y hy=>by simp[Op.operands,Call.operands] at hy ⊢;exact .inr hy)
    have h3:aB ρ μ l' (args.map ev).toList:=by simpa using this
    simpa using(h1.append h3).append h2
  ·cases h
 ·simp only[aOp] at h;split at h<;>cases h
 ·cases h
theorem aah{o:Oper}{op:T7}(hp:lW P nt o=some op)(h:aOp orc op tm H nx=.recover):(Go.execOp ev o).run P w=.ok .recover w:=by
 have he:=Rk h (by rintro(⟨_,_,_,e⟩|⟨_,e⟩)<;>cases e)
 obtain⟨dst,Eh,ty,pos,after,guard⟩:=o
 cases op<;>first|(cases he;done)|skip
 ·rcases UP h with⟨_,e⟩|⟨_,e⟩<;>cases e
 ·simp only[aOp] at h;split at h<;>cases h
 ·simp only[aOp] at h;split at h<;>cases h
 ·simp only[aOp] at h;split at h<;>cases h
 ·simp only[aOp] at h;split at h<;>cases h
 ·obtain⟨c,e0,hc,iv⟩:=iO hp
  obtain⟨callee,args,argTypes⟩:=c
  simp only at e0 hc iv
  subst e0 hc iv
  simp[Go.execOp,resolve,invoke,Go.builtin]
end
end Go.Sx
/-
 SX: the orders that a region may draw. No condition.
-/
namespace Go.Sx
open Go.RowKit
def XD(ops:Array Oper):(Nat→Bool)→List Nat→Prop
 |D,[]=>∀ i,i<ops.size→D i=true
 |D,i ::r=>i<ops.size∧D i=false∧(∀ o,ops[i]?=some o→∀ e∈o.after.toList,Region.binds .any e=true→D e.on=true)∧XD ops (fun j=>D j||j==i) r
theorem XD.congr{ops:Array Oper}:∀ {l:List Nat} {D D':Nat→Bool},(∀ i,i<ops.size→D i=D' i)→(∀ (i:Nat) (o:Oper),ops[i]?=some o→∀ e∈o.after.toList,Region.binds .any e=true→e.on<ops.size)→XD ops D l→XD ops D' l
 | [],D,D',h,_,hv=>fun i hi=>by rw[← h i hi];exact hv i hi
 |i ::r,D,D',h,he,hv=>by
  obtain⟨h1,h2,h3,h4⟩:=hv
  refine⟨h1,by rw[← h i h1];exact h2,fun o ho e hm hb=>?_,XD.congr (fun j hj=>by rw[h j hj]) he h4⟩
  rw[← h e.on (he i o ho e hm hb)];exact h3 o ho e hm hb
def VD(ops:Array Oper):Prop:=∀ (i:Nat) (o:Oper),ops[i]?=some o→∀ e∈o.after.toList,Region.binds .any e=true→e.on<i
def unl(n:Nat)(listed:Array Bool):Nat:=(List.range n).countP fun i=>!listed.getD i true
theorem ahR{n:Nat}{listed:Array Bool}(hs:listed.size=n){i:Nat}(hi:i<n)(hf:listed.getD i true=false):unl n listed=unl n (listed.setIfInBounds i true)+1:=by
 unfold unl
 have key:∀ (l:List Nat),l.Nodup→(∀ j∈l,j<n)→l.countP (fun j=>!listed.getD j true)=l.countP (fun j=>!(listed.setIfInBounds i true).getD j true)+(if i∈l then 1 else 0):=by
  intro l
  induction l with
  |nil=>intro _ _;simp
  |cons x l ih=>
   intro VA aM
   have alI:=List.nodup_cons.1 VA
   rw[List.countP_cons,List.countP_cons,ih alI.2 (fun j hj=>aM j (by simp[hj]))]
   by_cases hx:x=i
   ·subst hx
    have h1:(listed.setIfInBounds x true).getD x true=true:=by
     simp[Array.getD,hs,hi]
    simp only[hf,h1,alI.1,if_false,xH,true_or,if_true]
    simp
   ·have h1:(listed.setIfInBounds i true).getD x true=listed.getD x true:=by
     simp only[Array.getD_eq_getD_getElem?]
     rw[zqn (fun e=>hx e.symm)]
    have h2:(i∈x ::l)↔i∈l:=by simp[Ne.symm hx]
    simp only[h1,h2]
    omega
 rw[key _ List.nodup_range (fun j hj=>by simpa using hj),if_pos (by simpa using hi)]
theorem aol{n:Nat}{listed:Array Bool}(h:0<unl n listed):∃ i,i<n∧listed.getD i true=false∧∀ j,j<i→listed.getD j true=true:=by
 unfold unl at h
 rw[List.countP_pos_iff] at h
 obtain⟨a,ha,hb⟩:=h
 have ha:a<n:=by simpa using ha
 have hb:listed.getD a true=false:=by simpa using hb
 induction a using Nat.strongRecOn with
 |_ a ih=>
  by_cases V8:∀ j,j<a→listed.getD j true=true
  ·exact⟨a,ha,hb,V8⟩
  ·simp only[Classical.not_forall] at V8
   obtain⟨j,hj,hjf⟩:=V8
   exact ih j hj (by simpa using Nat.lt_trans hj ha) (by simpa using hjf) (Nat.lt_trans hj ha) (by simpa using hjf)
theorem Vl{ops:Array Oper}(hd:VD ops):∀ (fuel t:Nat) (listed:Array Bool) (acc:List Nat),listed.size=ops.size→unl ops.size listed=fuel→
  ∃ r,Region.linearise.go .any ops fuel t listed acc=acc.reverse++r∧XD ops (fun i=>listed.getD i true) r
 |0,t,listed,acc,hs,hu=>by
  refine⟨[],by simp[Region.linearise.go],fun i hi=>?_⟩
  show listed.getD i true=true
  cases h:listed.getD i true with
  |true=>rfl
  |false=>have:=ahR hs hi h;omega
 |fuel+1,t,listed,acc,hs,hu=>by
  obtain⟨i0,BC,hf0,aHH⟩:=aol (n:=ops.size) (listed:=listed) (by omega)
  simp only[Region.linearise.go]
  generalize kQ:(List.range ops.size).filter (fun i=>!listed.getD i true&&((ops[i]?).map (·.after.all fun e=>!Region.binds .any e||listed.getD e.on false)).getD false)=rs
  have oR:∀ i,i∈rs↔i<ops.size∧listed.getD i true=false∧∀ o,ops[i]?=some o→∀ e∈o.after.toList,Region.binds .any e=true→listed.getD e.on false=true:=by
   intro i
   rw[← kQ,List.mem_filter]
   constructor
   ·rintro⟨h1,h2⟩
    have hi:i<ops.size:=by simpa using h1
    simp only[Ad,Bool.not_eq_true'] at h2
    refine⟨hi,h2.1,fun o ho e he hb=>?_⟩
    have h3:=h2.2
    rw[ho] at h3
    simp only[Option.map_some,Option.getD_some,Array.all_eq_true_iff_forall_mem] at h3
    have:=h3 e (by simpa using he)
    simpa[hb] using this
   ·rintro⟨hi,h1,h2⟩
    refine⟨by simpa using hi,?_⟩
    simp only[Ad,Bool.not_eq_true']
    refine⟨h1,?_⟩
    have ho:ops[i]?=some ops[i]:=by simp[hi]
    rw[ho]
    simp only[Option.map_some,Option.getD_some,Array.all_eq_true_iff_forall_mem]
    intro e he
    cases hb:Region.binds .any e with
    |false=>rfl
    |true=>simpa using h2 _ ho e (by simpa using he) hb
  have eM:i0∈rs:=by
   rw[oR]
   refine⟨BC,hf0,fun o ho e he hb=>?_⟩
   have aM:=hd i0 o ho e he hb
   have h1:=aHH e.on aM
   have:e.on<listed.size:=by omega
   simp only[Array.getD_eq_getD_getElem?,this,getElem?_pos,Option.getD_some] at h1 ⊢
   exact h1
  have hlen:0<rs.length:=List.length_pos_of_mem eM
  have aM:t%rs.length<rs.length:=Nat.mod_lt _ hlen
  have sm:rs[t%rs.length]?=some rs[t%rs.length]:=by simp[aM]
  rw[sm]
  have UE:rs[t%rs.length]∈rs:=XV aM
  generalize rs[t%rs.length]=i at UE
  obtain⟨hi,hf,aHI⟩:=(oR i).1 UE
  have hun:=ahR hs hi hf
  obtain⟨r,hr,hv⟩:=Vl hd fuel (t / rs.length) (listed.setIfInBounds i true) (i ::acc) (by simp[hs]) (by omega)
  refine⟨i ::r,?_,hi,hf,fun o ho e he hb=>?_,?_⟩
  ·show Region.linearise.go _ _ _ _ _ _=_
   rw[hr];simp
  ·have h1:=aHI o ho e he hb
   have aM:=hd i o ho e he hb
   have:e.on<listed.size:=by omega
   simp only[Array.getD_eq_getD_getElem?,this,getElem?_pos,Option.getD_some] at h1 ⊢
   exact h1
  ·refine XD.congr ?_ (fun j o ho e he hb=>?_) hv
   ·intro j hj
    by_cases hji:j=i
    ·subst hji
     have:j<listed.size:=by omega
     simp[Array.getD,this]
    ·simp only[Array.getD_eq_getD_getElem?]
     rw[zqn (fun e=>hji e.symm)]
     simp[hji]
   ·have h1:=hd j o ho e he hb
    have:j<ops.size:=by
     rcases Ts j ops.size with h'|h'
     ·exact h'
     ·rw[zqj h'] at ho;cases ho
    omega
theorem Z5{ops:Array Oper}(hd:VD ops)(t:Nat):XD ops (fun _=>false) (Region.schedule true ops t):=by
 have hu:unl ops.size (Array.replicate ops.size false)=ops.size:=by
  unfold unl
  rw[List.countP_eq_length.2 (fun a ha=>by
   have:a<ops.size:=by simpa using ha
   simp[Array.getD,this])]
  simp
 obtain⟨r,hr,hv⟩:=Vl hd ops.size t (Array.replicate ops.size false) [] (by simp) hu
 have:Region.schedule true ops t=r:=by simp[Region.schedule,Region.linearise,hr]
 rw[this]
 refine XD.congr (fun i hi=>by simp[Array.getD,hi]) (fun j o ho e he hb=>?_) hv
 have h1:=hd j o ho e he hb
 have:j<ops.size:=by
  rcases Ts j ops.size with h'|h'
  ·exact h'
  ·rw[zqj h'] at ho;cases ho
 omega
end Go.Sx
