/- A part of the proof. No condition. -/
import Derived.Test.YtecbfpngkfdkoaaGreatP2
import Derived.Laws.BytesString
set_option linter.unusedSimpArgs false
set_option linter.unusedVariables false
set_option linter.unusedSectionVars false
namespace Go.Sx
open Go.RowKit
section
variable{P:Program}{ρ:Nat→Int}{w0:W0}{w:World}{μ:Mu}{G:Key→Option ag}{nx:Nat}{orc:hU}{nt:Nat}{tm:T AV}{H:T ag}{ev:Operand→Value}
theorem zN:∀ {l:List AV} {vs:List Value} {n c:Nat},ofBytes l=some (n,c)→an ρ μ l vs→∃ bs:List UInt8,vs=bs.map (fun b=>Value.int .u8 (b.toNat:Int))∧bs.length=n∧enc bs=c
 | [],vs,n,c,h,hr=>by
  simp only[ofBytes,cT,Prod.mk.injEq] at h
  cases hr
  exact⟨[],rfl,by simpa using h.1,by simpa[enc] using h.2⟩
 |a ::l,vs,n,c,h,hr=>by
  cases hr with|cons _ _ v vs hv hvs=>
  unfold ofBytes at h
  split at h
  ·rename_i heq;cases heq
  ·rename_i b l' heq
   cases heq
   split at h
   ·rename_i m d hm
    replace h:=aG h;obtain⟨bO,h⟩:=h
    rw[bltN_eq,decide_eq_true_eq] at bO
    simp only[cT,Prod.mk.injEq] at h
    obtain⟨bs,e1,e2,e3⟩:=zN hm hvs
    cases hv with|int _ _ k hk=>
    refine⟨UInt8.ofNat b ::bs,?_,?_,?_⟩
    ·rw[e1,← hk]
     simp only[SI.den,zqx,List.cons.injEq,Value.int.injEq,true_and,and_true]
     show(b:Int)=_
     simp[Nat.mod_eq_of_lt bO]
    ·simp[e2,← h.1]
    ·simp[enc,e3,← h.2,Nat.mod_eq_of_lt bO]
   ·cases h
  ·cases h
theorem foldl_push(bs:List UInt8):∀ (s:ByteArray),((bs.map fun b=>((b.toNat:Nat):Int)).foldl (fun r n=>r.push (UInt8.ofNat n.toNat)) s).data.toList=s.data.toList++bs:=by
 induction bs with
 |nil=>intro s;simp
 |cons b bs ih=>
  intro s
  simp only[zqx,List.foldl_cons]
  rw[ih]
  simp[ByteArray.push]
theorem anP{xs:List Operand}{p:PX}(h:L7 P nt xs=some [p]):∃ x,xs=[x]∧pX P nt x=some p:=by
 cases xs with
 |nil=>simp[L7] at h
 |cons x xs=>
  simp only[L7] at h
  split at h
  ·rename_i a r h1 h2
   simp only[cT,List.cons.injEq] at h
   obtain⟨rfl,rfl⟩:=h
   cases xs with
   |nil=>exact⟨x,rfl,h1⟩
   |cons y ys=>
    simp only[L7] at h2
    split at h2<;>cases h2
  ·cases h
theorem Tp{xs:List Operand}{p q:PX}(h:L7 P nt xs=some [p,q]):∃ x y,xs=[x,y]∧pX P nt x=some p∧pX P nt y=some q:=by
 cases xs with
 |nil=>simp[L7] at h
 |cons x xs=>
  simp only[L7] at h
  split at h
  ·rename_i a r h1 h2
   simp only[cT,List.cons.injEq] at h
   obtain⟨rfl,rfl⟩:=h
   obtain⟨y,rfl,hy⟩:=anP h2
   exact⟨x,y,rfl,h1,hy⟩
  ·cases h
theorem aBw{op:BinOp}{x y:PX}{r:AV}(h:lightOp orc (.bin op x y) tm H=some r):∃ a b,x.at tm=some a∧y.at tm=some b∧lightOp orc (.bin op (.v a) (.v b)) tm H=some r:=by
 cases hx:x.at tm with
 |none=>simp[lightOp,hx] at h
 |some a=>
  cases hy:y.at tm with
  |none=>simp[lightOp,hx,hy] at h
  |some b=>
   refine⟨a,b,rfl,rfl,?_⟩
   have e1:(PX.v a).at tm=some a:=rfl
   have e2:(PX.v b).at tm=some b:=rfl
   simp only[lightOp,hx,hy,e1,e2] at h ⊢
   exact h
theorem akM(hM:aP P ρ w0 μ G nx w)(hH:HSub H G){b:Key}{L:List (Nat×AV×AV)}{c:Nat}(h:stamped b H=some (L,c)) :
  ∃ l es,μ b=some l∧w.heap[l.c]?=some (.map es c)∧gV ρ μ L es.toList:=by
 unfold stamped at h
 split at h
 ·rename_i L' hL'
  simp only[cT,Prod.mk.injEq] at h
  obtain⟨rfl,rfl⟩:=h
  obtain⟨l,o,h1,h2,h3⟩:=hM.oR b _ (hH _ _ hL')
  cases h3 with|map _ _ es clock dM CM Tq=>
  subst Tq
  rw[lenL_eq]
  exact⟨l,es,h1,h2,dM.stamps 0 (by simpa using CM)⟩
 ·rename_i L' c' hL'
  simp only[cT,Prod.mk.injEq] at h
  obtain⟨rfl,rfl⟩:=h
  obtain⟨l,o,h1,h2,h3⟩:=hM.oR b _ (hH _ _ hL')
  cases h3 with|mapD _ _ es clock dM=>
  exact⟨l,es,h1,h2,dM⟩
 ·cases h
theorem Rq{s:Nat}{a:AV}:∀ {L:List (Nat×AV×AV)} {es:List MapEntry},gV ρ μ L es→ani s L=some a→∃ k v e,a=.tuple [k,v]∧es.find? (fun e=>e.born==s)=some e∧aD ρ μ k e.key∧aD ρ μ v e.val
 | [],_,_,h=>by cases h
 |(t,k,v) ::l,[],hp,h=>hp.elim
 |(t,k,v) ::l,e ::es,hp,h=>by
  obtain⟨h0,h1,h2,h3⟩:=hp
  simp only[ani,beqN_eq] at h
  by_cases hts:t=s
  ·subst hts
   simp only[decide_true,cond_true,cT] at h
   exact⟨k,v,e,h.symm,by simp[h0],h1,h2⟩
  ·simp only[hts,decide_false,cond_false] at h
   obtain⟨k',v',e',q1,q2,q3⟩:=Rq h3 h
   refine⟨k',v',e',q1,?_,q3⟩
   have:(e.born==s)=false:=by rw[h0];simpa using hts
   simp[List.find?_cons,this,q2]
theorem VH:∀ {l:List Nat} {s:Nat},U9 l=some s→l.getLast?=some s
 | [],_,h=>by cases h
 | [x],s,h=>by simpa[U9] using h
 |x ::y ::l,s,h=>by
  have:=VH (l:=y ::l) (s:=s) (by simpa[U9] using h)
  simpa using this
set_option maxHeartbeats 2000000 in
theorem Kf(hM:aP P ρ w0 μ G nx w)(hH:HSub H G)(ho:dq ρ orc){o:Oper}{op:F9}(hp:gP P nt o=some op)
  (hE:tM P ρ μ nt o.op.operands.toList tm ev) {a:AV} (hl:lightOp orc op tm H=some a) :
  ∃ v,(Go.execOp ev o).run P w=.ok (.value v) w∧aD ρ μ a v:=by
 obtain⟨dst,tZ,ty,pos,after,guard⟩:=o
 cases tZ with
 |move x=>
  obtain⟨px,hx,rfl⟩:=map_some hp
  exact⟨ev x,rfl,hE x (by simp[Op.operands]) px a hx hl⟩
 |assign x=>
  obtain⟨px,hx,rfl⟩:=map_some hp
  exact⟨ev x,rfl,hE x (by simp[Op.operands]) px a hx hl⟩
 |pick c x y=>
  simp only[gP] at hp
  split at hp
  ·rename_i pc pa pb h1 h2 h3
   cases hp
   simp only[lightOp] at hl
   split at hl
   ·rename_i hc
    have hcv:=hE c (by simp[Op.operands]) pc _ h1 hc
    have hv:=hE x (by simp[Op.operands]) pa _ h2 hl
    generalize K4:ev c=cc at hcv
    cases hcv
    exact⟨ev x,by simp[Go.execOp,K4,asBool],hv⟩
   ·rename_i hc
    have hcv:=hE c (by simp[Op.operands]) pc _ h1 hc
    have hv:=hE y (by simp[Op.operands]) pb _ h3 hl
    generalize K4:ev c=cc at hcv
    cases hcv
    exact⟨ev y,by simp[Go.execOp,K4,asBool],hv⟩
   ·cases hl
  ·cases hp
 |alloc t=>
  simp only[gP] at hp
  split at hp
  ·cases hp;simp[lightOp] at hl
  ·cases hp
 |box t x=>obtain⟨px,hx,rfl⟩:=map_some hp;simp[lightOp] at hl
 |build t parts=>
  have ej:∀ y∈parts.toList.map (·.2),y∈(Op.build t parts).operands.toList:=by
   intro y hy;simpa[Op.operands] using hy
  simp only[gP] at hp
  split at hp
  ·rename_i ti fs hti hu
   obtain⟨i,d,z,hi,hd,hz,Tr,uv,Mk⟩:=jr hti
   split at hp
   ·rename_i pl rK
    split at hp
    ·rename_i ps hps
     cases hp
     simp only[lightOp] at hl
     split at hl
     ·rename_i cs Im
      cases hl
      have hzr:an ρ μ ti.zero.cells z.cells.toList:=(gw rU z ti.zero Tr).cells
      obtain⟨vs',hf,hr⟩:=wx (vs:=z.cells) hps Im (hE.sub ej) hzr
      have DU:∀ (l:List Field) (r:List (Nat×Nat)),qV P l=some r→(l.mapM fun f=>(do pure (f.offset,← sizeOf f.type):Sem (Nat×Nat))).run P w=.ok r w:=by
       intro l
       induction l with
       |nil=>intro r hr;simp only[qV,cT] at hr;subst hr;rfl
       |cons f l ih=>
        intro r hr
        simp only[qV] at hr
        split at hr
        ·rename_i i' r' Ts hr'
         cases hr
         rw[List.mapM_cons]
         simp only[mA,aT Ts,jH,ra,ih r' hr']
        ·cases hr
      refine⟨.agg vs',?_,.agg _ _ hr⟩
      simp only[Go.execOp]
      refine cS ?_
      have hm:(fs.mapM fun f=>(do pure (f.offset,← sizeOf f.type):Sem (Nat×Nat))).run P w=.ok pl.toArray w:=by
       rw[Array.mapM_eq_mapM_toList,Sem.run_map,DU _ _ rK]
       rfl
      simp only[Instr.build,mA,mW hi hz,jH,ah hu]
      erw [hm]
      simp only[jH]
      have aLh:(fun x:Nat=>pl.toArray[x]?)=(fun x:Nat=>pl[x]?):=by funext x;simp
      have NT:(parts.map fun(i,x)=>(i,ev x)).toList=parts.toList.map fun(i,x)=>(i,ev x):=by simp
      rw[aLh,NT,hf]
      rfl
     ·cases hl
    ·cases hp
   ·cases hp
  ·rename_i ti n e hti hu
   obtain⟨i,d,z,hi,hd,hz,Tr,uv,Mk⟩:=jr hti
   split at hp
   ·rename_i ie K5
    split at hp
    ·rename_i ps hps
     cases hp
     simp only[lightOp] at hl
     split at hl
     ·rename_i cs Im
      cases hl
      have hzr:an ρ μ ti.zero.cells z.cells.toList:=(gw rU z ti.zero Tr).cells
      obtain⟨vs',hf,hr⟩:=wx (vs:=z.cells) hps Im (hE.sub ej) hzr
      refine⟨.agg vs',?_,.agg _ _ hr⟩
      simp only[Go.execOp]
      refine cS ?_
      simp only[Instr.build,mA,mW hi hz,jH,ah hu,aT K5]
      have NT:(parts.map fun(i,x)=>(i,ev x)).toList=parts.toList.map fun(i,x)=>(i,ev x):=by simp
      rw[NT,hf]
      rfl
     ·cases hl
    ·cases hp
   ·cases hp
  ·cases hp
 |buildSlice t len parts=>
  simp only[gP] at hp
  split at hp
  ·split at hp
   ·replace hp:=aG hp;obtain⟨_,hp⟩:=hp
    split at hp
    ·cases hp;simp[lightOp] at hl
    ·cases hp
   ·cases hp
  ·cases hp
 |insert t m k v=>
  simp only[gP] at hp
  split at hp
  ·split at hp
   ·cases hp;simp[lightOp] at hl
   ·cases hp;simp[lightOp] at hl
   ·split at hp
    ·cases hp;simp[lightOp] at hl
    ·cases hp
   ·split at hp
    ·cases hp;simp[lightOp] at hl
    ·cases hp
   ·cases hp
  ·cases hp
 |load t x=>
  simp only[gP] at hp
  split at hp
  ·rename_i ti px hti hx
   obtain⟨i,d,z,hi,hd,hz,Tr,uv,Mk⟩:=jr hti
   cases hp
   simp only[lightOp] at hl
   split at hl
   ·rename_i b off hb
    have hv:=hE x (by simp[Op.operands]) px _ hx hb
    simp only[loadB] at hl
    split at hl
    ·rename_i L k hL
     generalize iL:ev x=xx at hv
     cases hv with|ptr _ _ l ad hm lU=>
     rw[Mk,uv] at hl
     obtain⟨v,hv,hr⟩:=D5 hM (hH _ _ hL) hi hd hl hm
     refine⟨v,?_,hr⟩
     subst lU
     simp only[Go.execOp]
     refine cS ?_
     simp only[iL,Instr.loadAt,Instr.sureAddr,mA,ra,jH,hv]
    ·cases hl
   ·rename_i l hb
    have hv:=hE x (by simp[Op.operands]) px _ hx hb
    generalize iL:ev x=xx at hv
    cases hv with|cref _ c o ad vs hr lU hf=>
    subst lU
    rw[Mk,uv] at hl
    obtain⟨v,hv,hr⟩:=aj5 hM hr hf hi hd hl
    refine⟨v,?_,hr⟩
    simp only[Go.execOp]
    refine cS ?_
    simp only[iL,Instr.loadAt,Instr.sureAddr,mA,ra,jH,hv]
   ·cases hl
  ·cases hp
 |store t x v=>
  simp only[gP] at hp
  split at hp
  ·cases hp;simp[lightOp] at hl
  ·cases hp
 |ready g=>simp[gP] at hp
 |waits g=>simp[gP] at hp
 |nilCheck x=>
  obtain⟨px,hx,rfl⟩:=map_some hp
  simp only[lightOp] at hl
  split at hl
  all_goals first|(cases hl;done)|skip
  all_goals rename_i hb
  all_goals (cases hl;have hv:=hE x (by simp[Op.operands]) px _ hx hb;refine⟨ev x,?_,hv⟩;generalize iL:ev x=xx at hv;cases hv;simp[Go.execOp,iL])
 |binOp bop t x y yt=>
  simp only[gP] at hp
  split at hp
  ·rename_i pa pb h1 h2
   have aE2:some (F9.bin bop pa pb)=some op→∃ v,(Go.execOp ev ⟨dst,.binOp bop t x y yt,ty,pos,after,guard⟩).run P w=.ok (.value v) w∧aD ρ μ a v:=by
    intro hp
    cases hp
    obtain⟨va,vb,ha,hb,hl⟩:=aBw hl
    have hva:=hE x (by simp[Op.operands]) pa _ h1 ha
    have hvb:=hE y (by simp[Op.operands]) pb _ h2 hb
    obtain⟨v,hv,hr⟩:=aq1 (P:=P) (w:=w) (t:=t) (X:=x) (Y:=y) ho hva hvb hl
    exact⟨v,cS hv,hr⟩
   have heq:∀ (neg:Bool) (p:tK),bop=(if neg then .neq else .eql)→wY P t p→p≠.int→p≠.str→((∃ l,p=.parts l)→P.eqGuardType P.depth t=false)→(p=.iface→jn x=true∨jn y=true)→
     op=.eq neg p pa pb→∃ v,(Go.execOp ev ⟨dst,.binOp bop t x y yt,ty,pos,after,guard⟩).run P w=.ok (.value v) w∧aD ρ μ a v:=by
    intro neg p hb mD hi hs hg hc e
    subst e
    simp only[lightOp] at hl
    split at hl
    ·rename_i va vb ha mB
     split at hl
     ·rename_i r hr
      cases hl
      have hva:=hE x (by simp[Op.operands]) pa _ h1 ha
      have hvb:=hE y (by simp[Op.operands]) pb _ h2 mB
      exact⟨_,cS (as1 (P:=P) (w:=w) (X:=x) (Y:=y) ho hb mD hi hs hva hvb hr hg hc),.bool _⟩
     ·cases hl
    ·cases hl
   split at hp
   ·exact aE2 hp
   ·exact aE2 hp
   ·rename_i ms hu
    replace hp:=aG hp;obtain⟨hc,hp⟩:=hp
    have Hr:jn x=true∨jn y=true:=by simpa using hc
    split at hp
    ·simp only[cT] at hp;exact heq false .iface rfl ⟨_,hu⟩ (by simp) (by simp) (by simp) (fun _=>Hr) hp.symm
    ·simp only[cT] at hp;exact heq true .iface rfl ⟨_,hu⟩ (by simp) (by simp) (by simp) (fun _=>Hr) hp.symm
    ·cases hp
   ·rename_i fs hu
    cases Vg:P.eqGuardType P.depth t with
    |true=>rw[Vg] at hp;cases hp
    |false=>
     rw[Vg] at hp
     simp only[cond_false] at hp
     have P3:∀ q,QF P 100 t=some q→q≠.int∧q≠.str∧q≠.iface:=by
      intro q hq
      have hk:=nS hq
      refine⟨?_,?_,?_⟩
      ·rintro rfl;obtain⟨k,hk⟩:=hk;rw[hu] at hk;cases hk
      ·rintro rfl;have hk:P.underlying t=some .string:=hk;rw[hu] at hk;cases hk
      ·rintro rfl;obtain⟨k,hk⟩:=hk;rw[hu] at hk;cases hk
     split at hp
     ·rename_i q hq
      simp only[cT] at hp
      obtain⟨n1,n2,n3⟩:=P3 q hq
      exact heq false q rfl (nS hq) n1 n2 (fun _=>Vg) (fun e=>absurd e n3) hp.symm
     ·rename_i q hq
      simp only[cT] at hp
      obtain⟨n1,n2,n3⟩:=P3 q hq
      exact heq true q rfl (nS hq) n1 n2 (fun _=>Vg) (fun e=>absurd e n3) hp.symm
     ·cases hp
   ·rename_i aR4 aR5 hu
    cases Vg:P.eqGuardType P.depth t with
    |true=>rw[Vg] at hp;cases hp
    |false=>
     rw[Vg] at hp
     simp only[cond_false] at hp
     have P3:∀ q,QF P 100 t=some q→q≠.int∧q≠.str∧q≠.iface:=by
      intro q hq
      have hk:=nS hq
      refine⟨?_,?_,?_⟩
      ·rintro rfl;obtain⟨k,hk⟩:=hk;rw[hu] at hk;cases hk
      ·rintro rfl;have hk:P.underlying t=some .string:=hk;rw[hu] at hk;cases hk
      ·rintro rfl;obtain⟨k,hk⟩:=hk;rw[hu] at hk;cases hk
     split at hp
     ·rename_i q hq
      simp only[cT] at hp
      obtain⟨n1,n2,n3⟩:=P3 q hq
      exact heq false q rfl (nS hq) n1 n2 (fun _=>Vg) (fun e=>absurd e n3) hp.symm
     ·rename_i q hq
      simp only[cT] at hp
      obtain⟨n1,n2,n3⟩:=P3 q hq
      exact heq true q rfl (nS hq) n1 n2 (fun _=>Vg) (fun e=>absurd e n3) hp.symm
     ·cases hp
   ·rename_i d hn1 PR hn3 hn4 hn5 hu
    have P3:∀ q,QF P 100 t=some q→q≠.iface:=by
     intro q hq
     have hk:=nS hq
     rintro rfl;obtain⟨k,hk⟩:=hk;rw[hu] at hk;cases hk;exact absurd rfl (hn3 _)
    split at hp
    ·rename_i q hq
     cases HN:RU q with
     |true=>rw[HN] at hp;cases hp
     |false=>
      rw[HN] at hp
      simp only[cond_false,cT] at hp
      exact heq false q rfl (nS hq) (by rintro rfl;cases HN) (by rintro rfl;cases HN) (by rintro⟨l,rfl⟩;cases HN) (fun e=>absurd e (P3 q hq)) hp.symm
    ·rename_i q hq
     cases HN:RU q with
     |true=>rw[HN] at hp;cases hp
     |false=>
      rw[HN] at hp
      simp only[cond_false,cT] at hp
      exact heq true q rfl (nS hq) (by rintro rfl;cases HN) (by rintro rfl;cases HN) (by rintro⟨l,rfl⟩;cases HN) (fun e=>absurd e (P3 q hq)) hp.symm
    ·cases hp
   ·cases hp
  ·cases hp
 |unOp uop t x=>
  obtain⟨px,hx,rfl⟩:=map_some hp
  simp only[lightOp] at hl
  split at hl
  ·rename_i b hb
   cases hl
   have hv:=hE x (by simp[Op.operands]) px _ hx hb
   generalize iL:ev x=xx at hv
   cases hv
   exact⟨_,by simp[Go.execOp,iL,Op.unary],.bool _⟩
  ·rename_i k s hb
   split at hl
   ·rename_i r hr
    cases hl
    have hv:=hE x (by simp[Op.operands]) px _ hx hb
    generalize iL:ev x=xx at hv
    cases hv with|int _ _ n hn=>
    have:=Ki (ρ:=ρ) (P:=P) (w:=w) 0 hr
    rw[hn] at this
    refine⟨_,?_,.int _ _ _ rfl⟩
    simp only[Go.execOp]
    refine cS ?_
    simp only[iL,Op.unary]
    simpa[Go.binOp,SI.den] using this
   ·cases hl
  ·cases hl
 |convert src dst x=>
  simp only[gP] at hp
  split at hp
  ·rename_i px k0 k hx hs hd
   cases hp
   simp only[lightOp] at hl
   split at hl
   ·rename_i k1 n hb
    cases hl
    have hv:=hE x (by simp[Op.operands]) px _ hx hb
    generalize iL:ev x=xx at hv
    cases hv with|int _ _ n' hn=>
    refine⟨.int k (k.wrap n'),?_,.int _ _ _ (by rw[← hn];simp only[SI.den,jv])⟩
    simp only[Go.execOp]
    refine cS ?_
    simp[iL,Go.convert,ah hs,ah hd,Conv.intToInt]
   ·cases hl
  ·rename_i px hx hs hd
   cases hp
   simp only[lightOp] at hl
   split at hl
   ·rename_i n c hb
    cases hl
    have hv:=hE x (by simp[Op.operands]) px _ hx hb
    refine⟨ev x,?_,hv⟩
    generalize iL:ev x=xx at hv
    cases hv
    simp only[Go.execOp]
    refine cS ?_
    simp[iL,Go.convert,ah hs,ah hd]
   ·cases hl
  ·rename_i px e hx hs hd
   split at hp
   ·rename_i hu
    cases hp
    simp only[lightOp] at hl
    split at hl
    ·rename_i hb
     cases hl
     have hv:=hE x (by simp[Op.operands]) px _ hx hb
     generalize iL:ev x=xx at hv
     cases hv
     refine⟨.string .empty,?_,.str _ _ _ rfl rfl⟩
     simp only[Go.execOp]
     refine cS ?_
     simp[iL,Go.convert,ah hs,ah hd,ah hu,Conv.bytesToString]
    ·rename_i b off len sz hb
     replace hl:=aG hl;obtain⟨akO,hl⟩:=hl
     have akO:=mU akO
     subst akO
     split at hl
     ·rename_i L k hL
      rw[takeC_eq,dropL_eq] at hl
      split at hl
      ·rename_i hlen
       split at hl
       ·rename_i n c hof
        cases hl
        have hv:=hE x (by simp[Op.operands]) px _ hx hb
        generalize iL:ev x=xx at hv
        cases hv with|slice _ _ _ _ cap l ad hm BD hle lU=>
        obtain⟨l',arr,elem,fz,h1,h2,hc,hs',DF,_⟩:=hM.cells (hH _ _ hL)
        rw[hm] at h1;cases h1
        have anq:len=0∨off+len≤L.length:=by
         simp at hlen;omega
        have Cq:(loadCells ad len).run P w=.ok ((arr.toList.drop (l.base+off)).take len).toArray w:=by
         by_cases h0:len=0
         ·subst h0;simp[loadCells,loadCellsFrom]
         ·have lU:ad=⟨l.c,l.base+off,none⟩:=lU.resolve_left (by omega)
          subst lU
          exact jI P w l.c (l.base+off) arr elem fz h2 len (by omega)
        have tP:an ρ μ ((L.drop off).take len) ((arr.toList.drop (l.base+off)).take len):=by
         by_cases h0:len=0
         ·subst h0;simp;exact .nil
         ·exact ua hc (by omega) (by omega)
        obtain⟨bs,e1,e2,e3⟩:=zN hof tP
        have KY:((arr.toList.drop (l.base+off)).take len)=(bs.map fun b=>((b.toNat:Nat):Int)).map (Value.int .u8):=by rw[e1];simp
        rw[KY] at Cq
        have dP:=run_bytesToString w ad len cap (bs.map fun b=>((b.toNat:Nat):Int)) Cq
        refine⟨_,?_,.str _ _ (((bs.map fun b=>((b.toNat:Nat):Int)).foldl (fun r n=>r.push (UInt8.ofNat n.toNat)) ByteArray.empty)) ?_ ?_⟩
        ·simp only[Go.execOp]
         refine cS ?_
         rw[iL,run_convert_bytes_string w src dst e (some ad) len cap hs hu hd]
         exact dP
        ·rw[foldl_push];simpa using e2
        ·rw[foldl_push];simpa using e3
       ·cases hl
      ·cases hl
     ·cases hl
    ·rename_i L len sz fl hb
     replace hl:=aG hl;obtain⟨akO,hl⟩:=hl
     have akO:=mU akO
     subst akO
     split at hl
     ·rename_i n c hof
      cases hl
      have hv:=hE x (by simp[Op.operands]) px _ hx hb
      generalize iL:ev x=xx at hv
      cases hv with|sl _ _ _ _ cap c' o ad vs tP hn hle lU hf hg=>
      have hvl:=tP.length
      have Cq:(loadCells ad len).run P w=.ok vs.toArray w:=by
       by_cases h0:len=0
       ·subst h0
        have:vs=[]:=zqr (by omega)
        subst this
        simp[loadCells,loadCellsFrom]
       ·have lU:ad=⟨c',o,none⟩:=lU.resolve_left (by omega)
        subst lU
        rw[LN hM hf (by omega),Pu (by omega)]
      obtain⟨bs,e1,e2,e3⟩:=zN hof tP
      have KY:vs=(bs.map fun b=>((b.toNat:Nat):Int)).map (Value.int .u8):=by rw[e1];simp
      rw[KY] at Cq
      have dP:=run_bytesToString w ad len cap (bs.map fun b=>((b.toNat:Nat):Int)) Cq
      refine⟨_,?_,.str _ _ (((bs.map fun b=>((b.toNat:Nat):Int)).foldl (fun r n=>r.push (UInt8.ofNat n.toNat)) ByteArray.empty)) ?_ ?_⟩
      ·simp only[Go.execOp]
       refine cS ?_
       rw[iL,run_convert_bytes_string w src dst e (some ad) len cap hs hu hd]
       exact dP
      ·rw[foldl_push];simpa using e2
      ·rw[foldl_push];simpa using e3
     ·cases hl
    ·cases hl
   ·cases hp
  ·split at hp
   ·cases hp;simp[lightOp] at hl
   ·cases hp
  ·cases hp
 |sliceToArrayPointer t x=>simp[gP] at hp
 |makeInterface t x=>
  simp only[gP] at hp
  split at hp
  ·cases hp
  ·cases hp
  ·rename_i d hn hu
   obtain⟨px,hx,rfl⟩:=map_some hp
   simp only[lightOp] at hl
   split at hl
   ·rename_i v hb
    cases hl
    have hv:=hE x (by simp[Op.operands]) px _ hx hb
    refine⟨.iface t (ev x),?_,.iface _ _ _ hv⟩
    simp only[Go.execOp]
    refine cS ?_
    simp only[Instr.makeInterface,mA,ah hu,jH]
    cases d<;>first|rfl|exact absurd rfl (hn _)
   ·cases hl
 |makeFunc f first cap=>
  cases f with
  |func f=>
   simp only[gP] at hp
   split at hp
   ·rename_i pf pc h1 h2
    cases hp
    simp only[lightOp] at hl
    split at hl
    ·rename_i la lc ha hc
     cases hl
     have e1:=kv (ev:=ev) h1 ha (hE.sub fun y hy=>by simp[Op.operands] at hy ⊢;exact .inl hy)
     have e2:=kv (ev:=ev) h2 hc (hE.sub fun y hy=>by simp[Op.operands] at hy ⊢;exact .inr hy)
     refine⟨.func (.func f) (first.map ev) (cap.map ev),?_,.fn _ _ _ _ _ (by simpa using e1) (by simpa using e2)⟩
     simp[Go.execOp,Instr.makeFunc]
    ·cases hl
   ·cases hp
  |method n=>simp[gP] at hp
  |methodOf t n=>simp[gP] at hp
  |via t p f b=>simp[gP] at hp
  |yield l=>simp[gP] at hp
 |makeMap t r=>cases r<;>simp[gP] at hp;subst hp;simp[lightOp] at hl
 |makeChan t s=>simp[gP] at hp
 |makeSlice t l c=>
  simp only[gP] at hp
  split at hp
  ·split at hp
   ·split at hp
    ·replace hp:=aG hp;obtain⟨_,hp⟩:=hp
     cases hp;simp[lightOp] at hl
    ·cases hp
   ·cases hp
  ·cases hp
 |slice t x lo hi mx=>
  cases mx with
  |some m=>simp[gP] at hp
  |none=>
   have axr:∀ x',lo=some x'→x'∈(Op.slice t x lo hi none).operands.toList:=by intro x' e;subst e;simp[Op.operands]
   have axs:∀ x',hi=some x'→x'∈(Op.slice t x lo hi none).operands.toList:=by intro x' e;subst e;simp[Op.operands]
   simp only[gP] at hp
   split at hp
   ·rename_i px plo phi hx ta hhi
    split at hp
    ·rename_i hu
     cases hp
     simp only[lightOp] at hl
     split at hl
     ·rename_i n c hb
      split at hl
      ·rename_i l r Rb hr1
       replace hl:=aG hl;obtain⟨DV,hl⟩:=hl
       cases hl
       simp only[jj,Nat.ble_eq] at DV
       have hv:=hE x (by simp[Op.operands]) px _ hx hb
       generalize iL:ev x=xx at hv
       cases hv with|str _ _ s hs hs'=>
       have uv:s.size=n:=by rw[Lib.size_eq];exact hs
       have b1:=iN ta Rb hE axr
       have b2:=iN hhi hr1 hE axs
       have hb:=mE (P:=P) (w:=w) (isSlice:=false) (len:=s.size) (cap:=s.size) (l:=l) (r:=r) (lo:=lo.map ev) (hi:=hi.map ev)
        (by rcases b1 with⟨e,e'⟩|⟨x',k,e,e'⟩<;>subst e<;>simp[e']) (by rcases b2 with⟨e,e'⟩|⟨x',k,e,e'⟩<;>subst e<;>simp[e',uv]) DV.1 (by omega) (fh _)
       refine⟨.string (s.extract l r),?_,.str _ _ _ ?_ ?_⟩
       ·simp only[Go.execOp]
        refine cS ?_
        simp only[iL,Instr.sliceAt,mA,ah hu,jH,Instr.slice,Option.map_none,Option.isSome_none,Ps,if_false,hb,ra]
       ·rw[Lib.extract_data];simp;omega
       ·rw[Lib.extract_data,atG,VJ,hs']
        show _=Nat.mod (Nat.shiftRight c (8*l)) (Nat.pow 2 (8*(r-l)))
        have e1:Nat.shiftRight c (8*l)=c / 2^(8*l):=Nat.shiftRight_eq_div_pow _ _
        have e2:Nat.pow 2 (8*(r-l))=256^(r-l):=Tt (r-l)
        rw[e1,e2,Tt]
        rfl
      ·cases hl
     ·cases hl
    ·rename_i e hu
     split at hp
     ·rename_i ie K5
      replace hp:=aG hp;obtain⟨xR,hp⟩:=hp
      cases hp
      simp only[lightOp] at hl
      split at hl
      ·rename_i b off len Gc hb
       split at hl
       ·rename_i l r Rb hr1
        replace hl:=aG hl;obtain⟨DV,hl⟩:=hl
        cases hl
        simp only[jj,Nat.ble_eq] at DV
        have NU:=mU DV.2
        subst NU
        have hv:=hE x (by simp[Op.operands]) px _ hx hb
        generalize iL:ev x=xx at hv
        cases hv with|slice _ _ _ _ cap lc ad hm BD hlen lU=>
        have b1:=iN ta Rb hE axr
        have b2:=iN hhi hr1 hE axs
        have hb:=mE (P:=P) (w:=w) (isSlice:=true) (len:=len) (cap:=cap) (l:=l) (r:=r) (lo:=lo.map ev) (hi:=hi.map ev)
         (by rcases b1 with⟨e,e'⟩|⟨x',k,e,e'⟩<;>subst e<;>simp[e']) (by rcases b2 with⟨e,e'⟩|⟨x',k,e,e'⟩<;>subst e<;>simp[e']) DV.1.1 DV.1.2 hlen
        have Sm:l≤cap:=by omega
        refine⟨.slice (if cap=l then some ad else some (ad.add (l*ie.size))) (r-l) (cap-l),?_,?_⟩
        ·simp only[Go.execOp]
         refine cS ?_
         simp only[iL,Instr.sliceAt,mA,ah hu,jH,Instr.slice,Option.map_none,hb,aT K5,ra,Option.map_some]
        ·have ar6:off+l*ie.size+(cap-l)*ie.size=lc.ext:=by
          rw[← BD,Nat.add_assoc,← Nat.add_mul]
          congr 2
          omega
         by_cases he:cap=l
         ·rw[if_pos he]
          exact .slice b _ _ _ _ lc ad hm ar6 (by omega) (.inl (by omega))
         ·rw[if_neg he]
          refine .slice b _ _ _ _ lc _ hm ar6 (by omega) (.inr ?_)
          rcases lU with h0|h0
          ·omega
          ·subst h0;rw[nH];simp[Nat.add_assoc]
       ·cases hl
      ·rename_i hb
       split at hl
       ·rename_i l r Rb hr1
        replace hl:=aG hl;obtain⟨DV,hl⟩:=hl
        cases hl
        simp only[jj] at DV
        have h0:=mU DV.1
        have h1:=mU DV.2
        subst h0 h1
        have hv:=hE x (by simp[Op.operands]) px _ hx hb
        generalize iL:ev x=xx at hv
        cases hv
        have b1:=iN ta Rb hE axr
        have b2:=iN hhi hr1 hE axs
        have hb:=mE (P:=P) (w:=w) (isSlice:=true) (len:=0) (cap:=0) (l:=0) (r:=0) (lo:=lo.map ev) (hi:=hi.map ev)
         (by rcases b1 with⟨e,e'⟩|⟨x',k,e,e'⟩<;>subst e<;>simp[e']) (by rcases b2 with⟨e,e'⟩|⟨x',k,e,e'⟩<;>subst e<;>simp[e']) (fh _) (fh _) (fh _)
        refine⟨.slice none 0 0,?_,.nils⟩
        simp only[Go.execOp]
        refine cS ?_
        simp only[iL,Instr.sliceAt,mA,ah hu,jH,Instr.slice,Option.map_none,hb,aT K5,ra,if_true]
       ·cases hl
      ·rename_i L len Gc fl hb
       split at hl
       ·rename_i l r Rb hr1
        replace hl:=aG hl;obtain⟨DV,hl⟩:=hl
        simp only[jj,Nat.ble_eq] at DV
        have NU:=mU DV.2
        subst NU
        rw[takeC_eq,dropL_eq] at hl
        split at hl
        ·rename_i Ny
         cases hl
         have hv:=hE x (by simp[Op.operands]) px _ hx hb
         generalize iL:ev x=xx at hv
         cases hv with|sl _ _ _ _ cap c o ad vs tP hn hle lU hf hg=>
         have b1:=iN ta Rb hE axr
         have b2:=iN hhi hr1 hE axs
         have hb:=mE (P:=P) (w:=w) (isSlice:=true) (len:=len) (cap:=cap) (l:=l) (r:=r) (lo:=lo.map ev) (hi:=hi.map ev)
          (by rcases b1 with⟨e,e'⟩|⟨x',k,e,e'⟩<;>subst e<;>simp[e']) (by rcases b2 with⟨e,e'⟩|⟨x',k,e,e'⟩<;>subst e<;>simp[e']) DV.1.1 DV.1.2 hle
         refine⟨.slice (if cap=l then some ad else some (ad.add (l*ie.size))) (r-l) (cap-l),?_,?_⟩
         ·simp only[Go.execOp]
          refine cS ?_
          simp only[iL,Instr.sliceAt,mA,ah hu,jH,Instr.slice,Option.map_none,hb,aT K5,ra,Option.map_some]
         ·have azb:((L.drop (l*ie.size)).take ((r-l)*ie.size)).length=(r-l)*ie.size:=by
           rw[zqy];omega
          have HN:Nz μ c (o+l*ie.size) (r-l) (cap-l) ie.size (bif Nat.beq r len then fl else .any):=by
           cases Q1:Nat.beq r len with
           |false=>trivial
           |true=>
            have Q1:=mU Q1
            subst Q1
            cases fl with
            |any=>trivial
            |tok tb=>
             have hg:μ tb=some ⟨c,o+r*ie.size,(cap-r)*ie.size⟩:=hg
             show μ tb=some ⟨c,o+l*ie.size+(r-l)*ie.size,(cap-l-(r-l))*ie.size⟩
             rw[hg]
             have e1:o+r*ie.size=o+l*ie.size+(r-l)*ie.size:=by
              rw[Nat.add_assoc,← Nat.add_mul];congr 2;omega
             have e2:cap-r=cap-l-(r-l):=by omega
             rw[e1,e2]
          by_cases he:cap=l
          ·rw[if_pos he]
           exact .sl _ _ _ _ _ c (o+l*ie.size) ad _ ((tP.drop _).take _) azb (by omega) (.inl (by omega)) (Sf (B0 hf _) _) HN
          ·rw[if_neg he]
           refine .sl _ _ _ _ _ c (o+l*ie.size) _ _ ((tP.drop _).take _) azb (by omega) (.inr ?_) (Sf (B0 hf _) _) HN
           rcases lU with h0|h0
           ·omega
           ·subst h0;rw[nH]
        ·cases hl
       ·cases hl
      ·cases hl
     ·cases hp
    ·cases hp
   ·cases hp
 |fieldAddr s x f=>
  simp only[gP] at hp
  split at hp
  ·rename_i fs hu
   split at hp
   ·rename_i fd Te
    split at hp
    ·rename_i i px hi hx
     cases hz:Nat.beq i.size 0 with
     |true=>rw[hz] at hp;cases hp
     |false=>
      rw[hz] at hp
      simp only[cond_false,cT] at hp;subst hp
      have uv:i.size≠0:=by intro e;rw[e] at hz;cases hz
      simp only[lightOp] at hl
      split at hl
      ·rename_i b o hb
       cases hl
       have hv:=hE x (by simp[Op.operands]) px _ hx hb
       generalize iL:ev x=xx at hv
       cases hv with|ptr _ _ l ad hm lU=>
       subst lU
       refine⟨.pointer (some ⟨l.c,l.base+(o+fd.offset),none⟩),?_,.ptr _ _ l _ hm rfl⟩
       simp only[Go.execOp]
       refine cS ?_
       simp only[iL,Instr.fieldAt,mA,ah hu,jH,Te,Instr.sureAddr,ra,fieldPlace,aT hi,Sem.run_ite,uv,if_false,nH,Nat.add_assoc]
      ·rename_i l hb
       cases hl
       have hv:=hE x (by simp[Op.operands]) px _ hx hb
       generalize iL:ev x=xx at hv
       cases hv with|cref _ c o ad vs hr lU hf=>
       subst lU
       rw[dropL_eq]
       refine⟨.pointer (some ⟨c,o+fd.offset,none⟩),?_,.cref _ c (o+fd.offset) _ _ (hr.drop _) rfl (B0 hf _)⟩
       simp only[Go.execOp]
       refine cS ?_
       simp only[iL,Instr.fieldAt,mA,ah hu,jH,Te,Instr.sureAddr,ra,fieldPlace,aT hi,Sem.run_ite,uv,if_false,nH]
      ·cases hl
    ·cases hp
   ·cases hp
  ·cases hp
 |field t x f=>
  simp only[gP] at hp
  split at hp
  ·rename_i fs hu
   split at hp
   ·rename_i fd Te
    split at hp
    ·rename_i ti px hti hx
     obtain⟨i,d,z,hi,hd,hz,Tr,uv,Mk⟩:=jr hti
     cases hp
     simp only[lightOp] at hl
     split at hl
     ·rename_i L hb
      have hv:=hE x (by simp[Op.operands]) px _ hx hb
      generalize iL:ev x=xx at hv
      cases hv with|agg _ vs hL=>
      rw[Mk,uv] at hl
      obtain⟨v,hv,hr⟩:=Ml (P:=P) (w:=w) hi hd hL hl
      refine⟨v,?_,hr⟩
      simp only[Go.execOp]
      refine cS ?_
      simp only[iL,Instr.field,mA,ah hu,jH,Te,asAgg,ra,hv]
     ·cases hl
    ·cases hp
   ·cases hp
  ·cases hp
 |indexAddr t x ix=>
  simp only[gP] at hp
  split at hp
  ·rename_i len e px pi hu hx Ts
   split at hp
   ·rename_i ie K5
    replace hp:=aG hp;obtain⟨xR,hp⟩:=hp
    cases hp
    simp only[lightOp] at hl
    split at hl
    ·rename_i b o vi hb QO
     split at hl
     ·rename_i j hj
      replace hl:=aG hl;obtain⟨bO,hl⟩:=hl
      cases hl
      rw[bltN_eq,decide_eq_true_eq] at bO
      have hv:=hE x (by simp[Op.operands]) px _ hx hb
      obtain⟨k,hk⟩:=gI hj (hE ix (by simp[Op.operands]) pi _ Ts QO)
      generalize iL:ev x=xx at hv
      cases hv with|ptr _ _ l ad hm lU=>
      subst lU
      refine⟨.pointer (some ⟨l.c,l.base+(o+j*ie.size),none⟩),?_,.ptr _ _ l _ hm rfl⟩
      simp only[Go.execOp]
      refine cS ?_
      have hr:(0:Int)≤(j:Int)∧(j:Int)<(len:Int):=by omega
      simp only[iL,hk,Instr.indexAt,asIntOf,mA,ah hu,jH,Instr.sureAddr,ra,hr,and_self,if_true,aT K5,nH,Int.toNat_natCast,Nat.add_assoc]
     ·cases hl
    ·rename_i L vi hb QO
     split at hl
     ·rename_i j hj
      replace hl:=aG hl;obtain⟨bO,hl⟩:=hl
      cases hl
      rw[bltN_eq,decide_eq_true_eq] at bO
      have hv:=hE x (by simp[Op.operands]) px _ hx hb
      obtain⟨k,hk⟩:=gI hj (hE ix (by simp[Op.operands]) pi _ Ts QO)
      generalize iL:ev x=xx at hv
      cases hv with|cref _ c o ad vs tP lU hf=>
      subst lU
      rw[dropL_eq]
      refine⟨.pointer (some ⟨c,o+j*ie.size,none⟩),?_,.cref _ c (o+j*ie.size) _ _ (tP.drop _) rfl (B0 hf _)⟩
      simp only[Go.execOp]
      refine cS ?_
      have hr:(0:Int)≤(j:Int)∧(j:Int)<(len:Int):=by omega
      simp only[iL,hk,Instr.indexAt,asIntOf,mA,ah hu,jH,Instr.sureAddr,ra,hr,and_self,if_true,aT K5,nH,Int.toNat_natCast]
     ·cases hl
    ·cases hl
   ·cases hp
  ·rename_i e px pi hu hx Ts
   split at hp
   ·rename_i ie K5
    replace hp:=aG hp;obtain⟨xR,hp⟩:=hp
    cases hp
    simp only[lightOp] at hl
    split at hl
    ·rename_i b off len Gc vi hb QO
     split at hl
     ·rename_i j hj
      replace hl:=aG hl;obtain⟨bO,hl⟩:=hl
      cases hl
      simp only[jj] at bO
      have NU:=mU bO.2
      subst NU
      have bO:=bO.1
      rw[bltN_eq,decide_eq_true_eq] at bO
      have hv:=hE x (by simp[Op.operands]) px _ hx hb
      obtain⟨k,hk⟩:=gI hj (hE ix (by simp[Op.operands]) pi _ Ts QO)
      generalize iL:ev x=xx at hv
      cases hv with|slice _ _ _ _ cap l ad hm BD hlen lU=>
      have lU:ad=⟨l.c,l.base+off,none⟩:=lU.resolve_left (by omega)
      subst lU
      refine⟨.pointer (some ⟨l.c,l.base+(off+j*ie.size),none⟩),?_,.ptr _ _ l _ hm rfl⟩
      simp only[Go.execOp]
      refine cS ?_
      have hr:(0:Int)≤(j:Int)∧(j:Int)<(len:Int):=by omega
      simp only[iL,hk,Instr.indexAt,asIntOf,mA,ah hu,jH,ra,hr,and_self,if_true,aT K5,nH,Int.toNat_natCast,Nat.add_assoc]
     ·cases hl
    ·rename_i L len Gc fl vi hb QO
     split at hl
     ·rename_i j hj
      replace hl:=aG hl;obtain⟨bO,hl⟩:=hl
      simp only[jj] at bO
      have NU:=mU bO.2
      subst NU
      have bO:=bO.1
      rw[bltN_eq,decide_eq_true_eq] at bO
      rw[takeC_eq,dropL_eq] at hl
      split at hl
      ·rename_i Ny
       cases hl
       have hv:=hE x (by simp[Op.operands]) px _ hx hb
       obtain⟨k,hk⟩:=gI hj (hE ix (by simp[Op.operands]) pi _ Ts QO)
       generalize iL:ev x=xx at hv
       cases hv with|sl _ _ _ _ cap c o ad vs tP hn hle lU hf hg=>
       have lU:ad=⟨c,o,none⟩:=lU.resolve_left (by omega)
       subst lU
       refine⟨.pointer (some ⟨c,o+j*ie.size,none⟩),?_,.cref _ c (o+j*ie.size) _ _ ((tP.drop _).take _) rfl (Sf (B0 hf _) _)⟩
       simp only[Go.execOp]
       refine cS ?_
       have hr:(0:Int)≤(j:Int)∧(j:Int)<(len:Int):=by omega
       simp only[iL,hk,Instr.indexAt,asIntOf,mA,ah hu,jH,ra,hr,and_self,if_true,aT K5,nH,Int.toNat_natCast]
      ·cases hl
     ·cases hl
    ·cases hl
   ·cases hp
  ·cases hp
 |index t x ix=>
  simp only[gP] at hp
  split at hp
  ·rename_i px pi hu hx Ts
   cases hp
   simp only[lightOp] at hl
   split at hl
   ·rename_i n c vi hb QO
    split at hl
    ·rename_i j hj
     replace hl:=aG hl;obtain⟨bO,hl⟩:=hl
     cases hl
     rw[bltN_eq,decide_eq_true_eq] at bO
     have hv:=hE x (by simp[Op.operands]) px _ hx hb
     obtain⟨k,hk⟩:=gI hj (hE ix (by simp[Op.operands]) pi _ Ts QO)
     generalize iL:ev x=xx at hv
     cases hv with|str _ _ s hs hs'=>
     have bz:j<s.data.toList.length:=by omega
     have hjs:s[j]?=some s.data.toList[j]:=by
      have:j<s.size:=by rw[Lib.size_eq];exact bz
      rw[getElem?_pos s j this]
      rfl
     refine⟨.int .u8 (s.data.toList[j]).toNat,?_,.int _ _ _ ?_⟩
     ·simp only[Go.execOp]
      refine cS ?_
      have h0:(0:Int)≤(j:Int):=by omega
      simp only[iL,hk,Instr.index,asIntOf,mA,ra,ah hu,jH,h0,if_true,Int.toNat_natCast,hjs]
     ·simp only[SI.den]
      show((Nat.mod (Nat.shiftRight c (8*j)) 256:Nat):Int)=_
      have e1:Nat.shiftRight c (8*j)=c / 2^(8*j):=Nat.shiftRight_eq_div_pow _ _
      rw[e1,Tt,← hs']
      have:=axt s.data.toList j bz
      show((enc s.data.toList / 256^j%256:Nat):Int)=_
      rw[this]
    ·cases hl
   ·cases hl
  ·rename_i len e px pi hu hx Ts
   split at hp
   ·rename_i ti hti
    obtain⟨i,d,z,hi,hd,hz,Tr,uv,Mk⟩:=jr hti
    cases hp
    simp only[lightOp] at hl
    split at hl
    ·rename_i L vi hb QO
     split at hl
     ·rename_i j hj
      replace hl:=aG hl;obtain⟨bO,hl⟩:=hl
      rw[bltN_eq,decide_eq_true_eq] at bO
      have hv:=hE x (by simp[Op.operands]) px _ hx hb
      obtain⟨k,hk⟩:=gI hj (hE ix (by simp[Op.operands]) pi _ Ts QO)
      generalize iL:ev x=xx at hv
      cases hv with|agg _ vs hL=>
      rw[Mk,uv] at hl
      obtain⟨v,hv,hr⟩:=Ml (P:=P) (w:=w) hi hd hL hl
      refine⟨v,?_,hr⟩
      simp only[Go.execOp]
      refine cS ?_
      have hr:(0:Int)≤(j:Int)∧(j:Int)<(len:Int):=by omega
      simp only[iL,hk,Instr.index,asIntOf,mA,ra,ah hu,jH,hr,and_self,if_true,aT hi,Int.toNat_natCast,hv]
     ·cases hl
    ·cases hl
   ·cases hp
  ·cases hp
 |lookup t m k ok=>
  simp only[gP] at hp
  split at hp
  ·rename_i kt e hu
   have main:∀ (sk:Bool) (kd:TypeDesc) (ti:TI) (pm pk:PX),zO P kt sk kd→tyI P e=some ti→pX P nt m=some pm→pX P nt k=some pk→op=.lookup sk ti.zero ok pm pk→
     ∃ v,(Go.execOp ev ⟨dst,.lookup t m k ok,ty,pos,after,guard⟩).run P w=.ok (.value v) w∧aD ρ μ a v:=by
    intro sk kd ti pm pk rq hti hm hk e'
    subst e'
    obtain⟨i,d,z,hi,hd,hz,Tr,uv,Mk⟩:=jr hti
    simp only[lightOp] at hl
    split at hl
    ·rename_i b ka hb hka
     split at hl
     ·rename_i L hL
      have hvm:=hE m (by simp[Op.operands]) pm _ hm hb
      have hvk:=hE k (by simp[Op.operands]) pk _ hk hka
      generalize Pg:ev m=mm at hvm
      cases hvm with|map _ l r iP hr=>
      subst hr
      obtain⟨l',o',h1,h2,h3⟩:=hM.oR b _ (hH _ _ hL)
      rw[iP] at h1;cases h1
      cases h3 with|map _ _ es clock dM CM Tq=>
      have nv:(getObj l.c).run P w=.ok (.map es clock) w:=by simp[getObj,Sem.run,h2]
      have aE4:∀ f,Instr.findNow kd (ev k) es.toList 0=some f→∀ v okv,(match f with|some (_,v')=>v'=v∧okv=true|none=>z=v∧okv=false)→
        (Go.execOp ev ⟨dst,.lookup t m k ok,ty,pos,after,guard⟩).run P w=.ok (.value (if ok then .tuple #[v,.bool okv] else v)) w:=by
       intro f hf v okv hfv
       simp only[Go.execOp]
       refine cS ?_
       simp only[Pg,Instr.lookup,mA,ah hu,jH,nv,ra,run_checkKey rq _ 9999,run_findKey rq.1 hf]
       cases f with
       |none=>obtain⟨rfl,rfl⟩:=hfv;simp[mW hi hz]
       |some p=>obtain⟨j,v'⟩:=p;obtain⟨rfl,rfl⟩:=hfv;simp
      split at hl
      ·rename_i v hf
       obtain⟨f,hf1,hf2⟩:=CN ho rq hvk 0 dM hf
       cases f with
       |none=>exact hf2.elim
       |some p=>
        obtain⟨j,v'⟩:=p
        have:=aE4 _ hf1 v' true ⟨rfl,rfl⟩
        cases hl
        refine⟨_,this,?_⟩
        cases ok with
        |true=>exact .tuple _ _ (.cons _ _ _ _ hf2 (.one (.bool _)))
        |false=>exact hf2
      ·rename_i hf
       obtain⟨f,hf1,hf2⟩:=CN ho rq hvk 0 dM hf
       cases f with
       |some p=>exact hf2.elim
       |none=>
        have:=aE4 _ hf1 z false ⟨rfl,rfl⟩
        cases hl
        refine⟨_,this,?_⟩
        cases ok with
        |true=>exact .tuple _ _ (.cons _ _ _ _ (gw rU z ti.zero Tr) (.one (.bool _)))
        |false=>exact gw rU z ti.zero Tr
      ·cases hl
     ·cases hl
    ·cases hl
   split at hp
   ·simp only[cT] at hp;exact main false _ _ _ _ ⟨‹_›,by simp⟩ ‹_› ‹_› ‹_› hp.symm
   ·simp only[cT] at hp;exact main true _ _ _ _ ⟨‹_›,by simp⟩ ‹_› ‹_› ‹_› hp.symm
   ·cases hp
  ·cases hp
 |mapUpdate t m k v=>
  simp only[gP] at hp
  split at hp
  ·split at hp
   ·cases hp;simp[lightOp] at hl
   ·cases hp;simp[lightOp] at hl
   ·split at hp
    ·cases hp;simp[lightOp] at hl
    ·cases hp
   ·split at hp
    ·cases hp;simp[lightOp] at hl
    ·cases hp
   ·cases hp
  ·cases hp
 |mapEntry t m k=>simp[gP] at hp
 |entryStore t m k v=>simp[gP] at hp
 |range t x=>
  simp only[gP] at hp
  split at hp
  ·obtain⟨px,hx,rfl⟩:=map_some hp;simp[lightOp] at hl
  ·cases hp
 |next it s=>
  cases s
  ·obtain⟨px,hx,rfl⟩:=map_some hp;simp[lightOp] at hl
  ·simp[gP] at hp
 |entry it=>
  obtain⟨px,hx,rfl⟩:=map_some hp
  simp only[lightOp] at hl
  split at hl
  ·rename_i b hb
   split at hl
   ·rename_i m n seen hit
    split at hl
    ·rename_i L c s dL hls
     replace hl:=aG hl;obtain⟨hcn,hl⟩:=hl
     have hcn:=mU hcn
     subst hcn
     have hv:=hE it (by simp[Op.operands]) px _ hx hb
     generalize iL:ev it=xx at hv
     cases hv with|ptr _ _ l ad iP ha=>
     subst ha
     obtain⟨l',o',h1,h2,h3⟩:=hM.oR b _ (hH _ _ hit)
     rw[iP] at h1;cases h1
     cases h3 with|iter _ _ _ _ lm sa Pg hsa hzero=>
     obtain⟨l2,es,k1,k2,dM⟩:=akM hM hH dL
     rw[Pg] at k1;cases k1
     subst hsa
     obtain⟨k,v,e,rfl,q1,q2,q3⟩:=Rq dM hl
     have aE5:sa.back?=some s:=by rw[← Array.getLast?_toList];exact VH hls
     have aE6:es.find? (·.born==s)=some e:=by rw[← Array.find?_toList];exact q1
     refine⟨.tuple #[e.key,e.val],?_,.tuple _ _ (.cons _ _ _ _ q2 (.one q3))⟩
     simp only[Go.execOp]
     refine cS ?_
     have g1:(getObj l.c).run P w=.ok (.mapIter (some lm.c) c sa c) w:=by simp[getObj,Sem.run,h2]
     have g2:(getObj lm.c).run P w=.ok (.map es c) w:=by simp[getObj,Sem.run,k2]
     have ayq:l.base+0=0:=by rw[hzero]
     simp[iL,ayq,Instr.entry,g1,g2,aE5,aE6]
    ·cases hl
   ·cases hl
  ·cases hl
 |typeAssert x xt t ok=>
  simp only[gP] at hp
  split at hp
  ·cases hp
  ·rename_i d ti px hn hu hti hx
   obtain⟨i,d',z,hi,hd,hz,Tr,uv,Mk⟩:=jr hti
   cases hp
   simp only[lightOp] at hl
   split at hl
   ·rename_i t' u hb
    have hv:=hE x (by simp[Op.operands]) px _ hx hb
    generalize iL:ev x=xx at hv
    cases hv with|iface _ _ vv hvv=>
    have dP : ∀ r, (if t' = t then (pure (if ok then .tuple #[vv, .bool true] else vv) : Sem Value) else (if ok then do pure (.tuple #[← zeroValue t, .bool false]) else runtimePanic (.typeAssertion (some xt) (some t') t ""))).run P w = .ok r w →
      (Go.execOp ev ⟨dst,.typeAssert x xt t ok,ty,pos,after,guard⟩).run P w=.ok (.value r) w:=by
     intro r hr
     simp only[Go.execOp]
     refine cS ?_
     simp only[iL,Instr.typeAssert,mA,ah hu,jH]
     cases d<;>first|exact absurd rfl (hn _ _ _)|exact hr
    cases ok with
    |true=>
     simp only[cond_true] at hl
     cases ht:Nat.beq t t' with
     |true=>
      rw[ht] at hl
      simp only[cond_true,cT] at hl;subst hl
      have:=mU ht
      subst this
      exact⟨_,dP _ (by simp),.tuple _ _ (.cons _ _ _ _ hvv (.one (.bool _)))⟩
     |false=>
      rw[ht] at hl
      simp only[cond_false,cT] at hl;subst hl
      have bU:¬ t'=t:=by intro e;subst e;simp[beqN_eq] at ht
      exact⟨_,dP (.tuple #[z,.bool false]) (by simp[bU,mW hi hz]),.tuple _ _ (.cons _ _ _ _ (gw rU z ti.zero Tr) (.one (.bool _)))⟩
    |false=>
     simp only[cond_false] at hl
     replace hl:=aG hl;obtain⟨ht,hl⟩:=hl
     cases hl
     have:=mU ht
     subst this
     exact⟨_,dP _ (by simp),hvv⟩
   ·cases hl
  ·cases hp
 |extract x i=>
  simp only[gP] at hp
  split at hp
  ·rename_i px hx
   cases hp
   simp only[lightOp] at hl
   split at hl
   ·rename_i L hb
    have hv:=hE x (by simp[Op.operands]) px _ hx hb
    generalize iL:ev x=xx at hv
    cases hv with|tuple _ vs hL=>
    rw[nth_eq] at hl
    obtain⟨v,hv,hr⟩:=hL.get i a hl
    have hvi:vs[i]?=some v:=by simpa using hv
    exact⟨v,by simp[Go.execOp,iL,Instr.extract,hvi],hr⟩
   ·cases hl
  ·cases hp
 |call c=>
  obtain⟨callee,args,argTypes⟩:=c
  simp only[gP] at hp
  split at hp
  ·split at hp
   ·replace hp:=aG hp;obtain⟨_,hp⟩:=hp
    cases hp;simp[lightOp] at hl
   ·cases hp
  ·split at hp
   ·cases hp;simp[lightOp] at hl
   ·cases hp
  ·cases hp
  ·rename_i b
   have hex:∀ (X:Sem Value),Go.builtin b argTypes ty (args.map fun|.const _=>true|_=>false) (args.map ev)=(do pure (.value (← X)))→
     Go.execOp ev ⟨dst,.call ⟨.builtin b,args,argTypes⟩,ty,pos,after,guard⟩=(do pure (.value (← X))):=by
    intro X hX
    rw[← hX]
    rfl
   have mx:∀ (isMax:Bool) (pa pb:PX),L7 P nt args.toList=some [pa,pb]→b=(if isMax then .max else .min)→op=.mx isMax pa pb→
     ∃ v,(Go.execOp ev ⟨dst,.call ⟨.builtin b,args,argTypes⟩,ty,pos,after,guard⟩).run P w=.ok (.value v) w∧aD ρ μ a v:=by
    intro isMax pa pb hpx hb kb
    obtain⟨X,Y,cG,hX,hY⟩:=Tp hpx
    have akP:args=#[X,Y]:=by apply Array.ext';simpa using cG
    subst akP kb
    simp only[lightOp] at hl
    split at hl
    ·rename_i k1 s1 k2 s2 h1 h2
     replace hl:=aG hl;obtain⟨hk,hl⟩:=hl
     have:=qa hk
     subst this
     have hv1:=hE X (by simp[Op.operands,Call.operands]) pa _ hX h1
     have hv2:=hE Y (by simp[Op.operands,Call.operands]) pb _ hY h2
     generalize iL:ev X=xx at hv1
     generalize hyy:ev Y=yy at hv2
     cases hv1 with|int _ _ n1 e1=>cases hv2 with|int _ _ n2 e2=>
     cases isMax with
     |true=>
      simp only[if_true] at hb
      subst hb
      simp only[cond_true] at hl
      have dP:∀ r:Bool,DJ orc .gtr s2 s1=some r→(Go.execOp ev ⟨dst,.call ⟨.builtin .max,#[X,Y],argTypes⟩,ty,pos,after,guard⟩).run P w=.ok (.value (.int k1 (if r then n2 else n1))) w:=by
       intro r hr
       have hc:=uY ho hr
       rw[e1,e2] at hc
       simp only[fP,cT] at hc
       rw[hex (Builtin.max_ argTypes ty (#[X,Y].map ev)) rfl]
       refine cS ?_
       subst hc
       simp[Builtin.max_,iL,hyy,Builtin.max2]
      split at hl
      ·rename_i hr
       cases hl
       exact⟨_,dP _ hr,.int _ _ _ e2⟩
      ·rename_i hr
       cases hl
       exact⟨_,dP _ hr,.int _ _ _ e1⟩
      ·cases hl
     |false=>
      simp only[Ps,if_false] at hb
      subst hb
      simp only[cond_false] at hl
      have dP:∀ r:Bool,DJ orc .lss s2 s1=some r→(Go.execOp ev ⟨dst,.call ⟨.builtin .min,#[X,Y],argTypes⟩,ty,pos,after,guard⟩).run P w=.ok (.value (.int k1 (if r then n2 else n1))) w:=by
       intro r hr
       have hc:=uY ho hr
       rw[e1,e2] at hc
       simp only[fP,cT] at hc
       rw[hex (Builtin.min_ argTypes ty (#[X,Y].map ev)) rfl]
       refine cS ?_
       subst hc
       simp[Builtin.min_,iL,hyy,Builtin.min2]
      split at hl
      ·rename_i hr
       cases hl
       exact⟨_,dP _ hr,.int _ _ _ e2⟩
      ·rename_i hr
       cases hl
       exact⟨_,dP _ hr,.int _ _ _ e1⟩
      ·cases hl
    ·cases hl
   split at hp
   ·rename_i px hpx
    obtain⟨X,cG,hX⟩:=anP hpx
    have akP:args=#[X]:=by apply Array.ext';simpa using cG
    subst akP
    split at hp
    ·rename_i t hty
     have axu:argTypes=#[t]:=by apply Array.ext';simpa using hty
     subst axu
     rw[hex (Builtin.len_ #[t] ty (#[X].map ev)) rfl]
     split at hp
     ·rename_i hu
      cases hp
      simp only[lightOp] at hl
      split at hl
      ·rename_i n c hb
       cases hl
       have hv:=hE X (by simp[Op.operands,Call.operands]) px _ hX hb
       generalize iL:ev X=xx at hv
       cases hv with|str _ _ s hs hs'=>
       refine⟨goInt s.size,?_,.int _ _ _ (by rw[Lib.size_eq,hs];rfl)⟩
       refine cS ?_
       simp[Builtin.len_,iL,ah hu]
      ·cases hl
     ·rename_i e hu
      cases hp
      simp only[lightOp] at hl
      split at hl
      ·rename_i hb
       cases hl
       have hv:=hE X (by simp[Op.operands,Call.operands]) px _ hX hb
       generalize iL:ev X=xx at hv
       cases hv
       refine⟨_,?_,.int _ _ _ rfl⟩
       refine cS ?_
       simp[Builtin.len_,iL,ah hu,goInt,SI.den]
      ·rename_i hb
       cases hl
       have hv:=hE X (by simp[Op.operands,Call.operands]) px _ hX hb
       generalize iL:ev X=xx at hv
       cases hv
       refine⟨_,?_,.int _ _ _ rfl⟩
       refine cS ?_
       simp[Builtin.len_,iL,ah hu,goInt,SI.den]
      ·rename_i hb
       cases hl
       have hv:=hE X (by simp[Op.operands,Call.operands]) px _ hX hb
       generalize iL:ev X=xx at hv
       cases hv
       refine⟨_,?_,.int _ _ _ rfl⟩
       refine cS ?_
       simp[Builtin.len_,iL,ah hu,goInt,SI.den]
      ·cases hl
     ·rename_i kt e hu
      cases hp
      simp only[lightOp] at hl
      split at hl
      ·rename_i b hb
       split at hl
       ·rename_i L hL
        cases hl
        have hv:=hE X (by simp[Op.operands,Call.operands]) px _ hX hb
        generalize iL:ev X=xx at hv
        cases hv with|map _ l r iP hr=>
        subst hr
        obtain⟨l',o',h1,h2,h3⟩:=hM.oR b _ (hH _ _ hL)
        rw[iP] at h1;cases h1
        cases h3 with|map _ _ es clock dM CM Tq=>
        have nv:(getObj l.c).run P w=.ok (.map es clock) w:=by simp[getObj,Sem.run,h2]
        refine⟨goInt es.size,?_,.int _ _ _ ?_⟩
        ·refine cS ?_
         simp[Builtin.len_,iL,ah hu,nv]
        ·have:L.length=es.size:=by
          have hlen:∀ (l:List (AV×AV)) (es:List MapEntry),lL ρ μ l es→l.length=es.length:=by
           intro l
           induction l with
           |nil=>intro es h;cases es with|nil=>rfl|cons _ _=>exact h.elim
           |cons x l ih=>
            intro es h
            cases es with
            |nil=>obtain⟨_,_⟩:=x;exact h.elim
            |cons e es=>obtain⟨_,_⟩:=x;simp[ih es h.2.2]
          have:=hlen _ _ dM
          simpa using this
         rw[lenL_eq,this];rfl
       ·rename_i L c hL
        cases hl
        have hv:=hE X (by simp[Op.operands,Call.operands]) px _ hX hb
        generalize iL:ev X=xx at hv
        cases hv with|map _ l r iP hr=>
        subst hr
        obtain⟨l',o',h1,h2,h3⟩:=hM.oR b _ (hH _ _ hL)
        rw[iP] at h1;cases h1
        cases h3 with|mapD _ _ es clock dM=>
        have nv:(getObj l.c).run P w=.ok (.map es c) w:=by simp[getObj,Sem.run,h2]
        refine⟨goInt es.size,?_,.int _ _ _ ?_⟩
        ·refine cS ?_
         simp[Builtin.len_,iL,ah hu,nv]
        ·have:L.length=es.size:=by
          have hlen:∀ (l:List (Nat×AV×AV)) (es:List MapEntry),gV ρ μ l es→l.length=es.length:=by
           intro l
           induction l with
           |nil=>intro es h;cases es with|nil=>rfl|cons _ _=>exact h.elim
           |cons x l ih=>
            intro es h
            cases es with
            |nil=>obtain⟨_,_,_⟩:=x;exact h.elim
            |cons e es=>obtain⟨_,_,_⟩:=x;simp[ih es h.2.2.2]
          have:=hlen _ _ dM
          simpa using this
         rw[lenL_eq,this];rfl
       ·cases hl
      ·cases hl
     ·cases hp
    ·cases hp
   ·split at hp
    ·split at hp
     ·split at hp
      ·replace hp:=aG hp;obtain⟨_,hp⟩:=hp
       cases hp;simp[lightOp] at hl
      ·cases hp
     ·split at hp
      ·replace hp:=aG hp;obtain⟨_,hp⟩:=hp
       cases hp;simp[lightOp] at hl
      ·cases hp
     ·cases hp
    ·cases hp
   ·simp only[cT] at hp;exact mx true _ _ ‹_› rfl hp.symm
   ·simp only[cT] at hp;exact mx false _ _ ‹_› rfl hp.symm
   ·cases hp;simp[lightOp] at hl
   ·split at hp
    ·split at hp
     ·split at hp
      ·cases hp;simp[lightOp] at hl
      ·cases hp;simp[lightOp] at hl
      ·cases hp
     ·cases hp
    ·cases hp
   ·cases hp
 |go c=>simp[gP] at hp
 |defer c=>
  simp only[gP] at hp
  split at hp
  ·split at hp
   ·cases hp;simp[lightOp] at hl
   ·cases hp
  ·cases hp
 |panic x=>obtain⟨px,hx,rfl⟩:=map_some hp;simp[lightOp] at hl
 |send c x=>simp[gP] at hp
 |recv t c ok=>simp[gP] at hp
 |select cs b=>simp[gP] at hp
end
end Go.Sx
/-
 SX: operations that make a block. No condition.
-/
namespace Go.Sx
open Go.RowKit
theorem Rt{α:Type}{b:Bool}{x:Option α}{y:α}(h:(bif b then none else x)=some y):b=false∧x=some y:=by
 cases b with
 |false=>exact⟨rfl,h⟩
 |true=>cases h
theorem KD{α:Type}(zs:List α)(hz:0<zs.length):∀ (n i:Nat),i<n*zs.length→(List.replicate n zs).flatten[i]?=zs[i%zs.length]?
 |0,i,h=>by simp at h
 |n+1,i,h=>by
  rw[List.replicate_succ,zqk]
  by_cases hi:i<zs.length
  ·rw[List.getElem?_append_left hi,Nat.mod_eq_of_lt hi]
  ·rw[List.getElem?_append_right (by omega),KD zs hz n (i-zs.length) (by rw[Nat.add_mul] at h;omega)]
   congr 1
   rw[Nat.mod_eq_sub_mod (by omega:zs.length≤i)]
theorem KE{α:Type}(zs:List α)(n:Nat):(List.replicate n zs).flatten.length=n*zs.length:=by
 induction n with
 |zero=>simp
 |succ n ih=>rw[List.replicate_succ,zqk,zqf,ih,Nat.add_mul];omega
section
variable{P:Program}{ρ:Nat→Int}{w0:W0}{w:World}{μ:Mu}{G:Key→Option ag}{nx:Nat}{orc:hU}{nt:Nat}{tm:T AV}{H:T ag}{ev:Operand→Value}
theorem RP{zs:List AV}{z:Array Value}(h:an ρ μ zs z.toList)(n:Nat) :
  an ρ μ (List.replicate n zs).flatten ((Array.range (n*z.size)).map (z[· % z.size]!)).toList:=by
 have hlen:zs.length=z.size:=by rw[h.length];simp
 by_cases h0:z.size=0
 ·have:zs=[]:=zqr (by omega)
  subst this
  have e:(List.replicate n ([]:List AV)).flatten=[]:=by simp
  rw[e,h0]
  simp
  exact .nil
 ·refine an.Se ?_ ?_
  ·rw[KE];simp[hlen]
  ·intro i a ha
   have hi:i<n*zs.length:=by
    rcases Dr i (n*zs.length) with h'|h'
    ·exact h'
    ·rw[zqo (by rw[KE];exact h')] at ha;cases ha
   rw[KD zs (by omega) n i hi] at ha
   obtain⟨v,hv,hr⟩:=h.get _ a ha
   refine⟨v,?_,hr⟩
   rw[hlen] at hi hv
   have Sd:z[i%z.size]?=some v:=by simpa using hv
   have bO:i%z.size<z.size:=Nat.mod_lt _ (by omega)
   simp[hi]
   rw[getElem!_pos z _ bO]
   rw[getElem?_pos z _ bO] at Sd
   simpa using Sd
theorem amU{L:List AV}{vs:Array Value}(h:an ρ μ L vs.toList)(c:Nat)(elem:TypeId):DK P ρ μ (.cells L .fix) ⟨c,0,vs.size⟩ (.cells vs elem (0,0)):=by
 have hl:L.length=vs.size:=by rw[h.length];simp
 refine .cells L .fix _ vs elem (0,0) ?_ (by simp) (Nat.le_of_eq hl) (fun _=>rfl) (fun _=>hl)
 intro i a ha
 obtain⟨v,hv,hr⟩:=h.get i a ha
 exact⟨v,by simpa using hv,hr⟩
theorem kq(elem:TypeId)(cells:Array Value):(newRow elem cells).run P w=.ok ⟨w.heap.size,0,none⟩ (w.alloc (.cells cells elem)):=rfl
theorem wrap_small(n:Nat)(hn:n≤1048576):IntKind.i64.wrap (n:Int)=n:=by
 rw[← jv]
 have hm:Int.emod (n:Int) 18446744073709551616=n:=by show(n:Int)%18446744073709551616=n;omega
 have bO:D9 (n:Int) 9223372036854775808=true:=by rw[FD,decide_eq_true_eq];omega
 simp only[cu,full,half,hm,bO,cond_true]
def Made(P:Program)(ρ:Nat→Int)(w0:W0)(μ:Mu)(G:Key→Option ag)(w:World)(o:Oper)(ev:Operand→Value)(a:AV)(k:Key)(B:ag)(nx':Nat):Prop:=
 ∃ v w' l,(Go.execOp ev o).run P w=.ok (.value v) w'∧μ.le (μ.put k l)∧aP P ρ w0 (μ.put k l) (mz G k (some B)) nx' w'∧aD ρ (μ.put k l) a v
theorem Ii(hM:aP P ρ w0 μ G nx w){k:Key}(hk:μ k=none){nx':Nat}(hn:nx≤nx')(Nq:k.toNat<nx'){L:List AV}{vs:Array Value}(hL:an ρ μ L vs.toList)(elem:TypeId) :
  μ.le (μ.put k ⟨w.heap.size,0,vs.size⟩)∧aP P ρ w0 (μ.put k ⟨w.heap.size,0,vs.size⟩) (mz G k (some (.cells L .fix))) nx' (w.alloc (.cells vs elem)):=by
 have hle:μ.le (μ.put k ⟨w.heap.size,0,vs.size⟩):=Mu.uw (.inl hk)
 exact hM.alloc k (.cells L .fix) (.cells vs elem) vs.size hk (amU (hL.mono hle) _ _) hn Nq
theorem Kg(hM:aP P ρ w0 μ G nx w){o:Oper}{op:F9}(hp:gP P nt o=some op)
  (hE:tM P ρ μ nt o.op.operands.toList tm ev) {f:Key→AV} {B:ag} (hl:allocOp op tm=some (f,B)) {k:Key} (hk:μ k=none) {nx':Nat} (hn:nx≤nx') (Nq:k.toNat<nx') :
  Made P ρ w0 μ G w o ev (f k) k B nx':=by
 obtain⟨dst,tZ,ty,pos,after,guard⟩:=o
 cases tZ with
 |alloc t=>
  simp only[gP] at hp
  split at hp
  ·rename_i ti hti
   obtain⟨i,d,z,hi,hd,hz,Tr,uv,Mk⟩:=jr hti
   cases hp
   simp only[allocOp,cT,Prod.mk.injEq] at hl
   obtain⟨rfl,rfl⟩:=hl
   have hzr:an ρ μ ti.zero.cells z.cells.toList:=(gw rU z ti.zero Tr).cells
   obtain⟨h1,h2⟩:=Ii hM hk hn Nq hzr t
   refine⟨.pointer (some ⟨w.heap.size,0,none⟩),w.alloc (.cells z.cells t),_,?_,h1,h2,.ptr _ _ _ _ (Mu.dG _ _ _) rfl⟩
   simp only[Go.execOp]
   refine cS ?_
   simp[Instr.alloc,mW hi hz,newVar,kq]
  ·cases hp
 |box t x=>
  obtain⟨px,hx,rfl⟩:=map_some hp
  simp only[allocOp] at hl
  split at hl
  ·rename_i u hu
   simp only[cT,Prod.mk.injEq] at hl
   obtain⟨rfl,rfl⟩:=hl
   have hv:=(hE x (by simp[Op.operands]) px u hx hu).cells
   obtain⟨h1,h2⟩:=Ii hM hk hn Nq hv t
   refine⟨.pointer (some ⟨w.heap.size,0,none⟩),w.alloc (.cells (ev x).cells t),_,?_,h1,h2,.ptr _ _ _ _ (Mu.dG _ _ _) rfl⟩
   simp only[Go.execOp]
   refine cS ?_
   simp[Instr.box,newVar,kq]
  ·cases hl
 |buildSlice t len parts=>
  simp only[gP] at hp
  split at hp
  ·rename_i e hu
   split at hp
   ·rename_i ie K5
    obtain⟨i,d,z,hi,hd,hz,Tr,uv,Mk⟩:=jr K5
    replace hp:=aG hp;obtain⟨hc,hp⟩:=hp
    simp only[jj,Nat.ble_eq,bltN_eq,decide_eq_true_eq] at hc
    have hzl:=mU hc.2
    split at hp
    ·rename_i ps hps
     cases hp
     simp only[allocOp] at hl
     split at hl
     ·rename_i cs Im
      simp only[cT,Prod.mk.injEq] at hl
      obtain⟨rfl,rfl⟩:=hl
      have hzr:an ρ μ ie.zero.cells z.cells.toList:=(gw rU z ie.zero Tr).cells
      have hzs:z.cells.size=i.size:=by rw[← uv,← hzl,hzr.length];simp
      have aCm:=RP hzr len
      rw[repL_eq,List.append_nil] at Im
      have ej:∀ y∈parts.toList.map (·.2),y∈(Op.buildSlice t len parts).operands.toList:=by
       intro y hy;simpa[Op.operands] using hy
      obtain⟨vs',hf,hr⟩:=wx (vs:=(Array.range (len*z.cells.size)).map (z.cells[· % z.cells.size]!)) hps Im (hE.sub ej) aCm
      obtain⟨h1,h2⟩:=Ii hM hk hn Nq hr e
      have hvl:vs'.size=len*ie.size:=by
       have hlen:∀ (place:Nat→Option (Nat×Nat)) (l:List (Nat×Value)) (a b:Array Value),Instr.fill place a l=some b→b.size=a.size:=by
        intro place l
        induction l with
        |nil=>intro a b h;simp only[Instr.fill,cT] at h;rw[h]
        |cons x l ih=>
         obtain⟨i,v⟩:=x
         intro a b h
         simp only[Instr.fill] at h
         split at h
         ·cases h
         ·split at h
          ·cases h
          ·rw[ih _ _ h]
           rw[← Array.foldl_toList]
           have hf:∀ (l:List (Value×Nat)) (a:Array Value) (off:Nat),(l.foldl (fun(cs:Array Value) (p:Value×Nat)=>cs.setIfInBounds (off+p.2) p.1) a).size=a.size:=by
            intro l
            induction l with
            |nil=>intros;rfl
            |cons x l ih=>intro a off;rw[List.foldl_cons,ih];simp
           exact hf _ _ _
       rw[hlen _ _ _ _ hf]
       simp[hzs,uv]
      refine⟨.slice (some ⟨w.heap.size,0,none⟩) len len,w.alloc (.cells vs' e),_,?_,h1,h2,?_⟩
      ·simp only[Go.execOp]
       refine cS ?_
       have NT:(parts.map fun(i,x)=>(i,ev x)).toList=parts.toList.map fun(i,x)=>(i,ev x):=by simp
       have hle:¬ (len*i.size>2^24):=by rw[← uv];omega
       simp only[Instr.buildSlice,mA,ah hu,jH,aT hi,if_neg hle]
       by_cases h0:len*i.size=0
       ·have aFZ:len=0:=by
         rcases Nat.mul_eq_zero.1 h0 with h|h
         ·exact h
         ·omega
        subst aFZ
        have:(Array.range (0*z.cells.size)).map (z.cells[· % z.cells.size]!)=#[]:=by simp
        rw[this] at hf
        simp only[h0,if_true,mA,ra,jH]
        rw[NT]
        have e0:(Array.map (fun x=>(#[]:Array Value)[x%(#[]:Array Value).size]!) (Array.range 0))=#[]:=by simp
        rw[e0,← uv,hf]
        simp[kq]
       ·simp only[h0,if_false,mA,mW hi hz,jH,ra]
        rw[NT]
        rw[hzs] at hf
        rw[← uv] at hf ⊢
        rw[hzs,← uv,hf]
        simp[kq]
      ·refine .slice k 0 len ie.size len _ _ (Mu.dG _ _ _) (by simp[hvl]) (fh _) (.inr rfl)
     ·cases hl
    ·cases hp
   ·cases hp
  ·cases hp
 |makeMap t r=>
  cases r with
  |some r=>simp[gP] at hp
  |none=>
   simp only[gP,cT] at hp;subst hp
   simp only[allocOp,cT,Prod.mk.injEq] at hl
   obtain⟨rfl,rfl⟩:=hl
   obtain⟨h1,h2⟩:=hM.alloc k (.map []) (.map #[] 0) 0 hk (.map _ _ _ _ trivial (by simp) rfl) hn Nq
   refine⟨.map (some w.heap.size),w.alloc (.map #[] 0),_,?_,h1,h2,.map _ _ _ (Mu.dG _ _ _) rfl⟩
   simp[Go.execOp,Instr.makeMap]
 |makeSlice t l c=>
  simp only[gP] at hp
  split at hp
  ·rename_i e hu
   split at hp
   ·rename_i ie pl pc K5 rK hpc
    obtain⟨i,d,z,hi,hd,hz,Tr,uv,Mk⟩:=jr K5
    split at hp
    ·rename_i i' Ts
     rw[hi] at Ts;cases Ts
     replace hp:=aG hp;obtain⟨hc,hp⟩:=hp
     simp only[jj,Nat.ble_eq,bltN_eq,decide_eq_true_eq] at hc
     have hzl:=mU hc.1.2
     cases hp
     simp only[allocOp] at hl
     split at hl
     ·rename_i va vc ha K4
      split at hl
      ·rename_i nl nc hnl hnc
       replace hl:=aG hl;obtain⟨hlc,hl⟩:=hl
       simp only[jj,Nat.ble_eq] at hlc
       simp only[cT,Prod.mk.injEq] at hl
       obtain⟨rfl,rfl⟩:=hl
       obtain⟨k1,e1⟩:=gI hnl (hE l (by simp[Op.operands]) pl _ rK ha)
       obtain⟨k2,e2⟩:=gI hnc (hE c (by simp[Op.operands]) pc _ hpc K4)
       have hzr:an ρ μ ie.zero.cells z.cells.toList:=(gw rU z ie.zero Tr).cells
       have hzs:z.cells.size=i.size:=by rw[← uv,← hzl,hzr.length];simp
       have aCm:=RP hzr nc
       rw[repL_eq,List.append_nil]
       obtain⟨h1,h2⟩:=Ii hM hk hn Nq aCm e
       have hwr:∀ n:Nat,n≤1048576→IntKind.i64.wrap (n:Int)=n:=fun n hn=>wrap_small n hn
       refine⟨.slice (some ⟨w.heap.size,0,none⟩) nl nc,w.alloc (.cells ((Array.range (nc*z.cells.size)).map (z.cells[· % z.cells.size]!)) e),_,?_,h1,h2,?_⟩
       ·simp only[Go.execOp]
        refine cS ?_
        have hb:i.bytes*nc≤65536*1048576:=Nat.mul_le_mul hc.2 hlc.2
        have fL:¬ ((i.bytes:Int)*(nc:Int)>2^48):=by
         have:((i.bytes*nc:Nat):Int)≤((65536*1048576:Nat):Int):=by exact_mod_cast hb
         have e:((i.bytes*nc:Nat):Int)=(i.bytes:Int)*(nc:Int):=by simp
         rw[← e]
         omega
        have akr:¬ ((nc:Int)<0):=by omega
        have aF0:¬ ((nl:Int)<0):=by omega
        have Vg:¬ ((nl:Int)>(nc:Int)):=by omega
        simp only[e1,e2,Instr.makeSlice,mA,ah hu,jH,asInt,asIntOf,ra,jG hi,hwr nl (by omega),hwr nc (by omega),decide_eq_false akr,decide_eq_false fL,decide_eq_false aF0,decide_eq_false Vg,Bool.or_self,Ps,if_false,run_askRoom,Int.toNat_natCast,aT hi]
        by_cases h0:nc*i.size=0
        ·have aMq:nc=0:=by
          rcases Nat.mul_eq_zero.1 h0 with h|h
          ·exact h
          ·omega
         subst aMq
         simp only[h0,if_true,mA,ra,jH,kq]
         have e0:(Array.map (fun x=>(#[]:Array Value)[x%(#[]:Array Value).size]!) (Array.range 0))=#[]:=by simp
         have e1:(Array.map (fun x=>z.cells[x%z.cells.size]!) (Array.range (0*z.cells.size)))=#[]:=by simp
         rw[e0,e1]
        ·simp only[h0,if_false,mA,mW hi hz,jH,ra]
         simp[kq,hzs]
       ·refine .slice k 0 nl ie.size nc _ _ (Mu.dG _ _ _) ?_ (by omega) (.inr rfl)
        simp[hzs,uv]
      ·cases hl
     ·cases hl
    ·cases hp
   ·cases hp
  ·cases hp
 |move x=>obtain⟨px,hx,rfl⟩:=map_some hp;simp[allocOp] at hl
 |assign x=>obtain⟨px,hx,rfl⟩:=map_some hp;simp[allocOp] at hl
 |nilCheck x=>obtain⟨px,hx,rfl⟩:=map_some hp;simp[allocOp] at hl
 |unOp uop t x=>obtain⟨px,hx,rfl⟩:=map_some hp;simp[allocOp] at hl
 |panic x=>obtain⟨px,hx,rfl⟩:=map_some hp;simp[allocOp] at hl
 |makeFunc fn first cap=>
  exfalso
  cases fn<;>simp only[gP] at hp
  all_goals repeat' (first|(cases hp;done)|split at hp)
  all_goals (cases hp;simp[allocOp] at hl;done)
 |slice t x lo hi mx=>
  exfalso
  cases mx<;>simp only[gP] at hp
  all_goals repeat' (first|(cases hp;done)|(replace hp:=aG hp;replace hp:=hp.2)|split at hp)
  all_goals (cases hp;simp[allocOp] at hl;done)
 |range t x=>
  exfalso
  simp only[gP] at hp
  split at hp
  ·obtain⟨px,hx,rfl⟩:=map_some hp;simp[allocOp] at hl
  ·cases hp
 |next it s=>
  exfalso
  cases s
  ·obtain⟨px,hx,rfl⟩:=map_some hp;simp[allocOp] at hl
  ·simp[gP] at hp
 |_=>
  exfalso
  simp only[gP] at hp
  repeat' (first|(cases hp;done)|(replace hp:=aG hp;replace hp:=hp.2)|(replace hp:=Rt hp;replace hp:=hp.2)|split at hp)
  all_goals first
   |(cases hp;simp[allocOp] at hl;done)
   |(obtain⟨px,hx,rfl⟩:=map_some hp;simp[allocOp] at hl;done)
   |skip
end
end Go.Sx
/-
 SX: operations that write: a store, a map's entry. No condition.
-/
namespace Go.Sx
open Go.RowKit
section
variable{P:Program}{ρ:Nat→Int}{w0:W0}{w:World}{μ:Mu}{G:Key→Option ag}{nx:Key}{orc:hU}{nt:Nat}{tm:T AV}{H:T ag}{ev:Operand→Value}
def Next.rel(ρ:Nat→Int)(μ:Mu)(a:AV):Next→Prop
 |.value v=>aD ρ μ a v
 |.skip=>a=.tuple []
 |_=>False
structure Kept(H H':T ag)(nx nx':Key)(μ μ':Mu)(G G':Key→Option ag):Prop where
 g:∀ b,aa b H=none→b.toNat<nx.toNat→G' b=G b
 m:∀ b,b.toNat<nx.toNat→μ' b=μ b
 h:∀ b,aa b H=none→b.toNat<nx.toNat→aa b H'=none
 n:nx.toNat≤nx'.toNat
theorem Kept.refl(H:T ag)(nx:Key)(μ:Mu)(G:Key→Option ag):Kept H H nx nx μ μ G G:=⟨fun _ _ _=>rfl,fun _ _=>rfl,fun _ h _=>h,fh _⟩
theorem Kept.trans{H1 H2 H3:T ag}{n1 n2 n3:Key}{m1 m2 m3:Mu}{G1 G2 G3:Key→Option ag}(a:Kept H1 H2 n1 n2 m1 m2 G1 G2)(b:Kept H2 H3 n2 n3 m2 m3 G2 G3):Kept H1 H3 n1 n3 m1 m3 G1 G3:=
 ⟨fun k hk hl=>(b.g k (a.h k hk hl) (JJ hl a.n)).trans (a.g k hk hl),fun k hl=>(b.m k (JJ hl a.n)).trans (a.m k hl),
  fun k hk hl=>b.h k (a.h k hk hl) (JJ hl a.n),Nat.le_trans a.n b.n⟩
def BF(P:Program)(ρ:Nat→Int)(w0:W0)(μ:Mu)(G:Key→Option ag)(H:T ag)(nx:Key)(w:World)(s:Sem Next)(a:AV)(H':T ag)(nx':Key):Prop:=
 ∃ n w' μ' G',s.run P w=.ok n w'∧Next.rel ρ μ' a n∧μ.le μ'∧aP P ρ w0 μ' G' nx'.toNat w'∧HSub H' G'∧Kept H H' nx nx' μ μ' G G'
theorem aP.nE(hM:aP P ρ w0 μ G nx.toNat w):μ nx=none:=by
 cases h:μ nx with
 |none=>rfl
 |some l=>exact absurd (hM.new nx l h) (Nat.lt_irrefl _)
theorem akR{s:Sem Next}{v:Value}{a:AV}(hM:aP P ρ w0 μ G nx.toNat w)(hH:HSub H G)(h:s.run P w=.ok (.value v) w)(hr:aD ρ μ a v):BF P ρ w0 μ G H nx w s a H nx:=
 ⟨_,w,μ,G,h,hr,μ.le_refl,hM,hH,Kept.refl _ _ _ _⟩
theorem aos{f:Key→AV}{B:ag}{a:AV}{H':T ag}{nx':Key}(h:newB f B H nx=.val a H' nx'):a=f nx∧H'=au nx (some B) H∧nx'=nx.succ:=by
 simp only[newB,sTCe,OR.val.injEq] at h
 exact⟨h.1.symm,h.2.1.symm,h.2.2.symm⟩
theorem ne_of_lt{b:Key}(h:b.toNat<nx.toNat):b≠nx:=by intro e;subst e;exact absurd h (Nat.lt_irrefl _)
theorem xQ(l:Loc)(B B':Option ag):Kept H (au nx B' H) nx nx.succ μ (μ.put nx l) G (mz G nx B):=by
 have hs:=kTSu nx
 exact⟨fun b _ hl=>cj _ _ (ne_of_lt hl),fun b hl=>cj _ _ (ne_of_lt hl),fun b hb hl=>by rw[bG _ _ _ _ (ne_of_lt hl)];exact hb,by omega⟩
theorem akS(hM:aP P ρ w0 μ G nx.toNat w)(hH:HSub H G){o:Oper}{op:F9}(hp:gP P nt o=some op)(hE:tM P ρ μ nt o.op.operands.toList tm ev)
  {f:Key→AV} {B:ag} (hl:allocOp op tm=some (f,B)):BF P ρ w0 μ G H nx w (Go.execOp ev o) (f nx) (au nx (some B) H) nx.succ:=by
 have hs:=kTSu nx
 obtain⟨v,w',l,h1,h2,h3,h4⟩:=Kg hM hp hE hl (hM.nE) (nx':=nx.succ.toNat) (by omega) (by omega)
 exact⟨.value v,w',_,_,h1,h4,h2,h3,hH.set nx (some B),xQ _ _ _⟩
theorem anp(hM:aP P ρ w0 μ G nx.toNat w){b:Key}{L:List AV}{ck:CK}(hb:G b=some (.cells L ck))(Gu:ck≠.ro){l:Loc}(hl:μ b=some l){off:Nat}{vs:List AV}{us:List Value}
  (hv:an ρ μ vs us) (Hx:∀ u∈us,u.oneCell'=true) (hle:off+vs.length≤L.length) :
  ∃ w',(storeCells ⟨l.c,l.base+off,none⟩ us).run P w=.ok () w'∧μ.le (μ.put b l)∧aP P ρ w0 (μ.put b l) (mz G b (some (.cells (L.take off++vs++L.drop (off+vs.length)) ck))) nx.toNat w':=by
 obtain⟨l',arr,elem,fz,h1,h2,hc,hs,hlen,hf,he⟩:=hM.cells hb
 rw[hl] at h1;cases h1
 have LX:=hf Gu
 subst LX
 have hvl:=hv.length
 obtain⟨w',e1,e2,e3,e4⟩:=nG P l.c (l.base+off) elem us 0 w arr h2 (by omega) Hx
 have oU:w0.heap.size≤l.c:=(hM.own b _ l hb hl).resolve_left (by cases ck<;>simp[ag.ro] at Gu ⊢)
 have DF:μ.le (μ.put b l):=Mu.uw (.inr hl)
 have ta:(ag.cells L ck).lo l=some 0:=by cases ck<;>first|rfl|exact absurd rfl Gu
 refine⟨w',e1,hM.put b _ l _ (.inr hl) e2 e4 ?_ (fun b' B' l' g m ne=>hM.sep b' b B' _ l' l g hb m hl ne) oU (fh _) (hM.new b l hl) (hM.lo0 hb hl ta)⟩
 refine .cells _ ck l _ elem (0,0) ?_ (by rw[me];exact hs) (by simp;omega) (fun _=>rfl) (fun hk=>by have:=he hk;simp;omega)
 intro i a ha
 rw[iR us arr _ _ (by omega)]
 by_cases h1:i<off
 ·rw[if_neg (by omega)]
  rw[List.append_assoc,List.getElem?_append_left (by simp;omega),List.getElem?_take_of_lt h1] at ha
  obtain⟨v,Sd,hr⟩:=hc i a ha
  exact⟨v,Sd,hr.mono DF⟩
 ·by_cases h2:i<off+vs.length
  ·rw[if_pos (by omega)]
   rw[List.append_assoc,List.getElem?_append_right (by simp;omega),List.getElem?_append_left (by simp;omega)] at ha
   have e:i-(L.take off).length=i-off:=by simp;omega
   rw[e] at ha
   obtain⟨v,Sd,hr⟩:=hv.get _ a ha
   refine⟨v,?_,hr.mono DF⟩
   rw[← Sd]
   congr 1
   omega
  ·rw[if_neg (by omega)]
   rw[List.getElem?_append_right (by simp;omega),List.getElem?_drop] at ha
   have e:off+vs.length+(i-(L.take off++vs).length)=i:=by simp;omega
   rw[e] at ha
   obtain⟨v,Sd,hr⟩:=hc i a ha
   exact⟨v,Sd,hr.mono DF⟩
theorem Fp{vs:List AV}{us:List Value}(hv:an ρ μ vs us)(h:vs.all AV.aN=true):∀ u∈us,u.oneCell'=true:=by
 induction vs generalizing us with
 |nil=>cases hv;simp
 |cons a vs ih=>
  cases hv with|cons _ _ u us h1 h2=>
  simp only[List.all_cons,jj] at h
  intro x hx
  cases hx with
  |head=>
   have:=h1.awp h.1
   cases u<;>simp_all [Value.oneCell']
  |tail _ hx=>exact ih h2 h.2 x hx
theorem mV{b:Key}{B:ag}(hb:aa b H=some B){l:Loc}(hl:μ b=some l)(x y:Option ag):Kept H (au b y H) nx nx μ (μ.put b l) G (mz G b x):=by
 have ne:∀ b',aa b' H=none→b'≠b:=by intro b' h e;subst e;rw[hb] at h;cases h
 refine⟨fun b' h _=>cj _ _ (ne b' h),fun b' _=>?_,fun b' h _=>by rw[bG _ _ _ _ (ne b' h)];exact h,fh _⟩
 by_cases h:b'=b
 ·subst h;rw[Mu.dG,hl]
 ·exact Mu.pI _ _ h
def L3(P:Program)(kt:TypeId):Prop:=(∃ fs,P.underlying kt=some (.struct fs))∨∃ n e,P.underlying kt=some (.array n e)
def Shape(P:Program)(nt:Nat)(tZ:Op):F9→Prop
 |.store n pa pv=>∃ t x v i,tZ=.store t x v∧P.info? t=some i∧n=i.size∧pX P nt x=some pa∧pX P nt v=some pv
 |.mapupd sk pm pk pv=>∃ t m k v kt e kd,(tZ=.mapUpdate t m k v∨tZ=.insert t m k v)∧P.underlying t=some (.map kt e)∧zO P kt sk kd∧pX P nt m=some pm∧pX P nt k=some pk∧pX P nt v=some pv
 |.mapupdP p pm pk pv=>∃ t m k v kt e,(tZ=.mapUpdate t m k v∨tZ=.insert t m k v)∧P.underlying t=some (.map kt e)∧L3 P kt∧QF P 100 kt=some p∧pX P nt m=some pm∧pX P nt k=some pk∧pX P nt v=some pv
 |.delP p pm pk=>∃ c t tl m k kt e,tZ=.call c∧c.callee=.builtin .delete∧c.args=#[m,k]∧c.argTypes.toList=t ::tl∧P.underlying t=some (.map kt e)∧L3 P kt∧QF P 100 kt=some p∧pX P nt m=some pm∧pX P nt k=some pk
 |.rangeM px=>∃ t x kt e,tZ=.range t x∧P.underlying t=some (.map kt e)∧pX P nt x=some px
 |.nextM px=>∃ x,tZ=.next x false∧pX P nt x=some px
 |.strb px=>∃ src dst x e,tZ=.convert src dst x∧P.underlying src=some .string∧P.underlying dst=some (.slice e)∧P.underlying e=some (.int .u8)∧pX P nt x=some px
 |.append sz ps px=>∃ c s x t u e i ie,tZ=.call c∧c.callee=.builtin .append∧c.args=#[s,x]∧c.argTypes=#[t,u]∧P.underlying t=some (.slice e)∧((∃ e',P.underlying u=some (.slice e'))∨P.underlying u=some .string)∧
   tyI P e=some ie∧P.info? e=some i∧sz=ie.size∧0<ie.size∧ie.zero.cells.length=ie.size∧i.bytes≤65536∧pX P nt s=some ps∧pX P nt x=some px
 | .callF f l => ∃ c fn, tZ = .call c ∧ c.callee = .value (.func f) ∧ L7 P nt c.args.toList = some l ∧ P.funcs[f]? = some fn ∧ fn.body.isSome = true ∧ fn.name ≠ "runtime.NumGoroutine"
 |.callV v l=>∃ c x,tZ=.call c∧c.callee=.value x∧pX P nt x=some v∧L7 P nt c.args.toList=some l
 |.dfr v l=>∃ c x,tZ=.defer c∧c.callee=.value x∧pX P nt x=some v∧L7 P nt c.args.toList=some l
 |.panic px=>∃ x,tZ=.panic x∧pX P nt x=some px
 |.recover=>∃ c,tZ=.call c∧c.callee=.builtin .recover∧c.args=#[]
 |_=>True
theorem axB{xs:List Operand}(h:L7 P nt xs=some []):xs=[]:=by
 cases xs with
 |nil=>rfl
 |cons x xs=>simp only[L7] at h;split at h<;>cases h
theorem eN{o:Oper}{op:F9}(hp:gP P nt o=some op):Shape P nt o.op op:=by
 obtain⟨dst,tZ,ty,pos,after,guard⟩:=o
 cases tZ with
 |move x=>obtain⟨px,hx,rfl⟩:=map_some hp;trivial
 |assign x=>obtain⟨px,hx,rfl⟩:=map_some hp;trivial
 |nilCheck x=>obtain⟨px,hx,rfl⟩:=map_some hp;trivial
 |unOp uop t x=>obtain⟨px,hx,rfl⟩:=map_some hp;trivial
 |box t x=>obtain⟨px,hx,rfl⟩:=map_some hp;trivial
 |panic x=>obtain⟨px,hx,rfl⟩:=map_some hp;exact⟨x,rfl,hx⟩
 |makeMap t r=>cases r<;>simp only[gP,cT] at hp<;>first|(cases hp;done)|(subst hp;trivial)
 |makeFunc fn first cap=>
  cases fn<;>simp only[gP] at hp
  all_goals repeat' (first|(cases hp;done)|split at hp)
  all_goals (cases hp;trivial)
 |slice t x lo hi mx=>
  cases mx<;>simp only[gP] at hp
  all_goals repeat' (first|(cases hp;done)|(replace hp:=aG hp;replace hp:=hp.2)|split at hp)
  all_goals (cases hp;trivial)
 |makeInterface t x=>
  simp only[gP] at hp
  split at hp
  ·cases hp
  ·cases hp
  ·obtain⟨px,hx,rfl⟩:=map_some hp;trivial
 |store t x v=>
  simp only[gP] at hp
  split at hp
  ·rename_i i px pv' h1 h2 h3
   simp only[cT] at hp
   subst hp
   exact⟨t,x,v,i,rfl,h1,rfl,h2,h3⟩
  ·cases hp
 |mapUpdate t m k v=>
  simp only[gP] at hp
  split at hp
  ·rename_i kt e hu
   split at hp
   ·cases hp;exact⟨t,m,k,v,kt,e,_,.inl rfl,hu,⟨‹_›,by simp⟩,‹_›,‹_›,‹_›⟩
   ·cases hp;exact⟨t,m,k,v,kt,e,_,.inl rfl,hu,⟨‹_›,by simp⟩,‹_›,‹_›,‹_›⟩
   ·split at hp
    ·cases hp;exact⟨t,m,k,v,kt,e,.inl rfl,hu,.inl ⟨_,‹_›⟩,‹_›,‹_›,‹_›,‹_›⟩
    ·cases hp
   ·split at hp
    ·cases hp;exact⟨t,m,k,v,kt,e,.inl rfl,hu,.inr ⟨_,_,‹_›⟩,‹_›,‹_›,‹_›,‹_›⟩
    ·cases hp
   ·cases hp
  ·cases hp
 |insert t m k v=>
  simp only[gP] at hp
  split at hp
  ·rename_i kt e hu
   split at hp
   ·cases hp;exact⟨t,m,k,v,kt,e,_,.inr rfl,hu,⟨‹_›,by simp⟩,‹_›,‹_›,‹_›⟩
   ·cases hp;exact⟨t,m,k,v,kt,e,_,.inr rfl,hu,⟨‹_›,by simp⟩,‹_›,‹_›,‹_›⟩
   ·split at hp
    ·cases hp;exact⟨t,m,k,v,kt,e,.inr rfl,hu,.inl ⟨_,‹_›⟩,‹_›,‹_›,‹_›,‹_›⟩
    ·cases hp
   ·split at hp
    ·cases hp;exact⟨t,m,k,v,kt,e,.inr rfl,hu,.inr ⟨_,_,‹_›⟩,‹_›,‹_›,‹_›,‹_›⟩
    ·cases hp
   ·cases hp
  ·cases hp
 |defer c=>
  simp only[gP] at hp
  split at hp
  ·rename_i x hc
   split at hp
   ·cases hp;exact⟨c,x,rfl,hc,‹_›,‹_›⟩
   ·cases hp
  ·cases hp
 |call c=>
  simp only[gP] at hp
  split at hp
  ·rename_i f hc
   split at hp
   ·rename_i l fn h1 h2
    replace hp:=aG hp;obtain⟨hb,hp⟩:=hp
    cases hp
    simp only[jj,Bool.not_eq_true',beq_eq_false_iff_ne] at hb
    exact⟨c,fn,rfl,hc,h1,h2,hb.1,hb.2⟩
   ·cases hp
  ·rename_i x bU hc
   split at hp
   ·cases hp;exact⟨c,x,rfl,hc,‹_›,‹_›⟩
   ·cases hp
  ·cases hp
  ·rename_i b hc
   split at hp
   ·split at hp
    ·split at hp
     all_goals first|(cases hp;done)|(cases hp;trivial)
    ·cases hp
   ·rename_i ps px cG
    obtain⟨s,x,e1,h1,h2⟩:=Tp cG
    have KY:c.args=#[s,x]:=by apply Array.ext';simpa using e1
    split at hp
    ·rename_i t u hty
     have axu:c.argTypes=#[t,u]:=by apply Array.ext';simpa using hty
     split at hp
     ·rename_i e e' hu hu'
      split at hp
      ·rename_i ie i K5 hi
       replace hp:=aG hp;obtain⟨hb,hp⟩:=hp
       cases hp
       simp only[jj,Nat.ble_eq,bltN_eq,decide_eq_true_eq] at hb
       exact⟨c,s,x,t,u,e,i,ie,rfl,hc,KY,axu,hu,.inl ⟨_,hu'⟩,K5,hi,rfl,hb.1.1,mU hb.1.2,hb.2,h1,h2⟩
      ·cases hp
     ·rename_i e hu hu'
      split at hp
      ·rename_i ie i K5 hi
       replace hp:=aG hp;obtain⟨hb,hp⟩:=hp
       cases hp
       simp only[jj,Nat.ble_eq,bltN_eq,decide_eq_true_eq] at hb
       exact⟨c,s,x,t,u,e,i,ie,rfl,hc,KY,axu,hu,.inr hu',K5,hi,rfl,hb.1.1,mU hb.1.2,hb.2,h1,h2⟩
      ·cases hp
     ·cases hp
    ·cases hp
   ·cases hp;trivial
   ·cases hp;trivial
   ·rename_i cG
    cases hp
    exact⟨c,rfl,hc,by apply Array.ext';simpa using axB cG⟩
   ·rename_i pm pk cG
    obtain⟨m,k,e1,h1,h2⟩:=Tp cG
    have KY:c.args=#[m,k]:=by apply Array.ext';simpa using e1
    split at hp
    ·rename_i t tl hty
     split at hp
     ·rename_i kt e hu
      split at hp
      ·cases hp;exact⟨c,t,tl,m,k,kt,e,rfl,hc,KY,hty,hu,.inl ⟨_,‹_›⟩,‹_›,h1,h2⟩
      ·cases hp;exact⟨c,t,tl,m,k,kt,e,rfl,hc,KY,hty,hu,.inr ⟨_,_,‹_›⟩,‹_›,h1,h2⟩
      ·cases hp
     ·cases hp
    ·cases hp
   ·cases hp
 |range t x=>
  simp only[gP] at hp
  split at hp
  ·obtain⟨px,hx,rfl⟩:=map_some hp;exact⟨t,x,_,_,rfl,‹_›,hx⟩
  ·cases hp
 |next x s=>
  cases s
  ·obtain⟨px,hx,rfl⟩:=map_some hp;exact⟨x,rfl,hx⟩
  ·cases hp
 |entry x=>obtain⟨px,hx,rfl⟩:=map_some hp;trivial
 |convert src aLr x=>
  simp only[gP] at hp
  split at hp
  ·cases hp;trivial
  ·cases hp;trivial
  ·split at hp
   ·cases hp;trivial
   ·cases hp
  ·split at hp
   ·cases hp;exact⟨src,aLr,x,_,rfl,‹_›,‹_›,‹_›,‹_›⟩
   ·cases hp
  ·cases hp
 |_=>
  simp only[gP] at hp
  repeat' (first|(cases hp;done)|(replace hp:=aG hp;replace hp:=hp.2)|(replace hp:=Rt hp;replace hp:=hp.2)|split at hp)
  all_goals (cases hp;trivial)
theorem Ws(hM:aP P ρ w0 μ G nx.toNat w)(hH:HSub H G){o:Oper}{n:Nat}{pa pv:PX}(hp:gP P nt o=some (.store n pa pv))(hE:tM P ρ μ nt o.op.operands.toList tm ev)
  {a:AV} {H':T ag} {nx':Key} (h:aOp orc (.store n pa pv) tm H nx=.val a H' nx'):BF P ρ w0 μ G H nx w (Go.execOp ev o) a H' nx':=by
 obtain⟨dst,tZ,ty,pos,after,guard⟩:=o
 obtain⟨t,x,v,i,e0,hi,rfl,hx,hv⟩:=eN hp
 simp only at e0
 subst e0
 simp only[aOp] at h
 split at h
 ·rename_i b off u hpa hpv
  cases hc:(Nat.beq (lenL u.cells) i.size&&u.cells.all AV.aN) with
  |false=>rw[hc] at h;cases h
  |true=>
   rw[hc] at h
   simp only[cond_true] at h
   simp only[jj] at hc
   have uv:=mU hc.1
   rw[lenL_eq] at uv
   have hrv:=hE v (by simp[Op.operands]) pv u hv hpv
   have hra:=hE x (by simp[Op.operands]) pa _ hx hpa
   have main:∀ (L:List AV) (ck:CK),aa b H=some (.cells L ck)→ck≠.ro→
     U6 u.cells off L (OR.bad 4) (fun l=>sY b (some (.cells l ck)) H fun h=>.val (.tuple []) h nx)=.val a H' nx'→BF P ρ w0 μ G H nx w (Go.execOp ev ⟨dst,.store t x v,ty,pos,after,guard⟩) a H' nx':=by
    intro L ck hL Gu h
    rw[putC_eq] at h
    split at h
    ·rename_i hle
     rw[sTCe] at h
     simp only[OR.val.injEq] at h
     obtain⟨rfl,rfl,rfl⟩:=h
     generalize iL:ev x=xx at hra
     cases hra with|ptr _ _ l ad hm lU=>
     subst lU
     obtain⟨w',e1,e2,e3⟩:=anp hM (hH _ _ hL) Gu hm hrv.cells (Fp hrv.cells hc.2) hle
     refine⟨.skip,w',_,_,?_,rfl,e2,e3,hH.set b _,mV hL hm _ _⟩
     have Nt:(ev v).cells.size=i.size:=by rw[← uv,hrv.cells.length];simp
     simp[Go.execOp,iL,Instr.storeAt,Instr.sureAddr,storeVar,aT hi,Nt,e1]
    ·cases h
   split at h
   ·cases h
   ·rename_i L ck bU hL
    exact main L ck hL (fun e=>bU e) h
   ·cases h
 ·cases h
end
end Go.Sx
/-
 SX: a map's entry, append. No condition.
-/
namespace Go.Sx
open Go.RowKit
section
variable{P:Program}{ρ:Nat→Int}{w0:W0}{w:World}{μ:Mu}{G:Key→Option ag}{nx:Key}{orc:hU}{nt:Nat}{tm:T AV}{H:T ag}{ev:Operand→Value}
theorem Ox(ho:dq ρ orc){kt:TypeId}{kd:TypeDesc}{sk:Bool}(hu:zO P kt sk kd){k u:AV}{x v:Value}(hx:aD ρ μ k x)(hv:aD ρ μ u v) :
  ∀ {l r:List (AV×AV)} {es:List MapEntry} (i:Nat),lL ρ μ l es→setK orc sk k u l=some r→
   (Instr.findNow kd x es i=some none∧∀ b,lL ρ μ r (es ++ [⟨x,v,b⟩]))∨
   (∃ j e,Instr.findNow kd x es i=some (some (i+j,e.val))∧es[j]?=some e∧Instr.sameNow kd x e.key=some true∧lL ρ μ r (es.set j {e with key:=x,val:=v}))
 | [],r,[],i,hp,h=>by
  simp only[setK,cT] at h;subst h
  exact .inl ⟨rfl,fun b=>⟨hx,hv,trivial⟩⟩
 | [],_,_ ::_,i,hp,h=>hp.elim
 |(_,_) ::_,_,[],i,hp,h=>hp.elim
 |(a,c) ::l,r,e ::es,i,hp,h=>by
  obtain⟨h1,h2,h3⟩:=hp
  simp only[setK] at h
  split at h
  ·rename_i hk
   cases h
   have hs:=wD ho hu hx h1 hk
   exact .inr ⟨0,e,by simp[Instr.findNow,hs],by simp,hs,⟨hx,hv,h3⟩⟩
  ·rename_i hk
   have hs:=wD ho hu hx h1 hk
   split at h
   ·rename_i r' hr'
    cases h
    rcases Ox ho hu hx hv (i+1) h3 hr' with⟨f,g⟩|⟨j,e',f,g1,g2,g3⟩
    ·exact .inl ⟨by simp[Instr.findNow,hs,f],fun b=>⟨h1,h2,g b⟩⟩
    ·refine .inr ⟨j+1,e',?_,by simpa using g1,g2,?_⟩
     ·simp[Instr.findNow,hs,f];omega
     ·simp only[List.set_cons_succ];exact⟨h1,h2,g3⟩
   ·cases h
  ·cases h
theorem ajm{kt:TypeId}{kd:TypeDesc}{sk:Bool}(hu:zO P kt sk kd){x y:Value}(h:Instr.sameNow kd x y=some true):Instr.sameBits 10000 y x=true:=by
 obtain⟨_,hk⟩:=hu
 cases sk with
 |true=>
  have:kd=.string:=by simpa using hk
  subst this
  cases x<;>cases y<;>simp only[Instr.sameNow,cT] at h<;>first|(cases h;done)|skip
  rw[beq_toListBytes] at h
  have h:=eq_of_beq h
  simp[Instr.sameBits,beq_toListBytes,h]
 |false=>
  obtain⟨k,rfl⟩:∃ k,kd=.int k:=by simpa using hk
  cases x<;>cases y<;>simp[Instr.sameNow] at h
  obtain⟨rfl,rfl⟩:=h
  simp[Instr.sameBits]
theorem RL{es:Array MapEntry}{x:MapEntry}(h:∀ (i:Nat) (e:MapEntry),es.toList[i]?=some e→e.born=i)(hx:x.born=es.toList.length):∀ (i:Nat) (e:MapEntry),(es.push x).toList[i]?=some e→e.born=i:=by
 intro i e he
 simp only[Array.toList_push] at he
 rcases Nat.lt_trichotomy i es.toList.length with h'|h'|h'
 ·rw[List.getElem?_append_left h'] at he;exact h i e he
 ·subst h';simp at he;subst he;exact hx
 ·rw[zqo (by simp at h' ⊢;omega)] at he;cases he
theorem ajn{es:List MapEntry}{j:Nat}{x y:MapEntry}(h:∀ (i:Nat) (e:MapEntry),es[i]?=some e→e.born=i)(hj:es[j]?=some x)(hy:y.born=x.born):∀ (i:Nat) (e:MapEntry),(es.set j y)[i]?=some e→e.born=i:=by
 intro i e he
 by_cases hij:j=i
 ·subst hij
  have hl:j<es.length:=by
   rcases Dr j es.length with h'|h'
   ·exact h'
   ·rw[zqo h'] at hj;cases hj
  rw[List.getElem?_set_self hl] at he
  cases he
  rw[hy];exact h j x hj
 ·rw[List.getElem?_set_ne hij] at he;exact h i e he
theorem T1(hM:aP P ρ w0 μ G nx.toNat w)(hH:HSub H G)(ho:dq ρ orc){o:Oper}{sk:Bool}{pm pk pv:PX}(hp:gP P nt o=some (.mapupd sk pm pk pv))(hE:tM P ρ μ nt o.op.operands.toList tm ev)
  {a:AV} {H':T ag} {nx':Key} (h:aOp orc (.mapupd sk pm pk pv) tm H nx=.val a H' nx'):BF P ρ w0 μ G H nx w (Go.execOp ev o) a H' nx':=by
 obtain⟨dst,tZ,ty,pos,after,guard⟩:=o
 obtain⟨t,m,k,v,kt,e,kd,e0,hu,rq,hm,hk,hv⟩:=eN hp
 simp only at e0
 have hex:Go.execOp ev ⟨dst,tZ,ty,pos,after,guard⟩=(do Instr.mapUpdate t (ev m) (ev k) (ev v);pure .skip):=by
  rcases e0 with e0|e0<;>subst e0<;>rfl
 have ej:m∈tZ.operands.toList∧k∈tZ.operands.toList∧v∈tZ.operands.toList:=by
  rcases e0 with e0|e0<;>subst e0<;>simp[Op.operands]
 simp only[aOp] at h
 split at h
 ·rename_i b ka va hb hka hva
  split at h
  ·rename_i L hL
   split at h
   ·rename_i L' hL'
    rw[sTCe] at h
    simp only[OR.val.injEq] at h
    obtain⟨rfl,rfl,rfl⟩:=h
    have hrm:=hE m ej.1 pm _ hm hb
    have hrk:=hE k ej.2.1 pk _ hk hka
    have hrv:=hE v ej.2.2 pv _ hv hva
    generalize Pg:ev m=mm at hrm
    cases hrm with|map _ l r iP hr=>
    subst hr
    have hg:=hH _ _ hL
    obtain⟨l',o',h1,h2,h3⟩:=hM.oR b _ hg
    rw[iP] at h1;cases h1
    cases h3 with|map _ _ es clock dM CM Tq=>
    have nv:(getObj l.c).run P w=.ok (.map es clock) w:=by simp[getObj,Sem.run,h2]
    have Kr:∀ o2,(setObj l.c o2).run P w=.ok () {w with heap:=w.heap.setIfInBounds l.c o2}:=by
     intro o2;simp[setObj,Sem.run,h2]
    have Im:l.c<w.heap.size:=hM.wR b l iP
    have oU:w0.heap.size≤l.c:=(hM.own b _ l hg iP).resolve_left (by simp[ag.ro])
    have DF:μ.le (μ.put b l):=Mu.uw (.inr iP)
    have fin:∀ (T3:Array MapEntry) (vm:Nat),lL ρ μ L' T3.toList→(∀ (i:Nat) (e:MapEntry),T3.toList[i]?=some e→e.born=i)→vm=L'.length→(Instr.mapUpdate t (ev m) (ev k) (ev v)).run P w=.ok () {w with heap:=w.heap.setIfInBounds l.c (.map T3 vm)}→
      BF P ρ w0 μ G H nx w (Go.execOp ev ⟨dst,tZ,ty,pos,after,guard⟩) (.tuple []) (au b (some (.map L')) H) nx:=by
     intro T3 vm HL fL Hr dP
     obtain⟨g1,g2⟩:=hM.put (w':={w with heap:=w.heap.setIfInBounds l.c (.map T3 vm)}) b (.map L') l (.map T3 vm) (.inr iP)
      ⟨rfl,rfl,rfl,by simp,fun j hj _=>by show(w.heap.setIfInBounds l.c _)[j]?=_;rw[zqn (Ne.symm hj)],fh _⟩
      (by show(w.heap.setIfInBounds l.c _)[l.c]?=_;simp[Im]) (.map _ _ _ _ (HL.mono DF) fL Hr) (fun b' B' l' g m' ne=>hM.sep b' b B' _ l' l g hg m' iP ne) oU (fh _) (hM.new b l iP) (hM.lo0 hg iP rfl)
     refine⟨.skip,_,_,_,?_,rfl,g1,g2,hH.set b _,mV hL iP _ _⟩
     rw[hex]
     simp[dP]
    rcases Ox ho rq hrk hrv 0 dM hL' with⟨f,g⟩|⟨j,e1,f,g1,g2,g3⟩
    ·have hlen:=dM.length
     have Fq:=(g clock).length
     refine fin (es.push {key:=ev k,val:=ev v,born:=clock}) (clock+1) (by simpa using g clock) (RL CM (by rw[Tq,hlen])) (by simp at Fq hlen ⊢;omega) ?_
     simp[Pg,Instr.mapUpdate,ah hu,nv,run_checkKey rq _ 9999,run_findKey rq.1 f,Kr]
    ·have qL:es[j]?=some e1:=by simpa using g1
     have bz:j<es.size:=by
      rcases Dr j es.size with h'|h'
      ·exact h'
      ·rw[Uv h'] at qL;cases qL
     have hlen:=dM.length
     have Fq:=g3.length
     have UA:(es.modify j fun e=>{e with key:=ev k,val:=ev v}).toList=es.toList.set j {e1 with key:=ev k,val:=ev v}:=by
      apply List.ext_getElem?
      intro q
      rw[Array.getElem?_toList,Array.getElem?_modify]
      by_cases hq:j=q
      ·subst hq;rw[if_pos rfl,qL,List.getElem?_set_self (by simpa using bz)];rfl
      ·rw[if_neg hq,List.getElem?_set_ne hq];simp
     refine fin (es.modify j fun e=>{e with key:=ev k,val:=ev v}) clock ?_ (by rw[UA];exact ajn CM g1 rfl) (by simp at Fq hlen ⊢;omega) ?_
     ·have:(es.modify j fun e=>{e with key:=ev k,val:=ev v}).toList=es.toList.set j {e1 with key:=ev k,val:=ev v}:=by
       apply List.ext_getElem?
       intro q
       rw[Array.getElem?_toList,Array.getElem?_modify]
       by_cases hq:j=q
       ·subst hq;rw[if_pos rfl,qL,List.getElem?_set_self (by simpa using bz)];rfl
       ·rw[if_neg hq,List.getElem?_set_ne hq];simp
      rw[this];exact g3
     ·have hf:=run_findKey (w:=w) rq.1 f
      have hs:=ajm rq g2
      simp[Pg,Instr.mapUpdate,ah hu,nv,run_checkKey rq _ 9999,hf,Kr,Instr.keyThatStays,qL,hs]
   ·cases h
  ·cases h
 ·cases h
end
end Go.Sx
