/- A part of the proof. No condition. -/
import Derived.Test.YtecbfpngkfdkoaaGreatP6
set_option linter.unusedSimpArgs false
set_option linter.unusedVariables false
set_option linter.unusedSectionVars false
namespace Go.Sx
open Go.RowKit
section
variable{P:Program}{ρ:Nat→Int}{C:dm}{nt:Nat}{w0:W0}{w:World}{μ0 μ:Mu}{G:Key→Option ah}{H:T ah}{nx:Key}{rest cs:List Frame}{fr:Frame}{af:kU}{hN:List kU}{K:List Item}{k:List dn}
theorem asr(X:Ctx P ρ w0 C)(h0:μ0.le μ)(hM:aP P ρ w0 μ G nx.toNat w)(hH:HSub H G)(hb:wV P ρ μ nt af fr)(h1:af.mode=.run)(hm:fr.mode=.run)
  (hTd:TN P ρ C.orc μ G H nx nt af.todo af.tm fr.todo fr.tmps) (hS:cT P ρ C.orc μ G H nx hN cs) (hn:(bk (af ::hN)).Nodup) :
  Good P ρ C w0 μ0 rest (lone fr (cs++rest) w) (cb C af hN H nx):=by
 generalize EP:af.todo=AK at hTd
 generalize htt:af.tm=TM at hTd
 generalize ht:fr.todo=FK at hTd
 generalize hft:fr.tmps=FT at hTd
 cases hTd with
 |plain k0 K0 tm tmps hk hT=>
  subst htt hft
  have hn:(bk hN).Nodup:=(List.nodup_append.1 hn).2.1
  cases hk with
  |nil=>
   unfold cb
   rw[EP]
   exact ER X (.fin ht) h0 hM hH hb h1 hm (.inl EP) (by intro e;cases e) (fun _=>EP) hT hS hn
  |cons a x k K h hk=>
   have go:∀ (k':List dn) (K':List Item),kG P μ nt k' K'→step P (lone fr (cs++rest) w)=.next (lone {fr with todo:=K'} (cs++rest) w)→Good P ρ C w0 μ0 rest (lone fr (cs++rest) w) (.next ⟨{af with todo:=k'},hN,H,nx⟩):=by
    intro k' K' hk' dQ
    exact⟨_,cs,w,.one dQ,n8 h0 hM hH (hb.todo af.tm k' fr.tmps K') h1 hm hk' hT hS hn⟩
   cases h with
   |code pc c h=>exact ap1 X h h0 hM hH hb h1 hm EP ht hk hT hS hn
   |inBlock id=>
    unfold cb;rw[EP]
    exact go _ _ hk (ajM hm ht)
   |scope c=>
    unfold cb;rw[EP]
    exact go _ _ hk (ajN hm ht)
   |inLoop pc c h=>
    unfold cb;rw[EP]
    exact go _ _ (.cons _ _ _ _ (.code _ _ h) (.cons _ _ _ _ (.inLoop _ _ h) hk)) (ap2 hm ht)
   |ops l ops rest h=>
    unfold cb;rw[EP]
    exact ars X h0 hM hH hb h1 hm h ht hk hT hS hn
   |inRF key l r h hr=>
    unfold cb;rw[EP];trivial
   |endRF key l r ig hr=>
    subst hr
    unfold cb;rw[EP]
    simp only
    split
    ·rename_i st pd fn tm res params as bd dfs hbl
     obtain⟨lc',L,ntl,ld,e0,Lu,e1,e2,e3,e4,e5,e5',e6,e7,e8,e9,e10⟩:=Ft hM (hH _ _ hbl)
     rw[ig] at e0;cases e0
     split
     ·trivial
     ·rename_i hnb
      simp only[sTCe]
      have aDt:L.state≠.busy:=by
       intro e
       rw[e] at e1
       cases st<;>first|exact e1.elim|exact hnb rfl
      obtain⟨μ',G',g1,g2,g3,g4⟩:=MT (st':=.exhausted) (pd':=pd) (s:=.exhausted) (pc:=L.pending) hM hH hbl ig Lu trivial (fun h=>h)
      have dQ:=ass (P:=P) (cs:=cs++rest) hm ht (Uz Lu aDt)
      have JZ:∀ (k':List dn),kG P μ' nt k' ((L.pending.map Item.code).toList++K)→Good P ρ C w0 μ0 rest (lone fr (cs++rest) w) (.next ⟨{af with todo:=k'},hN,av key (some (.loop .exhausted pd fn tm res params as bd dfs)) H,nx⟩):=by
       intro k' hk'
       exact⟨_,cs,_,.one dQ,n8 (Mu.le_trans h0 g1) g2 g3 ((hb.mono g1).todo af.tm k' fr.tmps _) h1 hm hk' (hT.mono g1) (hS.kept g1 g4) hn⟩
      refine JZ _ ?_
      cases pd with
      |none=>
       cases hp:L.pending with
       |none=>exact hk.mono g1
       |some c=>rw[hp] at e2;exact(e2 0).elim
      |some pc=>
       cases hp:L.pending with
       |none=>rw[hp] at e2;exact(e2 0).elim
       |some c=>
        rw[hp] at e2
        exact .cons _ _ _ _ (.code _ _ (e2 nt)) (hk.mono g1)
    ·trivial
   |beginRound=>
    unfold cb;rw[EP]
    simp only
    split
    ·trivial
    ·rename_i key hrn
     have Fv:∃ lc,μ key=some lc∧fr.roundOf=some lc.c:=by
      have:=hb.sy
      rw[hrn] at this
      cases hh:fr.roundOf with
      |none=>rw[hh] at this;exact this.elim
      |some x=>rw[hh] at this;obtain⟨lc,e1,e2⟩:=this;exact⟨lc,e1,by rw[e2]⟩
     obtain⟨lc,ig,Fv⟩:=Fv
     split
     ·rename_i pd fn tm res params as bd dfs hbl
      simp only[sTCe]
      obtain⟨lc',L,ntl,ld,e0,Lu,e1,e2,e3,e4,e5,e5',e6,e7,e8,e9,e10⟩:=Ft hM (hH _ _ hbl)
      rw[ig] at e0;cases e0
      have azQ:L.state=.ready:=by
       cases hs:L.state<;>rw[hs] at e1<;>first|rfl|exact e1.elim
      obtain⟨μ',G',g1,g2,g3,g4⟩:=MT (st':=.busy) (pd':=pd) (s:=.busy) (pc:=L.pending) hM hH hbl ig Lu trivial (fun h=>h)
      have dQ:=O8 (P:=P) (cs:=cs++rest) hm ht Fv (MU Lu azQ)
      exact⟨_,cs,_,.one dQ,n8 (Mu.le_trans h0 g1) g2 g3 ((hb.mono g1).todo af.tm k fr.tmps K) h1 hm (hk.mono g1) (hT.mono g1) (hS.kept g1 g4) hn⟩
     ·trivial
 |ready ops pl bf g sA items gL aj k K tm tmps rs hf hc hd hk S=>
  subst htt hft
  unfold cb;rw[EP]
  refine IV X h0 hM hH hb h1 hm hf hc hd ht hk S hS ?_
  simp only[bk,pk,EP] at hn
  exact hn
 |back ops pl bf g os sA items gL aj k K tm tmps rs hf hc hd hk Tw Eu S=>
  subst htt hft
  unfold cb;rw[EP]
  simp only
  rw[R6]
  cases hrc:recheck C.orc gL.hO aj af.tm H os with
  |false=>simp only[cond_false,mh];trivial
  |true=>
   simp only[cond_true]
   have S5:=S.Qs hd.2 hrc Tw Eu
   refine IV X h0 hM hH hb h1 hm hf hc hd ht hk S5 hS ?_
   simp only[bk,pk,EP] at hn
   exact hn
theorem Ib{b:Nat}(h:w.heap[b]?=some (.deferred (some []))):(Instr.takeDeferred b).run P w=.ok [] {w with heap:=w.heap.setIfInBounds b (.deferred none)}:=by
 simp[Instr.takeDeferred,getObj,setObj,Sem.run,h]
theorem UA(X:Ctx P ρ w0 C)(h0:μ0.le μ)(hM:aP P ρ w0 μ G nx.toNat w)(hH:HSub H G)(hb:wV P ρ μ nt af fr)(Ou:Cur P ρ C.orc μ G H nx af fr)(bI:af.mode≠.run)(hS:cT P ρ C.orc μ G H nx hN cs)(hn:(bk (af ::hN)).Nodup) :
  Good P ρ C w0 μ0 rest (lone fr (cs++rest) w) (CV C af hN H nx):=by
 have hpk:pk af=[]:=by
  cases Ou with
  |run nt hb h1=>exact absurd h1 bI
  |ret nt hb h1 h2 h3 h=>unfold pk;rcases h3 with h3|⟨k,h3⟩<;>rw[h3]
  |pan nt hb v u r h1 h2 hv h3 h=>unfold pk;rw[h3]
 have hfm:fr.mode≠.run:=by
  cases Ou with
  |run nt hb h1=>exact absurd h1 bI
  |ret nt hb h1 h2 h3 h=>rw[h2];intro e;cases e
  |pan nt hb v u r h1 h2 hv h3 h=>rw[h2];intro e;cases e
 have TK:(bk hN).Nodup:=(List.nodup_append.1 hn).2.1
 have aQw:∃ nt,wV P ρ μ nt af fr∧je ρ μ nt af.tm fr.tmps:=by
  cases Ou with
  |run nt hb h1=>exact absurd h1 bI
  |ret nt hb h1 h2 h3 h=>exact⟨nt,hb,h⟩
  |pan nt hb v u r h1 h2 hv h3 h=>exact⟨nt,hb,h⟩
 have move:∀ {μ':Mu} {G':Key→Option ah} {H':T ah} (ds:List ai8) (Ds:List Deferred),μ.le μ'→MV ρ μ' ds Ds→Cur P ρ C.orc μ' G' H' nx {af with dfs:=ds} {fr with defers:=Ds}:=by
  intro μ' G' H' ds Ds hle hd
  cases Ou with
  |run nt hb h1=>exact absurd h1 bI
  |ret nt hb h1 h2 h3 h=>exact .ret nt ⟨hb.fn,hb.fnr,hd,hb.kind,(hb.mono hle).sy,hb.rd⟩ h1 h2 h3 (h.mono hle)
  |pan nt hb v u r h1 h2 hv h3 h=>exact .pan nt ⟨hb.fn,hb.fnr,hd,hb.kind,(hb.mono hle).sy,hb.rd⟩ v u r h1 h2 (hv.mono hle) h3 (h.mono hle)
 have hD:=hb.dfs
 unfold CV
 split
 ·rename_i b ds hds
  split
  ·rename_i hbl
   simp only[sTCe]
   rw[hds] at hD
   cases R7:fr.defers with
   |nil=>rw[R7] at hD;exact hD.elim
   |cons d Ds=>
   rw[R7] at hD
   obtain⟨⟨l,hl,rfl⟩,hD2⟩:=hD
   have hg:=hH _ _ hbl
   obtain⟨l',o,e1,e2,e3⟩:=hM.nM b _ hg
   rw[hl] at e1;cases e1
   have aIH:w.heap[l.c]?=some (.deferred (some [])):=by
    cases e3 with|dfs _ _=>exact e2
   have Hy:l.c<w.heap.size:=hM.wb b l hl
   have nP:w0.heap.size≤l.c:=(hM.own b _ l hg hl).resolve_left (by simp[ah.ro])
   obtain⟨m1,m2⟩:=hM.put (w':={w with heap:=w.heap.setIfInBounds l.c (.deferred none)}) b (.dfs true) l (.deferred none) (nx':=nx.toNat) (.inr hl)
    ⟨rfl,rfl,rfl,by simp,fun j hj _=>by show(w.heap.setIfInBounds l.c _)[j]?=_;rw[zqn (Ne.symm hj)],fe _⟩
    (by show(w.heap.setIfInBounds l.c _)[l.c]?=_;simp[Hy])
    (.dfs true l)
    (fun b' B' l' g m' ne=>hM.sep b' b B' _ l' l g hg m' hl ne) nP (fe _) (hM.new b l hl) (hM.lo0 hg hl rfl)
   have dQ:=R9 (P:=P) (cs:=cs++rest) hfm R7 (Ib aIH)
   refine⟨_,cs,_,.one dQ,_,_,Mu.le_trans h0 m1,m2,hH.set b _,move ds Ds m1 (hD2.mono m1),hS.kept m1 (mn hbl hl _ _),?_⟩
   show(bk (_ ::hN)).Nodup
   have:pk {af with dfs:=ds}=pk af:=rfl
   simp only[bk,this,hpk,List.nil_append];exact TK
  ·trivial
 ·rename_i f args ds hds
  rcases Br X f args true (.bad 71 ⟨af,hN,H,nx⟩) (fun ej=>.next ⟨ej,{af with dfs:=ds} ::hN,H,nx⟩) with e|⟨p,hp,e⟩
  ·rw[e];trivial
  ·rw[e]
   rw[hds] at hD
   cases R7:fr.defers with
   |nil=>rw[R7] at hD;exact hD.elim
   |cons d Ds=>
   rw[R7] at hD
   obtain⟨⟨ws,hd1,hd2⟩,hD2⟩:=hD
   obtain⟨fn,c,f1,f2,f3,f4,f5⟩:=wX hp
   have hi:(invoke d.target d.args).run P w=.ok (.enter f (d.args++ws)) w:=by
    rw[hd1];simp[invoke,tg f1 (by rw[f2];rfl) f3]
   have dQ:=UB (P:=P) (cs:=cs++rest) hfm R7 hd1 hi
   refine⟨_,{fr with defers:=Ds} ::cs,w,.one dQ,μ,G,h0,hM,hH,tB hp hd2 true,⟨.unw (move ds Ds μ.le_refl hD2) bI,hS⟩,?_⟩
   show(bk (_ ::_ ::hN)).Nodup
   have:pk {af with dfs:=ds}=pk af:=rfl
   simp only[bk,this,hpk,List.nil_append]
   simp only[pk,List.nil_append];exact TK
 ·rename_i hds
  have R7:fr.defers=[]:=by
   rw[hds] at hD
   cases R7:fr.defers with
   |nil=>rfl
   |cons d Ds=>rw[R7] at hD;exact hD.elim
  split
  ·trivial
  ·rename_i xr
   cases Ou with
   |run nt hb h1=>exact absurd h1 bI
   |pan nt hb v u r h1=>rw[h1] at xr;cases xr
   |ret nt hb h1 h2 h3 hT=>
    split
    ·rename_i l hl
     obtain⟨fn,g1,g2,g3⟩:=hb.fnr.ex
     have jy:P.funcs[fr.fn]?=some fn:=by rw[hb.fn];exact g1
     rw[g2] at g3
     obtain⟨vs,q1,q2⟩:=O9 hM hH hT g3 hl
     rw[wW]
     obtain⟨μ1,G1,x1,x2⟩:=Fq (C.mN af.fn) hM hH q2
     have q2:=ajO x2
     have hS:=cT.kept x1.le x1.kept hS
     have h0:=Mu.le_trans h0 x1.le
     have hM:=x1.M
     have hH:=x1.hs
     have hb:=hb.mono x1.le
     have hT:=hT.mono x1.le
     generalize cj (C.mN af.fn) l H=lh at q2 hS hM hH
     obtain⟨l1,H1⟩:=lh
     simp only at q2 hS hM hH ⊢
     clear x1 x2
     generalize hvv:GN vs=v at q1 q2
     unfold La
     cases hN with
     |nil=>
      cases cs with
      |cons _ _=>exact hS.elim
      |nil=>
      cases hdf:af.Bs with
      |true=>trivial
      |false=>
       have MI:fr.kind=.normal:=by rw[hb.kind,hdf];rfl
       exact⟨fr,w,μ1,G1,v,Steps.refl _ _,hb.fn,⟨h2,R7,MI,fn,jy,q1⟩,q2,h0,hM,hH⟩
     |cons c hN=>
      cases cs with
      |nil=>exact hS.elim
      |cons cf cs=>
      have hn2:(bk (c ::hN)).Nodup:=TK
      cases hdf:af.Bs with
      |true=>
       have MI:fr.kind=.deferred:=by rw[hb.kind,hdf];rfl
       have dQ:=ES (P:=P) (c:=cf) (cs:=cs++rest) h2 R7 MI jy q1
       simp only[cond_true]
       cases hS.1 with
       |wait K1 fb pT=>
        rw[pT];trivial
       |unw hc J0=>
        cases hc with
        |run K1 fb pT=>exact absurd pT J0
        |ret K1 fb pT PU PV hT'=>
         have ai4:settle cf.mode=cf.mode:=by rw[PU];rfl
         rw[ai4] at dQ
         rw[pT]
         exact⟨_,cs,w,.one dQ,μ1,G1,h0,hM,hH,.ret K1 fb pT PU PV hT',hS.2,hn2⟩
        |pan K1 fb v' u' r' pT PU Ri PV hT'=>
         rw[pT]
         cases r' with
         |true=>
          have ai4:settle cf.mode=.returning:=by rw[PU];rfl
          rw[ai4] at dQ
          refine⟨_,cs,w,.one dQ,μ1,G1,h0,hM,hH,.ret K1 ⟨fb.fn,fb.fnr,fb.dfs,fb.kind,fb.sy,fb.rd⟩ rfl rfl (.inl PV) hT',hS.2,?_⟩
          exact hn2
         |false=>
          have ai4:settle cf.mode=cf.mode:=by rw[PU];rfl
          rw[ai4] at dQ
          exact⟨_,cs,w,.one dQ,μ1,G1,h0,hM,hH,.pan K1 fb v' u' false pT PU Ri PV hT',hS.2,hn2⟩
      |false=>
       have MI:fr.kind=.normal:=by rw[hb.kind,hdf];rfl
       have dQ:=ap4 (P:=P) (c:=cf) (cs:=cs++rest) h2 R7 MI jy q1
       simp only[cond_false]
       split
       ·rename_i c' hf
        obtain⟨k1,k2⟩:=hS.1.finish q2 hf
        refine⟨_,cs,w,.one dQ,μ1,G1,h0,hM,hH,k1,hS.2,?_⟩
        show(bk (c' ::hN)).Nodup
        simp only[bk,k2] at hn2 ⊢
        exact hn2
       ·trivial
    ·trivial
  ·rename_i v xr
   cases Ou with
   |run nt hb h1=>exact absurd h1 bI
   |ret nt hb h1=>rw[h1] at xr;cases xr
   |pan nt hb v' u r h1 h2 hv h3 hT=>
    rw[h1] at xr
    simp only[arq.pan.injEq] at xr
    obtain⟨rfl,rfl⟩:=xr
    obtain⟨fn,g1,g2,g3⟩:=hb.fnr.ex
    have jy:P.funcs[fr.fn]?=some fn:=by rw[hb.fn];exact g1
    cases hN with
    |nil=>trivial
    |cons c hN=>
     cases cs with
     |nil=>exact hS.elim
     |cons cf cs=>
     simp only
     cases hS.1 with
     |unw hc J0=>
      cases hc with
      |run K1 fb pT=>exact absurd pT J0
      |ret K1 fb pT=>rw[pT];trivial
      |pan K1 fb v2 u2 r2 pT=>rw[pT];trivial
     |wait K1 fb pT PU hW=>
      rw[pT]
      have dQ:=UC (P:=P) (c:=cf) (cs:=cs++rest) (w:=w) h2 R7 jy
      have hra:cf.raise [{v:=u,recovered:=false}]={cf with mode:=.panicking [{v:=u,recovered:=false}]}:=by
       simp[Frame.raise,PU]
      rw[hra] at dQ
      refine⟨_,cs,w,.one dQ,μ,G,h0,hM,hH,.pan K1 ⟨fb.fn,fb.fnr,fb.dfs,fb.kind,fb.sy,fb.rd⟩ v' u false rfl rfl hv rfl ?_,hS.2,?_⟩
      ·show je ρ μ K1 (match c.todo with|.staged _ d _ ::_=>Ez d.ds c.tm (fun t=>t)|_=>c.tm) cf.tmps
       generalize cf.todo=KK at hW
       generalize hTT:cf.tmps=TT at hW
       generalize c.todo=kk at hW
       generalize c.tm=tt at hW
       cases hW with
       |ops o l ops i rest k K tm tmps hp h ht=>exact ht
       |rf key l k K tm tmps hk h ht=>exact ht
       |staged ops pl bf g i po ad os sA items gL aj k K tm tmps rest nR hf hc hL PW hd h Tw Eu S=>
        simp only[mh]
        exact S.erase hd.1
      ·have hn2:(bk (c ::hN)).Nodup:=TK
       show(bk (_ ::hN)).Nodup
       simp only[bk,pk,List.nil_append] at hn2 ⊢
       exact(List.nodup_append.1 hn2).2.1
  ·trivial
theorem vk(X:Ctx P ρ w0 C){am:AM}(h:yz P ρ C.orc w0 μ0 am fr cs w):Good P ρ C w0 μ0 rest (lone fr (cs++rest) w) (ia C am):=by
 obtain⟨μ,G,h0,hM,hH,hc,hS,hn⟩:=h.ex
 unfold ia
 split
 ·rename_i hm
  cases hc with
  |run nt hb h1 h2 h=>exact asr X h0 hM hH hb h1 h2 h hS hn
  |ret nt hb h1=>rw[h1] at hm;cases hm
  |pan nt hb v u r h1=>rw[h1] at hm;cases hm
 ·rename_i hm
  have bI:am.fr.mode≠.run:=fun e=>hm e
  have hb:∃ nt,wV P ρ μ nt am.fr fr:=by
   cases hc with
   |run nt hb h1 h2 h=>exact⟨nt,hb⟩
   |ret nt hb h1=>exact⟨nt,hb⟩
   |pan nt hb v u r h1=>exact⟨nt,hb⟩
  obtain⟨nt,hb⟩:=hb
  exact UA X h0 hM hH hb hc bI hS hn
theorem wY(C:dm)(n:Nat)(m:AM):qh C (n+1) m=match ia C m with
  |.next m=>qh C n m
  |r=>r:=rfl
theorem uk(X:Ctx P ρ w0 C):∀ (n:Nat) {am:AM} {fr:Frame} {cs:List Frame} {w:World},yz P ρ C.orc w0 μ0 am fr cs w→Good P ρ C w0 μ0 rest (lone fr (cs++rest) w) (qh C n am)
 |0,am,fr,cs,w,h=>⟨fr,cs,w,Steps.refl _ _,h⟩
 |n+1,am,fr,cs,w,h=>by
  have h1:=vk (rest:=rest) X h
  rw[wY]
  cases hs:ia C am with
  |next m=>
   rw[hs] at h1
   obtain⟨ej,yw,w',s1,h2⟩:=h1
   exact Good.steps s1 (uk X n h2)
  |done f v hh nx=>rw[hs] at h1;exact h1
  |alt l=>rw[hs] at h1;exact h1
  |pan v hh nx=>trivial
  |bad k m=>trivial
end
end Go.Sx
/-
 SX: the machine's run as a fact on a call of the model. No condition.
-/
namespace Go.Sx
open Go.RowKit
noncomputable def ae(f:Nat)(p:fO)(l:List AV):kU:={fn:=f,tm:=gI l .z .nil,todo:=[.code p.body],dfs:=[],mode:=.run,Bs:=false,sy:=none,res:=p.res}
section
variable{P:Program}{ρ:Nat→Int}{C:dm}{w0:W0}{w:World}{μ0:Mu}{G0:Key→Option ah}{H H':T ah}{nx nx':Key}
inductive Ev(C:dm)(S:AM→Prop):AM→Prop
 |now {m:AM} (h:S m):Ev C S m
 |step {m m':AM} (e:ia C m=.next m') (h:Ev C S m'):Ev C S m
 |alt {m:AM} {l:List AM} (e:ia C m=.alt l) (h:∀ m'∈l,Ev C S m'):Ev C S m
theorem Ev.bind{S S':AM→Prop}{m:AM}(h:Ev C S m)(hs:∀ m',S m'→Ev C S' m'):Ev C S' m:=by
 induction h with
 |now h=>exact hs _ h
 |step e _ ih=>exact .step e ih
 |alt e _ ih=>exact .alt e ih
theorem Ev.mono{S S':AM→Prop}{m:AM}(h:Ev C S m)(hs:∀ m',S m'→S' m'):Ev C S' m:=h.bind fun m' q=>.now (hs m' q)
theorem Ev.same{S:AM→Prop}{m m2:AM}(hs:ia C m=ia C m2)(hn:¬ S m2)(h:Ev C S m2):Ev C S m:=by
 cases h with
 |now h=>exact absurd h hn
 |step e h=>exact .step (hs.trans e) h
 |alt e h=>exact .alt (hs.trans e) h
theorem aru(a b:Nat)(m m1:AM)(h:qh C a m=.next m1):qh C (a+b) m=qh C b m1:=by
 induction a generalizing m with
 |zero=>
  have:SR.next m=SR.next m1:=h
  cases this;rw[Nat.zero_add]
 |succ a ih=>
  rw[wY] at h
  have e:a+1+b=(a+b)+1:=by omega
  rw[e,wY]
  cases hs:ia C m with
  |next m2=>rw[hs] at h;exact ih m2 h
  |done f v hh nx=>rw[hs] at h;cases h
  |alt l=>rw[hs] at h;cases h
  |pan v hh nx=>rw[hs] at h;cases h
  |bad k m=>rw[hs] at h;cases h
theorem Ev.arv{S:AM→Prop}:∀ (n:Nat) {m m':AM},qh C n m=.next m'→Ev C S m'→Ev C S m
 |0,m,m',h,q=>by
  have:SR.next m=SR.next m':=h
  cases this;exact q
 |n+1,m,m',h,q=>by
  rw[wY] at h
  cases hs:ia C m with
  |next m2=>rw[hs] at h;exact .step hs (Ev.arv n h q)
  |done f v hh nx=>rw[hs] at h;cases h
  |alt l=>rw[hs] at h;cases h
  |pan v hh nx=>rw[hs] at h;cases h
  |bad k m=>rw[hs] at h;cases h
def To(C:dm)(m m':AM):Prop:=∃ n,qh C n m=.next m'
theorem To.refl(m:AM):To C m m:=⟨0,rfl⟩
theorem To.head{m m1 m2:AM}(h:ia C m=.next m1)(h':To C m1 m2):To C m m2:=by
 obtain⟨n,hn⟩:=h'
 exact⟨n+1,by rw[wY,h];exact hn⟩
theorem To.one{m m1:AM}(h:ia C m=.next m1):To C m m1:=.head h (.refl _)
theorem To.trans{m m1 m2:AM}(h:To C m m1)(h':To C m1 m2):To C m m2:=by
 obtain⟨a,ha⟩:=h
 obtain⟨b,hb⟩:=h'
 exact⟨a+b,by rw[aru a b m m1 ha];exact hb⟩
theorem To.ev{S:AM→Prop}{m m':AM}(h:To C m m')(q:Ev C S m'):Ev C S m:=by
 obtain⟨n,hn⟩:=h
 exact Ev.arv n hn q
theorem Ev.sound(X:Ctx P ρ w0 C){S:AM→Prop}{rest:List Frame}{am:AM}(h:Ev C S am):∀ {fr:Frame} {cs:List Frame} {w:World},yz P ρ C.orc w0 μ0 am fr cs w→
  ∃ am' ej yw w',S am'∧Steps P (lone fr (cs++rest) w) (lone ej (yw++rest) w')∧yz P ρ C.orc w0 μ0 am' ej yw w':=by
 induction h with
 |now h=>intro fr cs w hm;exact⟨_,fr,cs,w,h,Steps.refl _ _,hm⟩
 |step e _ ih=>
  intro fr cs w hm
  have hg:=vk (rest:=rest) X hm
  rw[e] at hg
  obtain⟨ej,yw,w',s1,h2⟩:=hg
  obtain⟨am',Hx,cs2,w2,q,s2,h3⟩:=ih h2
  exact⟨am',Hx,cs2,w2,q,s1.trans s2,h3⟩
 |alt e _ ih=>
  intro fr cs w hm
  have hg:=vk (rest:=rest) X hm
  rw[e] at hg
  obtain⟨am1,gq,ej,yw,w',s1,h2⟩:=hg
  obtain⟨am',Hx,cs2,w2,q,s2,h3⟩:=ih am1 gq h2
  exact⟨am',Hx,cs2,w2,q,s1.trans s2,h3⟩
end
end Go.Sx
/-
 SX: a logic for the machine's code. No condition.
-/
namespace Go.Sx
open Go.RowKit
inductive Ex where
 |norm
 |ret
 |exit (id:Nat)
 |pan (a:AV)
def Aft(af:kU)(k:List dn):Ex→T AV→kU→Prop
 |.norm,tm,fr=>fr={af with tm:=tm,todo:=k}
 |.ret,tm,fr=>∃ t,fr={af with tm:=tm,todo:=.code .ret ::t}
 |.exit id,tm,fr=>∃ k2,mO id k2=mO id k∧fr={af with tm:=tm,todo:=.code (.exit id) ::k2}
 |.pan a,tm,fr=>fr={af with tm:=tm,todo:=[],mode:=.pan a false}
def Lv:Option Nat→aG
 |none=>.ret
 |some i=>.exit i
abbrev cX:=Ex→T AV→T ah→Key→Prop
def Stop(Q:cX)(af:kU)(k:List dn)(cs:List kU)(m:AM):Prop:=∃ e an h' nx' fr,Q e an h' nx'∧Aft af k e an fr∧m=⟨fr,cs,h',nx'⟩
def WI(C:dm)(x:dn)(Q:cX)(tm:T AV)(h:T ah)(nx:Key):Prop:=
 ∀ (af:kU) (k:List dn) (cs:List kU),af.mode=.run→True→Ev C (Stop Q af k cs) ⟨{af with tm:=tm,todo:=x ::k},cs,h,nx⟩
abbrev W(C:dm)(c:aG):cX→T AV→T ah→Key→Prop:=WI C (.code c)
section
variable{C:dm}{Q Q':cX}{tm:T AV}{h:T ah}{nx:Key}
theorem WI.mono{x:dn}(hw:WI C x Q tm h nx)(hq:∀ e tm h nx,Q e tm h nx→Q' e tm h nx):WI C x Q' tm h nx:=by
 intro af k cs h1 h2
 refine(hw af k cs h1 h2).mono ?_
 rintro m ⟨e,an,h',nx',fr,q,a,t⟩
 exact⟨e,an,h',nx',fr,hq _ _ _ _ q,a,t⟩
theorem bS{m:AM}{r:SR}(hm:m.fr.mode=.run)(hr:cb C m.fr m.cs m.h m.nx=r):ia C m=r:=by
 unfold ia;simp only[hm];exact hr
theorem Stop.not{y:dn}{af:kU}{k:List dn}{cs cs2:List kU}(hy:∀ i,y≠.code (Lv i))(h1:af.mode=.run):¬ Stop Q af k cs ⟨{af with tm:=tm,todo:=y ::k},cs2,h,nx⟩:=by
 rintro⟨e,an,h',nx',fr,q,a,t⟩
 simp only[AM.mk.injEq] at t
 obtain⟨e0,_⟩:=t
 cases e with
 |norm=>cases a;simp at e0
 |ret=>obtain⟨_,rfl⟩:=a;simp at e0;exact hy none e0.2.1
 |exit id=>obtain⟨_,_,rfl⟩:=a;simp at e0;exact hy (some id) e0.2.1
 |pan a'=>cases a;simp at e0
theorem WI.to{x y:dn}(hs:∀ (af:kU) (k:List dn) (cs:List kU),af.mode=.run→True→cb C {af with tm:=tm,todo:=x ::k} cs h nx=.next ⟨{af with tm:=tm,todo:=y ::k},cs,h,nx⟩)(hw:WI C y Q tm h nx):WI C x Q tm h nx:=by
 intro af k cs h1 h2
 exact .step (bS h1 (hs af k cs h1 h2)) (hw af k cs h1 h2)
theorem W.skip(hq:Q .norm tm h nx):W C .skip Q tm h nx:=by
 intro af k cs h1 h2
 exact .step (bS h1 rfl) (.now ⟨.norm,tm,h,nx,_,hq,rfl,rfl⟩)
theorem W.ret(hq:Q .ret tm h nx):W C .ret Q tm h nx:=by
 intro af k cs h1 h2
 exact .now ⟨.ret,tm,h,nx,_,hq,⟨k,rfl⟩,rfl⟩
theorem W.exit{id:Nat}(hq:Q (.exit id) tm h nx):W C (.exit id) Q tm h nx:=by
 intro af k cs h1 h2
 exact .now ⟨.exit id,tm,h,nx,_,hq,⟨k,rfl,rfl⟩,rfl⟩
theorem W.seq{a b:aG}(hw:W C a (fun e tm h nx=>match e with|.norm=>W C b Q tm h nx|e=>Q e tm h nx) tm h nx):W C (.seq a b) Q tm h nx:=by
 intro af k cs h1 h2
 refine .step (m':=⟨{af with tm:=tm,todo:=.code a ::.code b ::k},cs,h,nx⟩) (bS h1 rfl) ((hw af (.code b ::k) cs h1 h2).bind ?_)
 rintro m ⟨e,an,h',nx',fr,q,ha,rfl⟩
 cases e with
 |norm=>
  cases ha
  refine(q {af with tm:=an} k cs h1 h2).mono ?_
  rintro m ⟨e2,tm2,hh2,aI,Hx,q2,a2,t2⟩
  refine⟨e2,tm2,hh2,aI,Hx,q2,?_,t2⟩
  cases e2<;>exact a2
 |ret=>exact .now ⟨.ret,an,h',nx',fr,q,ha,rfl⟩
 |exit id=>
  obtain⟨k2,e1,e2⟩:=ha
  exact .now ⟨.exit id,an,h',nx',fr,q,⟨k2,e1,e2⟩,rfl⟩
 |pan a=>exact .now ⟨.pan a,an,h',nx',fr,q,ha,rfl⟩
theorem W.cond{x:PX}{a b:aG}{t:Bool}(hx:x.at tm=some (.bool t))(hw:W C (if t then a else b) Q tm h nx):W C (.cond x a b) Q tm h nx:=by
 refine WI.to (y:=.code (if t then a else b)) ?_ hw
 intro af k cs h1 h2
 simp only[cb,hx]
 cases t<;>rfl
theorem W.block{id:Nat}{c:aG}(hw:W C c (fun e tm h nx=>match e with|.exit j=>if j=id then Q .norm tm h nx else Q (.exit j) tm h nx|e=>Q e tm h nx) tm h nx):W C (.block id c) Q tm h nx:=by
 intro af k cs h1 h2
 refine .step (m':=⟨{af with tm:=tm,todo:=.code c ::.inBlock id ::k},cs,h,nx⟩) (bS h1 rfl) ((hw af (.inBlock id ::k) cs h1 h2).bind ?_)
 rintro m ⟨e,an,h',nx',fr,q,ha,rfl⟩
 cases e with
 |norm=>
  cases ha
  exact .step (bS h1 rfl) (.now ⟨.norm,an,h',nx',_,q,rfl,rfl⟩)
 |ret=>exact .now ⟨.ret,an,h',nx',fr,q,ha,rfl⟩
 |exit j=>
  obtain⟨k2,e1,rfl⟩:=ha
  by_cases hj:j=id
  ·subst hj
   simp only[if_true] at q
   refine .step (m':=⟨{af with tm:=an,todo:=k},cs,h',nx'⟩) (bS h1 ?_) (.now ⟨.norm,an,h',nx',_,q,rfl,rfl⟩)
   simp only[cb,e1,mO,beqN_eq,decide_true,cond_true]
  ·simp only[if_neg hj] at q
   refine .now ⟨.exit j,an,h',nx',_,q,⟨k2,?_,rfl⟩,rfl⟩
   rw[e1]
   simp only[mO,beqN_eq,show ¬ id=j from fun e=>hj e.symm,decide_false,cond_false]
 |pan a=>exact .now ⟨.pan a,an,h',nx',fr,q,ha,rfl⟩
theorem W.loop{c:aG}(Inv:Nat→T AV→T ah→Key→Prop)
  (hw:∀ n tm h nx,Inv n tm h nx→W C c (fun e tm h nx=>match e with|.norm=>∃ m,m<n∧Inv m tm h nx|e=>Q e tm h nx) tm h nx) {n:Nat} (hi:Inv n tm h nx):W C (.loop c) Q tm h nx:=by
 have key:∀ (n:Nat) (tm:T AV) (h:T ah) (nx:Key),Inv n tm h nx→WI C (.inLoop c) Q tm h nx:=by
  intro n
  induction n using Nat.strongRecOn with
  |_ n ih=>
   intro tm h nx hi af k cs h1 h2
   refine .step (m':=⟨{af with tm:=tm,todo:=.code c ::.inLoop c ::k},cs,h,nx⟩) (bS h1 rfl) ((hw n tm h nx hi af (.inLoop c ::k) cs h1 h2).bind ?_)
   rintro m ⟨e,an,h',nx',fr,q,ha,rfl⟩
   cases e with
   |norm=>
    cases ha
    obtain⟨m,hm,him⟩:=q
    refine(ih m hm an h' nx' him {af with tm:=an} k cs h1 h2).mono ?_
    rintro m ⟨e2,tm2,hh2,aI,Hx,q2,a2,t2⟩
    refine⟨e2,tm2,hh2,aI,Hx,q2,?_,t2⟩
    cases e2<;>exact a2
   |ret=>exact .now ⟨.ret,an,h',nx',fr,q,ha,rfl⟩
   |exit id=>
    obtain⟨k2,e1,e2⟩:=ha
    exact .now ⟨.exit id,an,h',nx',fr,q,⟨k2,e1,e2⟩,rfl⟩
   |pan a=>exact .now ⟨.pan a,an,h',nx',fr,q,ha,rfl⟩
 intro af k cs h1 h2
 -- the aKF code and sA item go the same way
 exact Ev.same (by rw[bS (m:=⟨{af with tm:=tm,todo:=.inLoop c ::k},cs,h,nx⟩) h1 rfl,bS (m:=⟨{af with tm:=tm,todo:=.code (.loop c) ::k},cs,h,nx⟩) h1 rfl];rfl)
  (Stop.not (fun i e=>by cases i<;>cases e) h1) (key n tm h nx hi af k cs h1 h2)
inductive Out where
 |ret (v:AV)
 |pan (a:AV)
noncomputable def DS(C:dm)(f:Nat):Option fO:=bif Nat.beq (Key.eA 12 f).toNat f then aa (Key.eA 12 f) C.fns else none
def Left(C:dm)(f:Nat)(fr:kU)(h1:T ah)(o:Out)(h':T ah):Prop:=fr.dfs=[]∧match o with
 |.ret v=>fr.mode=.ret∧∃ l,resultsA h1 fr.tm fr.res=some l∧v=mP (cj (C.mN f) l h1).1∧h'=(cj (C.mN f) l h1).2
 |.pan a=>fr.mode=.pan a false∧h'=h1
def aKG(C:dm)(f:Nat)(R:Out→T ah→Key→Prop)(cs:List kU)(m:AM):Prop:=∃ o h' nx' fr h1,R o h' nx'∧fr.fn=f∧fr.Bs=false∧Left C f fr h1 o h'∧m=⟨fr,cs,h1,nx'⟩
def aO(C:dm)(f:Nat)(l:List AV)(h:T ah)(nx:Key)(R:Out→T ah→Key→Prop):Prop:=
 (∃ v h' nx',C.sum f l h nx=some (v,h',nx')∧R (.ret v) h' nx')∨
 (C.sum f l h nx=none∧∃ p,DS C f=some p∧∀ cs,Ev C (aKG C f R cs) ⟨ae f p l,cs,h,nx⟩)
theorem aO.mono{f:Nat}{l:List AV}{R R':Out→T ah→Key→Prop}(hc:aO C f l h nx R)(hr:∀ o h nx,R o h nx→R' o h nx):aO C f l h nx R':=by
 rcases hc with⟨v,h',nx',h1,h2⟩|⟨h1,p,h2,h3⟩
 ·exact .inl ⟨v,h',nx',h1,hr _ _ _ h2⟩
 ·refine .inr ⟨h1,p,h2,fun cs=>(h3 cs).mono ?_⟩
  rintro m ⟨o,h',nx',fr,h1,q,r⟩
  exact⟨o,h',nx',fr,h1,hr _ _ _ q,r⟩
def xG(C:dm)(f:Nat)(res:List RV)(R:Out→T ah→Key→Prop):cX:=fun e tm h nx=>match e with
 |.norm|.ret=>∃ l,resultsA h tm res=some l∧R (.ret (mP (cj (C.mN f) l h).1)) (cj (C.mN f) l h).2 nx
 |.pan a=>R (.pan a) h nx
 |.exit _=>False
theorem aO.aKH{f:Nat}{p:fO}{l:List AV}{R:Out→T ah→Key→Prop}(hs:C.sum f l h nx=none)(hp:DS C f=some p)(hw:W C p.body (xG C f p.res R) (gI l .z .nil) h nx):aO C f l h nx R:=by
 refine .inr ⟨hs,p,hp,fun cs=>(hw (ae f p l) [] cs rfl trivial).bind ?_⟩
 rintro m ⟨e,an,h',nx',fr,q,ha,rfl⟩
 cases e with
 |norm=>
  cases ha
  obtain⟨l1,hl,hr⟩:=q
  exact .step (m':=⟨{ae f p l with tm:=an,todo:=[],mode:=.ret},cs,h',nx'⟩) (bS rfl rfl) (.now ⟨_,_,nx',_,h',hr,rfl,rfl,⟨rfl,rfl,l1,hl,rfl,rfl⟩,rfl⟩)
 |ret=>
  obtain⟨t',rfl⟩:=ha
  obtain⟨l1,hl,hr⟩:=q
  exact .step (m':=⟨{ae f p l with tm:=an,todo:=.code .ret ::t',mode:=.ret},cs,h',nx'⟩) (bS rfl rfl) (.now ⟨_,_,nx',_,h',hr,rfl,rfl,⟨rfl,rfl,l1,hl,rfl,rfl⟩,rfl⟩)
 |exit id=>exact q.elim
 |pan a=>
  cases ha
  exact .now ⟨.pan a,h',nx',_,h',q,rfl,rfl,⟨rfl,rfl,rfl⟩,rfl⟩
theorem W.ops{l:List J}(hw:WI C (.ops l) Q tm h nx):W C (.ops l) Q tm h nx:=
 WI.to (y:=.ops l) (fun _ _ _ _ _=>rfl) hw
theorem WI.awV{l:List J}{an:T AV}{h':T ah}{nx':Key}(hr:ic C.orc l tm h nx=.fin an h' nx')(hq:Q .norm an h' nx'):WI C (.ops l) Q tm h nx:=by
 intro af k cs h1 h2
 refine .step (m':=⟨{af with tm:=an,todo:=k},cs,h',nx'⟩) (bS h1 ?_) (.now ⟨.norm,an,h',nx',_,hq,rfl,rfl⟩)
 simp only[cb,hr]
theorem Q2{S:AM→Prop}{f:Nat}{args:List AV}{fr c:kU}{cs:List kU}{R:Out→T ah→Key→Prop}(hc:aO C f (cj (C.raw f) args h).1 (cj (C.raw f) args h).2 nx R)
  (JZ:∀ v,∃ ej,bB v fr=some ej) (xr:fr.mode=.run) {m:AM} (hm:ia C m=fG C (.call f args) fr c cs h nx)
  (wQ:∀ v h' nx' ej,R (.ret v) h' nx'→bB v fr=some ej→Ev C S ⟨ej,cs,h',nx'⟩)
  (atW:∀ a h' nx',R (.pan a) h' nx'→Ev C S ⟨{fr with mode:=.pan a false,todo:=[],tm:=(match fr.todo with|.staged _ d _ ::_=>Ez d.ds fr.tm (fun t=>t)|_=>fr.tm)},cs,h',nx'⟩):Ev C S m:=by
 rcases hc with⟨v,h',nx',hs,hr⟩|⟨hs,p,hp,ch⟩
 ·obtain⟨ej,hf⟩:=JZ v
  refine .step (m':=⟨ej,cs,h',nx'⟩) ?_ (wQ v h' nx' ej hr hf)
  rw[hm]
  simp only[fG,wW,hs,hf]
 ·have hen:ia C m=.next ⟨ae f p (cj (C.raw f) args h).1,fr ::cs,(cj (C.raw f) args h).2,nx⟩:=by
   rw[hm]
   simp only[fG,wW,hs]
   unfold Ew
   have Im:(bif Nat.beq (Key.eA 12 f).toNat f then aa (Key.eA 12 f) C.fns else none)=some p:=hp
   simp only[Im,Ey]
   rfl
  refine .step hen ((ch (fr ::cs)).bind ?_)
  rintro m2 ⟨o,h',nx',Hx,h1,hr,hfn,hdf,⟨hd,hL⟩,rfl⟩
  cases o with
  |ret v=>
   obtain⟨On,l,hl,rfl,rfl⟩:=hL
   obtain⟨ej,hf⟩:=JZ (mP (cj (C.mN f) l h1).1)
   refine .step (m':=⟨ej,cs,(cj (C.mN f) l h1).2,nx'⟩) ?_ (wQ _ _ nx' ej hr hf)
   unfold ia
   simp only[On]
   unfold CV
   simp only[hd,On,hl,hfn,wW]
   unfold La
   simp only[hdf,cond_false,hf]
  |pan a=>
   obtain⟨On,rfl⟩:=hL
   refine .step ?_ (atW a h' nx' hr)
   unfold ia
   simp only[On]
   unfold CV
   simp only[hd,On,xr]
   rfl
theorem WI.atX{l:List J}{f:Nat}{args:List AV}{o:J}{rest:List J}{cu:T AV}{h1:T ah}{bM:Key}{R:Out→T ah→Key→Prop}(hr:ic C.orc l tm h nx=.ev (.call f args) (o ::rest) cu h1 bM)
  (hc:aO C f (cj (C.raw f) args h1).1 (cj (C.raw f) args h1).2 bM R)
  (wQ:∀ v h2 aI,R (.ret v) h2 aI→WI C (.ops rest) Q (bp o.dst v cu) h2 aI)
  (atW:∀ a h2 aI,R (.pan a) h2 aI→Q (.pan a) cu h2 aI):WI C (.ops l) Q tm h nx:=by
 intro af k cs m1 m2
 have dQ:ia C ⟨{af with tm:=tm,todo:=.ops l ::k},cs,h,nx⟩=fG C (.call f args) {af with tm:=cu,todo:=.ops (o ::rest) ::k} {af with tm:=cu,todo:=[]} cs h1 bM:=by
  refine bS m1 ?_
  simp only[cb,hr]
 have hfe:∀ v,bB v {af with tm:=cu,todo:=.ops (o ::rest) ::k}=some {af with tm:=bp o.dst v cu,todo:=.ops rest ::k}:=fun v=>by simp only[bB,da]
 refine Q2 (fr:={af with tm:=cu,todo:=.ops (o ::rest) ::k}) (c:={af with tm:=cu,todo:=[]}) (cs:=cs) hc (fun v=>⟨_,hfe v⟩) m1 dQ ?_ ?_
 ·intro v h' nx' ej hR hf
  rw[hfe] at hf
  cases hf
  refine(wQ v h' nx' hR {af with tm:=bp o.dst v cu} k cs m1 m2).mono ?_
  rintro m ⟨e2,tm2,hh2,aI,Hx,q2,a2,t2⟩
  refine⟨e2,tm2,hh2,aI,Hx,q2,?_,t2⟩
  cases e2<;>exact a2
 ·intro a h' nx' hR
  exact .now ⟨.pan a,cu,h',nx',_,atW a h' nx' hR,rfl,rfl⟩
theorem W.staged{l:List aN}{d:SD}(hw:WI C (.staged l d []) Q tm h nx):W C (.staged l d) Q tm h nx:=
 WI.to (y:=.staged l d []) (fun _ _ _ _ _=>rfl) hw
theorem WI.aA4{l:List aN}{d:SD}{aj:List (Nat×Key×ah)}{an:T AV}{h':T ah}{nx':Key}(hr:fP C.orc d.hO l aj tm h nx=.fin an h' nx')(hq:Q .norm an h' nx'):WI C (.staged l d aj) Q tm h nx:=by
 intro af k cs h1 h2
 refine .step (m':=⟨{af with tm:=an,todo:=k},cs,h',nx'⟩) (bS h1 ?_) (.now ⟨.norm,an,h',nx',_,hq,rfl,rfl⟩)
 simp only[cb,hr]
theorem WI.awW{l:List aN}{d:SD}{aj xU:List (Nat×Key×ah)}{f:Nat}{args:List AV}{i:Nat}{o:J}{ad:List Nat}{rest:List aN}{cu:T AV}{h1:T ah}{bM:Key}{R:Out→T ah→Key→Prop}
  (hr:fP C.orc d.hO l aj tm h nx=.ev (.call f args) (.H i o ad ::rest) xU cu h1 bM)
  (hc:aO C f (cj (C.raw f) args h1).1 (cj (C.raw f) args h1).2 bM R)
  (wQ:∀ v h2 aI,R (.ret v) h2 aI→WI C (.staged rest d xU) Q (bp o.dst v cu) h2 aI)
  (atW:∀ a h2 aI,R (.pan a) h2 aI→Q (.pan a) (iy d.ds cu) h2 aI):WI C (.staged l d aj) Q tm h nx:=by
 intro af k cs m1 m2
 have dQ:ia C ⟨{af with tm:=tm,todo:=.staged l d aj ::k},cs,h,nx⟩=fG C (.call f args) {af with tm:=cu,todo:=.staged (.H i o ad ::rest) d xU ::k} {af with tm:=iy d.ds cu,todo:=[]} cs h1 bM:=by
  refine bS m1 ?_
  simp only[cb,hr,mh]
 have hfe:∀ v,bB v {af with tm:=cu,todo:=.staged (.H i o ad ::rest) d xU ::k}=some {af with tm:=bp o.dst v cu,todo:=.staged rest d xU ::k}:=fun v=>by simp only[bB,da]
 refine Q2 (fr:={af with tm:=cu,todo:=.staged (.H i o ad ::rest) d xU ::k}) (c:={af with tm:=iy d.ds cu,todo:=[]}) (cs:=cs) hc (fun v=>⟨_,hfe v⟩) m1 dQ ?_ ?_
 ·intro v h' nx' ej hR hf
  rw[hfe] at hf
  cases hf
  refine(wQ v h' nx' hR {af with tm:=bp o.dst v cu} k cs m1 m2).mono ?_
  rintro m ⟨e2,tm2,hh2,aI,Hx,q2,a2,t2⟩
  refine⟨e2,tm2,hh2,aI,Hx,q2,?_,t2⟩
  cases e2<;>exact a2
 ·intro a h' nx' hR
  simp only[mh]
  exact .now ⟨.pan a,iy d.ds cu,h',nx',_,atW a h' nx' hR,rfl,rfl⟩
theorem WI.awX{l:List J}{la:List (AV×T ah)}{o:J}{rest:List J}{cu:T AV}{h1:T ah}{bM:Key}(hr:ic C.orc l tm h nx=.ev (.alt la) (o ::rest) cu h1 bM)
  (hw:∀ v h2,(v,h2)∈la→WI C (.ops rest) Q (bp o.dst v cu) h2 bM):WI C (.ops l) Q tm h nx:=by
 intro af k cs m1 m2
 have hfe:∀ v,bB v {af with tm:=cu,todo:=.ops (o ::rest) ::k}=some {af with tm:=bp o.dst v cu,todo:=.ops rest ::k}:=fun v=>by simp only[bB,da]
 refine .alt (l:=ai5 {af with tm:=cu,todo:=.ops (o ::rest) ::k} cs bM la) (bS m1 (by simp only[cb,hr,fG,hfe])) ?_
 have key:∀ (q:List (AV×T ah)),(∀ x∈q,x∈la)→∀ m'∈ai5 {af with tm:=cu,todo:=.ops (o ::rest) ::k} cs bM q,Ev C (Stop Q af k cs) m':=by
  intro q
  induction q with
  |nil=>intro _ m' hm;cases hm
  |cons x q ih=>
   obtain⟨v,h2⟩:=x
   intro hq m' hm
   simp only[ai5,hfe] at hm
   rcases JY.1 hm with rfl|hm
   ·refine(hw v h2 (hq (v,h2) (by simp)) {af with tm:=bp o.dst v cu} k cs m1 m2).mono ?_
    rintro m ⟨e2,tm2,hh2,aI,Hx,q2,a2,t2⟩
    refine⟨e2,tm2,hh2,aI,Hx,q2,?_,t2⟩
    cases e2<;>exact a2
   ·exact ih (fun x hx=>hq x (by simp[hx])) m' hm
 exact key la (fun x hx=>hx)
theorem WI.awY{l:List J}{a:AV}{rest:List J}{cu:T AV}{h1:T ah}{bM:Key}(hr:ic C.orc l tm h nx=.ev (.pan a) rest cu h1 bM)(hq:Q (.pan a) cu h1 bM):WI C (.ops l) Q tm h nx:=by
 intro af k cs m1 m2
 refine .step (m':=⟨{af with tm:=cu,todo:=[],mode:=.pan a false},cs,h1,bM⟩) (bS m1 ?_) (.now ⟨.pan a,cu,h1,bM,_,hq,rfl,rfl⟩)
 simp only[cb,hr,fG]
noncomputable def aA5:List Key→List AV→T AV→Option (T AV)
 | [],[],tm=>some tm
 |k ::l,v ::m,tm=>aA5 l m (av k (some v) tm)
 |_,_,_=>none
theorem aiv{R:Type}:∀ (l:List Key) (m:List AV) (tm:T AV) (bad:R) (c:T AV→R),Rt l m tm bad c=match aA5 l m tm with|some tm=>c tm|none=>bad
 | [],[],_,_,_=>rfl
 | [],_ ::_,_,_,_=>rfl
 |_ ::_,[],_,_,_=>rfl
 |k ::l,v ::m,tm,bad,c=>by
  show sx k (some v) tm (fun tm=>Rt l m tm bad c)=_
  rw[sTCe]
  exact aiv l m _ bad c
def aA6(R:Out→T ah→Key→Prop)(l:Key)(fn:Nat)(tm:T AV)(res:List RV)(ps:List Key)(a b:aG)(d:Key):cX:=fun e _ h nx=>(∃ p,aa l h=some (.loop .busy p fn tm res ps a b d))∧match e with
 |.norm=>R (.ret (.bool true)) (av l (some (.loop .ready none fn tm res ps a b d)) h) nx
 |.ret=>R (.ret (.bool false)) (av l (some (.loop .done (some .ret) fn tm res ps a b d)) h) nx
 |.exit i=>R (.ret (.bool false)) (av l (some (.loop .done (some (.exit i)) fn tm res ps a b d)) h) nx
 |.pan _=>False
def Sd(C:dm)(l:Key)(args:List AV)(h:T ah)(nx:Key)(R:Out→T ah→Key→Prop):Prop:=
 ∃ fn tm res ps a b d,(∃ p,aa l h=some (.loop .ready p fn tm res ps a b d))∧∃ cu,aA5 ps args tm=some cu∧
  W C a (fun e tm2 h2 aI=>e=.norm∧∃ p,aa l h2=some (.loop .ready p fn tm res ps a b d)∧W C b (aA6 R l fn tm res ps a b d) tm2 (av l (some (.loop .busy p fn tm res ps a b d)) h2) aI) cu h nx
theorem CA{jump:Option aG}{fr c c':kU}{cs:List kU}{l:Key}{st:LS}{p:Option aG}{fn:Nat}{cu:T AV}{res:List RV}{ps:List Key}{a b:aG}{d:Key}(hr:fr.sy=some l)(hl:aa l h=some (.loop st p fn cu res ps a b d))
  (hf:bB (.bool (match jump with|none=>true|some _=>false)) c=some c'):EF jump fr (c ::cs) h nx=.next ⟨c',cs,av l (some (.loop (match jump with|none=>.ready|some _=>.done) jump fn cu res ps a b d)) h,nx⟩:=by
 unfold EF
 rw[hr]
 dsimp only
 rw[hl]
 cases jump with
 |none=>
  have hf:bB (.bool true) c=some c':=hf
  simp only[sTCe,hf]
 |some j=>
  have hf:bB (.bool false) c=some c':=hf
  simp only[sTCe,hf]
theorem aiw{S:AM→Prop}{l:Key}{args:List AV}{fr c:kU}{cs:List kU}{R:Out→T ah→Key→Prop}(hc:Sd C l args h nx R)
  (JZ:∀ v,∃ ej,bB v fr=some ej) {m:AM} (hm:ia C m=fG C (.yld l args) fr c cs h nx)
  (wQ:∀ v h' nx' ej,R (.ret v) h' nx'→bB v fr=some ej→Ev C S ⟨ej,cs,h',nx'⟩):Ev C S m:=by
 obtain⟨fn,tm,res,ps,a,b,d,⟨p,hl⟩,cu,hz,hw⟩:=hc
 refine .step (m':=⟨{fn:=fn,tm:=cu,todo:=[.code a,.beginRound,.code b],dfs:=[],mode:=.run,Bs:=false,sy:=some l,res:=res},fr ::cs,h,nx⟩) ?_ ?_
 ·rw[hm]
  simp only[fG,hl,aiv,hz]
 ·refine(hw {fn:=fn,tm:=cu,todo:=[],dfs:=[],mode:=.run,Bs:=false,sy:=some l,res:=res} [.beginRound,.code b] (fr ::cs) rfl trivial).bind ?_
  rintro m2 ⟨e,tm2,h2,aI,Hx,⟨rfl,p2,Kb,hw2⟩,ha,rfl⟩
  cases ha
  refine .step (m':=⟨{fn:=fn,tm:=tm2,todo:=[.code b],dfs:=[],mode:=.run,Bs:=false,sy:=some l,res:=res},fr ::cs,av l (some (.loop .busy p2 fn tm res ps a b d)) h2,aI⟩) (bS rfl ?_) ?_
  ·simp only[cb,Kb,sTCe]
  ·refine(hw2 {fn:=fn,tm:=tm2,todo:=[],dfs:=[],mode:=.run,Bs:=false,sy:=some l,res:=res} [] (fr ::cs) rfl trivial).bind ?_
   rintro m3 ⟨e,Fc,h3,bu,fr3,⟨⟨p3,hl3⟩,q⟩,ha,rfl⟩
   cases e with
   |norm=>
    cases ha
    obtain⟨ej,hf⟩:=JZ (.bool true)
    refine .step (m':=⟨ej,cs,_,bu⟩) (bS rfl ?_) (wQ _ _ bu ej q hf)
    exact CA (jump:=none) (fr:={fn:=fn,tm:=Fc,todo:=[],dfs:=[],mode:=.run,Bs:=false,sy:=some l,res:=res}) rfl hl3 hf
   |ret=>
    obtain⟨t,rfl⟩:=ha
    obtain⟨ej,hf⟩:=JZ (.bool false)
    refine .step (m':=⟨ej,cs,_,bu⟩) (bS rfl ?_) (wQ _ _ bu ej q hf)
    exact CA (jump:=some .ret) (fr:={fn:=fn,tm:=Fc,todo:=.code .ret ::t,dfs:=[],mode:=.run,Bs:=false,sy:=some l,res:=res}) rfl hl3 hf
   |exit i=>
    obtain⟨k2,hk,rfl⟩:=ha
    obtain⟨ej,hf⟩:=JZ (.bool false)
    refine .step (m':=⟨ej,cs,_,bu⟩) (bS rfl ?_) (wQ _ _ bu ej q hf)
    have hk:mO i k2=none:=hk
    simp only[cb,hk]
    exact CA (jump:=some (.exit i)) (fr:={fn:=fn,tm:=Fc,todo:=.code (.exit i) ::k2,dfs:=[],mode:=.run,Bs:=false,sy:=some l,res:=res}) rfl hl3 hf
   |pan a=>exact q.elim
theorem WI.awZ{l:List J}{lk:Key}{args:List AV}{o:J}{rest:List J}{cu:T AV}{h1:T ah}{bM:Key}{R:Out→T ah→Key→Prop}(hr:ic C.orc l tm h nx=.ev (.yld lk args) (o ::rest) cu h1 bM)
  (hc:Sd C lk args h1 bM R) (wQ:∀ v h2 aI,R (.ret v) h2 aI→WI C (.ops rest) Q (bp o.dst v cu) h2 aI):WI C (.ops l) Q tm h nx:=by
 intro af k cs m1 m2
 have dQ:ia C ⟨{af with tm:=tm,todo:=.ops l ::k},cs,h,nx⟩=fG C (.yld lk args) {af with tm:=cu,todo:=.ops (o ::rest) ::k} {af with tm:=cu,todo:=[]} cs h1 bM:=by
  refine bS m1 ?_
  simp only[cb,hr]
 have hfe:∀ v,bB v {af with tm:=cu,todo:=.ops (o ::rest) ::k}=some {af with tm:=bp o.dst v cu,todo:=.ops rest ::k}:=fun v=>by simp only[bB,da]
 refine aiw (fr:={af with tm:=cu,todo:=.ops (o ::rest) ::k}) (c:={af with tm:=cu,todo:=[]}) (cs:=cs) hc (fun v=>⟨_,hfe v⟩) dQ ?_
 intro v h' nx' ej hR hf
 rw[hfe] at hf
 cases hf
 refine(wQ v h' nx' hR {af with tm:=bp o.dst v cu} k cs m1 m2).mono ?_
 rintro m ⟨e2,tm2,hh2,aI,Hx,q2,a2,t2⟩
 refine⟨e2,tm2,hh2,aI,Hx,q2,?_,t2⟩
 cases e2<;>exact a2
theorem WI.aA7{l:List aN}{d:SD}{aj xU:List (Nat×Key×ah)}{lk:Key}{args:List AV}{i:Nat}{o:J}{ad:List Nat}{rest:List aN}{cu:T AV}{h1:T ah}{bM:Key}{R:Out→T ah→Key→Prop}
  (hr:fP C.orc d.hO l aj tm h nx=.ev (.yld lk args) (.H i o ad ::rest) xU cu h1 bM)
  (hc:Sd C lk args h1 bM R) (wQ:∀ v h2 aI,R (.ret v) h2 aI→WI C (.staged rest d xU) Q (bp o.dst v cu) h2 aI):WI C (.staged l d aj) Q tm h nx:=by
 intro af k cs m1 m2
 have dQ:ia C ⟨{af with tm:=tm,todo:=.staged l d aj ::k},cs,h,nx⟩=fG C (.yld lk args) {af with tm:=cu,todo:=.staged (.H i o ad ::rest) d xU ::k} {af with tm:=iy d.ds cu,todo:=[]} cs h1 bM:=by
  refine bS m1 ?_
  simp only[cb,hr,mh]
 have hfe:∀ v,bB v {af with tm:=cu,todo:=.staged (.H i o ad ::rest) d xU ::k}=some {af with tm:=bp o.dst v cu,todo:=.staged rest d xU ::k}:=fun v=>by simp only[bB,da]
 refine aiw (fr:={af with tm:=cu,todo:=.staged (.H i o ad ::rest) d xU ::k}) (c:={af with tm:=iy d.ds cu,todo:=[]}) (cs:=cs) hc (fun v=>⟨_,hfe v⟩) dQ ?_
 intro v h' nx' ej hR hf
 rw[hfe] at hf
 cases hf
 refine(wQ v h' nx' hR {af with tm:=bp o.dst v cu} k cs m1 m2).mono ?_
 rintro m ⟨e2,tm2,hh2,aI,Hx,q2,a2,t2⟩
 refine⟨e2,tm2,hh2,aI,Hx,q2,?_,t2⟩
 cases e2<;>exact a2
end
end Go.Sx
/-
 SX: how rows of operations are worked out, for data that are not known. No condition.
-/
namespace Go.Sx
def K(n:Nat):Key:=bif Nat.blt n 4095 then Key.eA 12 n else Key.eA n n
theorem m9:∀ (f n:Nat),n+1<2^(f+1)→(Key.eA f n).toNat=n
 |0,n,h=>by
  have:n=0:=by omega
  subst this;rfl
 |f+1,n,h=>by
  unfold Key.eA
  have hp:2^(f+1+1)=2*2^(f+1):=by rw[Nat.pow_succ,Nat.mul_comm]
  cases h0:Nat.beq n 0 with
  |true=>have:=ml h0;subst this;rfl
  |false=>
   have hn:n≠0:=by intro e;subst e;cases h0
   simp only[cond_false]
   cases h1:Nat.beq (n%2) 1 with
   |true=>
    have h1:=ml h1
    simp only[cond_true,Key.toNat,m9 f (n / 2) (by omega)]
    omega
   |false=>
    have h1:n%2≠1:=by intro e;rw[e] at h1;cases h1
    simp only[cond_false,Key.toNat,m9 f (n / 2-1) (by omega)]
    omega
theorem Lm(n:Nat):(K n).toNat=n:=by
 unfold K
 cases h:Nat.blt n 4095 with
 |true=>
  rw[bltN_eq,decide_eq_true_eq] at h
  exact m9 12 n (by omega)
 |false=>
  refine m9 n n ?_
  have:n+1<2^(n+1):=Nat.lt_two_pow_self
  exact this
theorem aEI{i j:Nat}(h:K i=K j):i=j:=by rw[← Lm i,← Lm j,h]
theorem aAt(n:Nat):(K n).succ=K (n+1):=Key.toNat_inj (by rw[kTSu,Lm,Lm])
theorem get_set_K{α:Type}(i j:Nat)(v:Option α)(t:T α):aa (K i) (av (K j) v t)=if i=j then v else aa (K i) t:=by
 by_cases h:i=j
 ·subst h;rw[if_pos rfl,gTSm]
 ·rw[if_neg h,bZ _ _ _ _ (fun e=>h (aEI e))]
section
variable{orc:gD}{tm:T AV}{h:T ah}{nx:Key}
theorem at_t(k:Key):(PX.t k).at tm=aa k tm:=rfl
theorem at_v(a:AV):(PX.v a).at tm=some a:=rfl
theorem alS:ic orc [] tm h nx=.fin tm h nx:=rfl
theorem putTm_some(k:Key)(v:AV):bp (some k) v tm=av k (some v) tm:=rfl
theorem putTm_none(v:AV):bp none v tm=tm:=rfl
theorem wants_none:b9 none tm=some true:=rfl
theorem wants_some(k:Key)(b:Bool):b9 (some (k,b)) tm=match aa k tm with
  |some (.bool c)=>some (c==b)
  |some (.tuple [])=>some false
  |_=>none:=rfl
theorem ltI_dec(a b:Int):ltI a b=decide (a<b):=Iy a b
theorem au{n:Int}(h1:-9223372036854775808≤n)(h2:n<9223372036854775808):bV .i64 n=n:=by
 rw[iP]
 have:IntKind.wrap .i64 n=n:=by
  rw[← iP]
  simp only[bV,full,half,Iy]
  have h3:Int.emod n 18446744073709551616=n%18446744073709551616:=rfl
  rw[h3]
  by_cases h0:0≤n
  ·rw[show n%18446744073709551616=n by omega]
   have:decide (n<9223372036854775808)=true:=by simpa using h2
   rw[this];rfl
  ·rw[show n%18446744073709551616=n+18446744073709551616 by omega]
   have:decide (n+18446744073709551616<9223372036854775808)=false:=by simp;omega
   rw[this]
   show n+18446744073709551616-18446744073709551616=n
   omega
 exact this
end
end Go.Sx
/-
 SX: what must hold ahead of code, reckoned by program. No condition.
-/
namespace Go.Sx
open Go.RowKit
def wpG(t:Option Bool)(A B:Prop):Prop:=match t with
 |none=>False
 |some t=>(t=true→A)∧(t=false→B)
noncomputable def mF(C:dm)(Q:cX):List J→T AV→T ah→Key→Prop
 | [],tm,h,nx=>Q .norm tm h nx
 |o ::l,tm,h,nx=>wpG (b9 o.guard tm)
   (match aOp C.orc o.op tm h nx with
   |.val v h nx=>mF C Q l (bp o.dst v tm) h nx
   |.call f args=>aO C f (cj (C.raw f) args h).1 (cj (C.raw f) args h).2 nx (fun out h nx=>match out with
    |.ret v=>mF C Q l (bp o.dst v tm) h nx
    |.pan a=>Q (.pan a) tm h nx)
   |.yld k args=>Sd C k args h nx (fun out h nx=>match out with
    |.ret v=>mF C Q l (bp o.dst v tm) h nx
    |.pan a=>Q (.pan a) tm h nx)
   |.pan a=>Q (.pan a) tm h nx
   |.alt la=>∀ v h2,(v,h2)∈la→mF C Q l (bp o.dst v tm) h2 nx
   |_=>False)
   (mF C Q l (bp o.dst (.tuple []) tm) h nx)
noncomputable def wpS(C:dm)(Q:cX)(d:SD):List aN→List (Nat×Key×ah)→T AV→T ah→Key→Prop
 | [],aj,tm,h,nx=>Q .norm tm (cK aj h) nx
 |.L i o ::l,aj,tm,h,nx=>wpG (b9 o.guard tm)
   (match lightOp C.orc o.op tm (tU (AX i d.hO) aj h) with
   |some v=>wpS C Q d l aj (bp o.dst v tm) h nx
   |none=>False)
   (wpS C Q d l aj (bp o.dst (.tuple []) tm) h nx)
 |.A i o ::l,aj,tm,h,nx=>wpG (b9 o.guard tm)
   (match allocOp o.op tm with
   |some (v,b)=>wpS C Q d l ((i,nx,b) ::aj) (bp o.dst (v nx) tm) h nx.succ
   |none=>False)
   (wpS C Q d l aj (bp o.dst (.tuple []) tm) h nx)
 |.H i o ad ::l,aj,tm,h,nx=>wpG (b9 o.guard tm)
   (match aOp C.orc o.op tm (cK (aj.filter fun x=>memN x.1 ad) h) nx with
   |.val v h nx=>wpS C Q d l (aj.filter fun x=>!(memN x.1 ad)) (bp o.dst v tm) h nx
   |.call f args=>aO C f (cj (C.raw f) args (cK (aj.filter fun x=>memN x.1 ad) h)).1 (cj (C.raw f) args (cK (aj.filter fun x=>memN x.1 ad) h)).2 nx (fun out h nx=>match out with
    |.ret v=>wpS C Q d l (aj.filter fun x=>!(memN x.1 ad)) (bp o.dst v tm) h nx
    |.pan a=>Q (.pan a) (iy d.ds tm) h nx)
   |.yld k args=>Sd C k args (cK (aj.filter fun x=>memN x.1 ad) h) nx (fun out h nx=>match out with
    |.ret v=>wpS C Q d l (aj.filter fun x=>!(memN x.1 ad)) (bp o.dst v tm) h nx
    |.pan a=>Q (.pan a) (iy d.ds tm) h nx)
   |.pan a=>Q (.pan a) (iy d.ds tm) (cK (aj.filter fun x=>memN x.1 ad) h) nx
   |_=>False)
   (wpS C Q d l (aj.filter fun x=>!(memN x.1 ad)) (bp o.dst (.tuple []) tm) (cK (aj.filter fun x=>memN x.1 ad) h) nx)
 |.R os ::l,aj,tm,h,nx=>recheck C.orc d.hO aj tm h os=true∧wpS C Q d l aj tm h nx
def aq(W:T AV→T ah→Key→Prop)(Q:cX):cX:=fun e tm h nx=>match e with
 |.norm=>W tm h nx
 |e=>Q e tm h nx
def ak(id:Nat)(Q:cX):cX:=fun e tm h nx=>match e with
 |.exit j=>if j=id then Q .norm tm h nx else Q (.exit j) tm h nx
 |e=>Q e tm h nx
noncomputable def dz(C:dm):aG→cX→T AV→T ah→Key→Prop
 |.skip,Q,tm,h,nx=>Q .norm tm h nx
 |.ops l,Q,tm,h,nx=>mF C Q l tm h nx
 |.staged l d,Q,tm,h,nx=>wpS C Q d l [] tm h nx
 |.seq a b,Q,tm,h,nx=>dz C a (aq (dz C b Q) Q) tm h nx
 |.cond x a b,Q,tm,h,nx=>match x.at tm with
  |some (.bool t)=>(t=true→dz C a Q tm h nx)∧(t=false→dz C b Q tm h nx)
  |_=>False
 |.block id c,Q,tm,h,nx=>dz C c (ak id Q) tm h nx
 |.loop c,Q,tm,h,nx=>W C (.loop c) Q tm h nx
 |.rangeF f ps a b,Q,tm,h,nx=>W C (.rangeF f ps a b) Q tm h nx
 |.exit id,Q,tm,h,nx=>Q (.exit id) tm h nx
 |.ret,Q,tm,h,nx=>Q .ret tm h nx
section
variable{C:dm}{Q:cX}
theorem WI.same{x y:dn}{tm tm2:T AV}{h h2:T ah}{nx aI:Key}(hy:∀ i,y≠.code (Lv i))(hs:∀ (af:kU) (k:List dn) (cs:List kU),af.mode=.run→cb C {af with tm:=tm,todo:=x ::k} cs h nx=cb C {af with tm:=tm2,todo:=y ::k} cs h2 aI)
  (hw:WI C y Q tm2 h2 aI):WI C x Q tm h nx:=by
 intro af k cs h1 PU
 exact Ev.same (by rw[bS (m:=⟨{af with tm:=tm2,todo:=y ::k},cs,h2,aI⟩) h1 rfl,bS (m:=⟨{af with tm:=tm,todo:=x ::k},cs,h,nx⟩) h1 rfl];exact hs af k cs h1)
  (Stop.not hy h1) (hw af k cs h1 PU)
theorem yh:∀ {l:List J} {tm:T AV} {h:T ah} {nx:Key},mF C Q l tm h nx→WI C (.ops l) Q tm h nx
 | [],tm,h,nx,hw=>WI.awV alS hw
 |o ::l,tm,h,nx,hw=>by
  unfold mF at hw
  cases hg:b9 o.guard tm with
  |none=>rw[hg] at hw;exact hw.elim
  |some t=>
   rw[hg] at hw
   have Eg:∀ {tm2:T AV} {h2:T ah} {aI:Key},ic C.orc (o ::l) tm h nx=ic C.orc l tm2 h2 aI→mF C Q l tm2 h2 aI→WI C (.ops (o ::l)) Q tm h nx:=by
    intro tm2 h2 aI he hw2
    refine WI.same (y:=.ops l) (fun i e=>by cases i<;>cases e) ?_ (yh hw2)
    intro af k cs _
    show(match ic C.orc (o ::l) tm h nx with|.fin tm h nx=>_|.ev r rest tm h nx=>_)=(match ic C.orc l tm2 h2 aI with|.fin tm h nx=>_|.ev r rest tm h nx=>_)
    rw[he]
   cases t with
   |false=>
    refine Eg ?_ (hw.2 rfl)
    rw[jU,hg]
    simp only[da]
   |true=>
    have hw:=hw.1 rfl
    cases ha:aOp C.orc o.op tm h nx with
    |val v h' nx'=>
     rw[ha] at hw
     refine Eg ?_ hw
     rw[jU,hg,ha]
     simp only[da]
    |call f args=>
     rw[ha] at hw
     refine WI.atX (by rw[jU,hg,ha]) hw (fun v h2 aI hr=>yh hr) (fun a h2 aI hr=>hr)
    |pan a=>
     rw[ha] at hw
     exact WI.awY (by rw[jU,hg,ha]) hw
    |alt la=>
     rw[ha] at hw
     exact WI.awX (by rw[jU,hg,ha]) (fun v h2 hm=>yh (hw v h2 hm))
    |yld k args=>
     rw[ha] at hw
     exact WI.awZ (by rw[jU,hg,ha]) hw (fun v h2 aI hr=>yh hr)
    |dfr f args=>rw[ha] at hw;exact hw.elim
    |recover=>rw[ha] at hw;exact hw.elim
    |bad n=>rw[ha] at hw;exact hw.elim
theorem C1{d:SD}:∀ {l:List aN} {aj:List (Nat×Key×ah)} {tm:T AV} {h:T ah} {nx:Key},wpS C Q d l aj tm h nx→WI C (.staged l d aj) Q tm h nx
 | [],aj,tm,h,nx,hw=>WI.aA4 (by show BE aj h (fun h=>RS.fin tm h nx)=_;rw[CB]) hw
 |x ::l,aj,tm,h,nx,hw=>by
  have Eg:∀ {pend2:List (Nat×Key×ah)} {tm2:T AV} {h2:T ah} {aI:Key},fP C.orc d.hO (x ::l) aj tm h nx=fP C.orc d.hO l pend2 tm2 h2 aI→wpS C Q d l pend2 tm2 h2 aI→WI C (.staged (x ::l) d aj) Q tm h nx:=by
   intro pend2 tm2 h2 aI he hw2
   refine WI.same (y:=.staged l d pend2) (fun i e=>by cases i<;>cases e) ?_ (C1 hw2)
   intro af k cs _
   show(match fP C.orc d.hO (x ::l) aj tm h nx with|.fin tm h nx=>_|.ev r rest aj tm h nx=>_)=(match fP C.orc d.hO l pend2 tm2 h2 aI with|.fin tm h nx=>_|.ev r rest aj tm h nx=>_)
   rw[he]
  cases x with
  |L i o=>
   unfold wpS at hw
   cases hg:b9 o.guard tm with
   |none=>rw[hg] at hw;exact hw.elim
   |some t=>
    rw[hg] at hw
    cases t with
    |false=>
     refine Eg ?_ (hw.2 rfl)
     rw[S0,hg]
     simp only[da]
    |true=>
     have hw:=hw.1 rfl
     cases hl:lightOp C.orc o.op tm (tU (AX i d.hO) aj h) with
     |none=>rw[hl] at hw;exact hw.elim
     |some v=>
      rw[hl] at hw
      refine Eg ?_ hw
      rw[S0,hg,hl]
      simp only[da]
  |A i o=>
   unfold wpS at hw
   cases hg:b9 o.guard tm with
   |none=>rw[hg] at hw;exact hw.elim
   |some t=>
    rw[hg] at hw
    cases t with
    |false=>
     refine Eg ?_ (hw.2 rfl)
     rw[S6,hg]
     simp only[da]
    |true=>
     have hw:=hw.1 rfl
     cases hl:allocOp o.op tm with
     |none=>rw[hl] at hw;exact hw.elim
     |some vb=>
      obtain⟨v,b⟩:=vb
      rw[hl] at hw
      refine Eg ?_ hw
      rw[S6,hg,hl]
      simp only[da]
  |H i o ad=>
   unfold wpS at hw
   cases hg:b9 o.guard tm with
   |none=>rw[hg] at hw;exact hw.elim
   |some t=>
    rw[hg] at hw
    cases t with
    |false=>
     refine Eg ?_ (hw.2 rfl)
     rw[S7,ux,hg]
     simp only[da]
    |true=>
     have hw:=hw.1 rfl
     have ch:fP C.orc d.hO (.H i o ad ::l) aj tm h nx=(match aOp C.orc o.op tm (cK (aj.filter fun x=>memN x.1 ad) h) nx with
       |.val v h nx=>tT o.dst (some v) tm fun tm=>fP C.orc d.hO l (aj.filter fun x=>!(memN x.1 ad)) tm h nx
       |r=>.ev r (.H i o ad ::l) (aj.filter fun x=>!(memN x.1 ad)) tm (cK (aj.filter fun x=>memN x.1 ad) h) nx):=by
      rw[S7,ux,hg]
      rfl
     cases ha:aOp C.orc o.op tm (cK (aj.filter fun x=>memN x.1 ad) h) nx with
     |val v h' nx'=>
      rw[ha] at hw ch
      refine Eg ?_ hw
      rw[ch]
      simp only[da]
     |call f args=>
      rw[ha] at hw ch
      exact WI.awW ch hw (fun v h2 aI hr=>C1 hr) (fun a h2 aI hr=>hr)
     |pan a=>
      rw[ha] at hw ch
      intro af k cs m1 m2
      refine .step (m':=⟨{af with tm:=iy d.ds tm,todo:=[],mode:=.pan a false},cs,_,nx⟩) (bS m1 ?_) (.now ⟨.pan a,iy d.ds tm,_,nx,_,hw,rfl,rfl⟩)
      simp only[cb,ch,mh,fG]
     |alt la=>rw[ha] at hw;exact hw.elim
     |yld k args=>
      rw[ha] at hw ch
      exact WI.aA7 ch hw (fun v h2 aI hr=>C1 hr)
     |dfr f args=>rw[ha] at hw;exact hw.elim
     |recover=>rw[ha] at hw;exact hw.elim
     |bad n=>rw[ha] at hw;exact hw.elim
  |R os=>
   unfold wpS at hw
   refine Eg ?_ hw.2
   rw[R6,hw.1]
   rfl
theorem oV:∀ {c:aG} {Q:cX} {tm:T AV} {h:T ah} {nx:Key},dz C c Q tm h nx→W C c Q tm h nx
 |.skip,Q,tm,h,nx,hw=>W.skip hw
 |.ops l,Q,tm,h,nx,hw=>W.ops (yh hw)
 |.staged l d,Q,tm,h,nx,hw=>W.staged (C1 hw)
 |.seq a b,Q,tm,h,nx,hw=>by
  have hw:dz C a (aq (dz C b Q) Q) tm h nx:=hw
  refine W.seq ((oV hw).mono fun e tm h nx hq=>?_)
  cases e with
  |norm=>exact oV hq
  |_=>exact hq
 |.cond x a b,Q,tm,h,nx,hw=>by
  unfold dz at hw
  split at hw
  ·rename_i t hx
   refine W.cond hx ?_
   cases t with
   |true=>exact oV (hw.1 rfl)
   |false=>exact oV (hw.2 rfl)
  ·exact hw.elim
 |.block id c,Q,tm,h,nx,hw=>by
  have hw:dz C c (ak id Q) tm h nx:=hw
  refine W.block ((oV hw).mono fun e tm h nx hq=>?_)
  cases e with
  |exit j=>exact hq
  |_=>exact hq
 |.loop c,Q,tm,h,nx,hw=>hw
 |.rangeF f ps a b,Q,tm,h,nx,hw=>hw
 |.exit id,Q,tm,h,nx,hw=>W.exit hw
 |.ret,Q,tm,h,nx,hw=>W.ret hw
theorem aO.of_wp{f:Nat}{p:fO}{l:List AV}{h:T ah}{nx:Key}{R:Out→T ah→Key→Prop}(hs:C.sum f l h nx=none)(hp:DS C f=some p)(hw:dz C p.body (xG C f p.res R) (gI l .z .nil) h nx):aO C f l h nx R:=
 aO.aKH hs hp (oV hw)
end
end Go.Sx
/-
 SX: rules by which 'simp' works code out. No condition.
-/
namespace Go.Sx
noncomputable def A(b:Key):Nat→Key
 |0=>b
 |i+1=>(A b i).succ
theorem amL(b:Key):∀ i,(A b i).toNat=b.toNat+i
 |0=>rfl
 |i+1=>by simp only[A,kTSu,amL b i];omega
@[simp] theorem aJT(b:Key)(i:Nat):(A b i).succ=A b (i+1):=rfl
@[simp] theorem aBX{α:Type}(b:Key)(i j:Nat)(v:Option α)(t:T α):aa (A b i) (av (A b j) v t)=if i=j then v else aa (A b i) t:=by
 by_cases h:i=j
 ·subst h;rw[if_pos rfl,gTSm]
 ·rw[if_neg h,bZ]
  intro e
  have:=congrArg Key.toNat e
  simp only[amL] at this
  omega
theorem UH{α:Type}{b:Key}{c:Key}(v:Option α)(t:T α)(h:b.toNat<c.toNat):aa b (av c v t)=aa b t:=
 bZ _ _ _ _ (fun e=>by rw[e] at h;exact absurd h (Nat.lt_irrefl _))
attribute [simp] get_set_K at_t at_v putTm_some putTm_none wants_none wants_some okV sTCe
@[simp] theorem awb(W:T AV→T ah→Key→Prop)(Q:cX)(tm:T AV)(h:T ah)(nx:Key):aq W Q .norm tm h nx=W tm h nx:=propext Iff.rfl
@[simp] theorem ax4(W:T AV→T ah→Key→Prop)(Q:cX)(tm:T AV)(h:T ah)(nx:Key):aq W Q .ret tm h nx=Q .ret tm h nx:=propext Iff.rfl
@[simp] theorem awc(W:T AV→T ah→Key→Prop)(Q:cX)(i:Nat)(tm:T AV)(h:T ah)(nx:Key):aq W Q (.exit i) tm h nx=Q (.exit i) tm h nx:=propext Iff.rfl
@[simp] theorem ax5(W:T AV→T ah→Key→Prop)(Q:cX)(a:AV)(tm:T AV)(h:T ah)(nx:Key):aq W Q (.pan a) tm h nx=Q (.pan a) tm h nx:=propext Iff.rfl
@[simp] theorem asH(j:Nat)(Q:cX)(tm:T AV)(h:T ah)(nx:Key):ak j Q .norm tm h nx=Q .norm tm h nx:=propext Iff.rfl
@[simp] theorem auJ(j:Nat)(Q:cX)(tm:T AV)(h:T ah)(nx:Key):ak j Q .ret tm h nx=Q .ret tm h nx:=propext Iff.rfl
@[simp] theorem asI(j:Nat)(Q:cX)(i:Nat)(tm:T AV)(h:T ah)(nx:Key):ak j Q (.exit i) tm h nx=if i=j then Q .norm tm h nx else Q (.exit i) tm h nx:=propext Iff.rfl
@[simp] theorem auK(j:Nat)(Q:cX)(a:AV)(tm:T AV)(h:T ah)(nx:Key):ak j Q (.pan a) tm h nx=Q (.pan a) tm h nx:=propext Iff.rfl
theorem Ig{p q:Prop}(h:p↔q):p=q:=propext h
section
variable(C:dm)(Q:cX)(tm:T AV)(h:T ah)(nx:Key)(d:SD)(aj:List (Nat×Key×ah))
@[simp] theorem UI(t:Bool)(A B:Prop):wpG (some t) A B=((t=true→A)∧(t=false→B)):=Ig Iff.rfl
@[simp] theorem aDF(A B:Prop):wpG none A B=False:=Ig Iff.rfl
@[simp] theorem aDG:dz C .skip Q tm h nx=Q .norm tm h nx:=Ig Iff.rfl
@[simp] theorem aQ(l:List J):dz C (.ops l) Q tm h nx=mF C Q l tm h nx:=Ig Iff.rfl
@[simp] theorem aM(l:List aN)(d:SD):dz C (.staged l d) Q tm h nx=wpS C Q d l [] tm h nx:=Ig Iff.rfl
@[simp] theorem aL(a b:aG):dz C (.seq a b) Q tm h nx=dz C a (aq (dz C b Q) Q) tm h nx:=Ig Iff.rfl
@[simp] theorem dF(x:PX)(a b:aG):dz C (.cond x a b) Q tm h nx=(match x.at tm with
  |some (.bool t)=>(t=true→dz C a Q tm h nx)∧(t=false→dz C b Q tm h nx)
  |_=>False):=Ig Iff.rfl
@[simp] theorem gU(id:Nat)(c:aG):dz C (.block id c) Q tm h nx=dz C c (ak id Q) tm h nx:=Ig Iff.rfl
@[simp] theorem aDH(c:aG):dz C (.loop c) Q tm h nx=W C (.loop c) Q tm h nx:=Ig Iff.rfl
@[simp] theorem aDI(id:Nat):dz C (.exit id) Q tm h nx=Q (.exit id) tm h nx:=Ig Iff.rfl
@[simp] theorem aFZ:dz C .ret Q tm h nx=Q .ret tm h nx:=Ig Iff.rfl
@[simp] theorem aF0:mF C Q [] tm h nx=Q .norm tm h nx:=Ig Iff.rfl
def KO(o:J)(l:List J):Out→T ah→Key→Prop:=fun out h nx=>match out with
 |.ret v=>mF C Q l (bp o.dst v tm) h nx
 |.pan a=>Q (.pan a) tm h nx
def KS(o:J)(l:List aN):Out→T ah→Key→Prop:=fun out h nx=>match out with
 |.ret v=>wpS C Q d l aj (bp o.dst v tm) h nx
 |.pan a=>Q (.pan a) (iy d.ds tm) h nx
@[simp] theorem aJU(o:J)(l:List J)(v:AV):KO C Q tm o l (.ret v) h nx=mF C Q l (bp o.dst v tm) h nx:=Ig Iff.rfl
@[simp] theorem aJV(o:J)(l:List J)(a:AV):KO C Q tm o l (.pan a) h nx=Q (.pan a) tm h nx:=Ig Iff.rfl
@[simp] theorem aJW(o:J)(l:List aN)(v:AV):KS C Q tm d aj o l (.ret v) h nx=wpS C Q d l aj (bp o.dst v tm) h nx:=Ig Iff.rfl
@[simp] theorem aJX(o:J)(l:List aN)(a:AV):KS C Q tm d aj o l (.pan a) h nx=Q (.pan a) (iy d.ds tm) h nx:=Ig Iff.rfl
def Pb(o:J)(l:List J)(t:Option Bool):Prop:=wpG t
   (match aOp C.orc o.op tm h nx with
   |.val v h nx=>mF C Q l (bp o.dst v tm) h nx
   |.call f args=>aO C f (cj (C.raw f) args h).1 (cj (C.raw f) args h).2 nx (KO C Q tm o l)
   |.yld k args=>Sd C k args h nx (KO C Q tm o l)
   |.pan a=>Q (.pan a) tm h nx
   |.alt la=>∀ v h2,(v,h2)∈la→mF C Q l (bp o.dst v tm) h2 nx
   |_=>False)
   (mF C Q l (bp o.dst (.tuple []) tm) h nx)
@[simp] theorem aDJ(o:J)(l:List J):mF C Q (o ::l) tm h nx=Pb C Q tm h nx o l (b9 o.guard tm):=Ig (by rw[mF];exact Iff.rfl)
@[simp] theorem aBY(o:J)(l:List J):Pb C Q tm h nx o l (some true)=(match aOp C.orc o.op tm h nx with
   |.val v h nx=>mF C Q l (bp o.dst v tm) h nx
   |.call f args=>aO C f (cj (C.raw f) args h).1 (cj (C.raw f) args h).2 nx (KO C Q tm o l)
   |.yld k args=>Sd C k args h nx (KO C Q tm o l)
   |.pan a=>Q (.pan a) tm h nx
   |.alt la=>∀ v h2,(v,h2)∈la→mF C Q l (bp o.dst v tm) h2 nx
   |_=>False):=by simp[Pb]
@[simp] theorem az4(o:J)(l:List J):Pb C Q tm h nx o l (some false)=mF C Q l (bp o.dst (.tuple []) tm) h nx:=by simp[Pb]
@[simp] theorem aBZ(o:J)(l:List J):Pb C Q tm h nx o l none=False:=by simp[Pb]
@[simp low] theorem aDK(o:J)(l:List J)(t:Bool):Pb C Q tm h nx o l (some t)=((t=true→Pb C Q tm h nx o l (some true))∧(t=false→Pb C Q tm h nx o l (some false))):=by
 cases t<;>simp
@[simp] theorem aF1:wpS C Q d [] aj tm h nx=Q .norm tm (cK aj h) nx:=Ig Iff.rfl
def Pc(i:Nat)(o:J)(l:List aN)(t:Option Bool):Prop:=wpG t
   (match lightOp C.orc o.op tm (tU (AX i d.hO) aj h) with
   |some v=>wpS C Q d l aj (bp o.dst v tm) h nx
   |none=>False)
   (wpS C Q d l aj (bp o.dst (.tuple []) tm) h nx)
@[simp] theorem aOb(i:Nat)(o:J)(l:List aN):wpS C Q d (.L i o ::l) aj tm h nx=Pc C Q tm h nx d aj i o l (b9 o.guard tm):=Ig (by rw[wpS];exact Iff.rfl)
@[simp] theorem aB0(i:Nat)(o:J)(l:List aN):Pc C Q tm h nx d aj i o l (some true)=(match lightOp C.orc o.op tm (tU (AX i d.hO) aj h) with
   |some v=>wpS C Q d l aj (bp o.dst v tm) h nx
   |none=>False):=by simp[Pc]
@[simp] theorem az5(i:Nat)(o:J)(l:List aN):Pc C Q tm h nx d aj i o l (some false)=wpS C Q d l aj (bp o.dst (.tuple []) tm) h nx:=by simp[Pc]
@[simp] theorem aB1(i:Nat)(o:J)(l:List aN):Pc C Q tm h nx d aj i o l none=False:=by simp[Pc]
@[simp low] theorem aDL(i:Nat)(o:J)(l:List aN)(t:Bool):Pc C Q tm h nx d aj i o l (some t)=((t=true→Pc C Q tm h nx d aj i o l (some true))∧(t=false→Pc C Q tm h nx d aj i o l (some false))):=by
 cases t<;>simp
def Pd(i:Nat)(o:J)(l:List aN)(t:Option Bool):Prop:=wpG t
   (match allocOp o.op tm with
   |some (v,b)=>wpS C Q d l ((i,nx,b) ::aj) (bp o.dst (v nx) tm) h nx.succ
   |none=>False)
   (wpS C Q d l aj (bp o.dst (.tuple []) tm) h nx)
@[simp] theorem aOc(i:Nat)(o:J)(l:List aN):wpS C Q d (.A i o ::l) aj tm h nx=Pd C Q tm h nx d aj i o l (b9 o.guard tm):=Ig (by rw[wpS];exact Iff.rfl)
@[simp] theorem aB2(i:Nat)(o:J)(l:List aN):Pd C Q tm h nx d aj i o l (some true)=(match allocOp o.op tm with
   |some (v,b)=>wpS C Q d l ((i,nx,b) ::aj) (bp o.dst (v nx) tm) h nx.succ
   |none=>False):=by simp[Pd]
@[simp] theorem az6(i:Nat)(o:J)(l:List aN):Pd C Q tm h nx d aj i o l (some false)=wpS C Q d l aj (bp o.dst (.tuple []) tm) h nx:=by simp[Pd]
@[simp] theorem aB3(i:Nat)(o:J)(l:List aN):Pd C Q tm h nx d aj i o l none=False:=by simp[Pd]
@[simp low] theorem aDM(i:Nat)(o:J)(l:List aN)(t:Bool):Pd C Q tm h nx d aj i o l (some t)=((t=true→Pd C Q tm h nx d aj i o l (some true))∧(t=false→Pd C Q tm h nx d aj i o l (some false))):=by
 cases t<;>simp
def Pe(o:J)(ad:List Nat)(l:List aN)(t:Option Bool):Prop:=wpG t
   (match aOp C.orc o.op tm (cK (aj.filter fun x=>memN x.1 ad) h) nx with
   |.val v h nx=>wpS C Q d l (aj.filter fun x=>!(memN x.1 ad)) (bp o.dst v tm) h nx
   |.call f args=>aO C f (cj (C.raw f) args (cK (aj.filter fun x=>memN x.1 ad) h)).1 (cj (C.raw f) args (cK (aj.filter fun x=>memN x.1 ad) h)).2 nx (KS C Q tm d (aj.filter fun x=>!(memN x.1 ad)) o l)
   |.yld k args=>Sd C k args (cK (aj.filter fun x=>memN x.1 ad) h) nx (KS C Q tm d (aj.filter fun x=>!(memN x.1 ad)) o l)
   |.pan a=>Q (.pan a) (iy d.ds tm) (cK (aj.filter fun x=>memN x.1 ad) h) nx
   |_=>False)
   (wpS C Q d l (aj.filter fun x=>!(memN x.1 ad)) (bp o.dst (.tuple []) tm) (cK (aj.filter fun x=>memN x.1 ad) h) nx)
@[simp] theorem aOd(i:Nat)(o:J)(ad:List Nat)(l:List aN):wpS C Q d (.H i o ad ::l) aj tm h nx=Pe C Q tm h nx d aj o ad l (b9 o.guard tm):=Ig (by rw[wpS];exact Iff.rfl)
@[simp] theorem aB4(o:J)(ad:List Nat)(l:List aN):Pe C Q tm h nx d aj o ad l (some true)=(match aOp C.orc o.op tm (cK (aj.filter fun x=>memN x.1 ad) h) nx with
   |.val v h nx=>wpS C Q d l (aj.filter fun x=>!(memN x.1 ad)) (bp o.dst v tm) h nx
   |.call f args=>aO C f (cj (C.raw f) args (cK (aj.filter fun x=>memN x.1 ad) h)).1 (cj (C.raw f) args (cK (aj.filter fun x=>memN x.1 ad) h)).2 nx (KS C Q tm d (aj.filter fun x=>!(memN x.1 ad)) o l)
   |.yld k args=>Sd C k args (cK (aj.filter fun x=>memN x.1 ad) h) nx (KS C Q tm d (aj.filter fun x=>!(memN x.1 ad)) o l)
   |.pan a=>Q (.pan a) (iy d.ds tm) (cK (aj.filter fun x=>memN x.1 ad) h) nx
   |_=>False):=by unfold Pe;simp only[UI,true_implies,Bool.true_eq_false,false_implies,and_true]
@[simp] theorem az7(o:J)(ad:List Nat)(l:List aN):Pe C Q tm h nx d aj o ad l (some false)=wpS C Q d l (aj.filter fun x=>!(memN x.1 ad)) (bp o.dst (.tuple []) tm) (cK (aj.filter fun x=>memN x.1 ad) h) nx:=by unfold Pe;simp only[UI,true_implies,Ow,false_implies,true_and]
@[simp] theorem aB5(o:J)(ad:List Nat)(l:List aN):Pe C Q tm h nx d aj o ad l none=False:=by simp[Pe]
@[simp low] theorem aDN(o:J)(ad:List Nat)(l:List aN)(t:Bool):Pe C Q tm h nx d aj o ad l (some t)=((t=true→Pe C Q tm h nx d aj o ad l (some true))∧(t=false→Pe C Q tm h nx d aj o ad l (some false))):=by
 cases t<;>simp only[true_implies,Bool.true_eq_false,Ow,false_implies,and_true,true_and]
@[simp] theorem aOe(os:List (Nat×J))(l:List aN):wpS C Q d (.R os ::l) aj tm h nx=(recheck C.orc d.hO aj tm h os=true∧wpS C Q d l aj tm h nx):=Ig (by rw[wpS])
@[simp] theorem az8:cK [] h=h:=rfl
@[simp] theorem ax6(x:Nat×Key×ah)(p:List (Nat×Key×ah)):cK (x ::p) h=cK p (av x.2.1 (some x.2.2) h):=rfl
@[simp] theorem ax7(orc:gD)(hO:List (Nat×List Nat)):recheck orc hO aj tm h []=true:=rfl
@[simp] theorem awd(orc:gD)(hO:List (Nat×List Nat))(i:Nat)(o:J)(l:List (Nat×J)):recheck orc hO aj tm h ((i,o) ::l)=(match b9 o.guard tm with
  |some false=>match o.dst with
   |none=>false
   |some d=>match aa d tm with
    |some (.tuple [])=>recheck orc hO aj tm h l
    |_=>false
  |some true=>match o.dst with
   |none=>false
   |some d=>match aa d tm,lightOp orc o.op tm (tU (AX i hO) aj h) with
    |some v,some u=>bif AV.beq v u then recheck orc hO aj tm h l else false
    |_,_=>false
  |none=>false):=rfl
end
attribute [simp] memN
def bb(res:List RV)(R:Out→T ah→Key→Prop):cX:=fun e tm h nx=>match e with
 |.norm|.ret=>∃ l,resultsA h tm res=some l∧R (.ret (mP (cn (aY 9999) l h).1)) (cn (aY 9999) l h).2 nx
 |.pan a=>R (.pan a) h nx
 |.exit _=>False
theorem aO.of{C:dm}{f:Nat}{p:fO}{l:List AV}{h:T ah}{nx:Key}{R:Out→T ah→Key→Prop}(hs:C.sum f l h nx=none)(hp:DS C f=some p)(hr:C.mN f=false)(hw:dz C p.body (bb p.res R) (gI l (K 0) .nil) h nx):aO C f l h nx R:=by
 refine aO.of_wp hs hp ?_
 have e:xG C f p.res R=bb p.res R:=by
  funext e tm h nx
  cases e<;>simp only[xG,bb,hr]<;>rfl
 rw[e]
 exact hw
section
variable(res:List RV)(R:Out→T ah→Key→Prop)(tm:T AV)(h:T ah)(nx:Key)
@[simp] theorem aB6:bb res R .ret tm h nx=∃ l,resultsA h tm res=some l∧R (.ret (mP (cn (aY 9999) l h).1)) (cn (aY 9999) l h).2 nx:=Ig Iff.rfl
@[simp] theorem az9:bb res R .norm tm h nx=∃ l,resultsA h tm res=some l∧R (.ret (mP (cn (aY 9999) l h).1)) (cn (aY 9999) l h).2 nx:=Ig Iff.rfl
@[simp] theorem aB7(a:AV):bb res R (.pan a) tm h nx=R (.pan a) h nx:=Ig Iff.rfl
end
attribute [simp] aOp lightOp allocOp newB atAll loadB isCmp beqKind arith
attribute [simp] nth_eq dropL_eq takeC_eq putC_eq appC_eq lenL_eq beqN_eq bltN_eq ltI_dec eqI_eq
@[simp] theorem aF2(a b:Nat):Nat.ble a b=decide (a≤b):=by rw[Bool.eq_iff_iff];simp
@[simp] theorem aF3(a b:Int):Int.add a b=a+b:=rfl
@[simp] theorem aF4(a b:Int):Int.sub a b=a-b:=rfl
@[simp] theorem aF5(a b:Int):Int.mul a b=a*b:=rfl
@[simp] theorem aB8(k:IntKind)(m:Nat):mr (.int k (.lit (m:Int)))=some m:=rfl
@[simp] theorem aAa(k:IntKind):mr (.int k (.lit 0))=some 0:=rfl
@[simp] theorem aB9(k:IntKind):mr (.int k (.lit 1))=some 1:=rfl
@[simp] theorem aCa(k:IntKind)(n:Nat):mr (.int k (.lit (OfNat.ofNat (n+2):Int)))=some (n+2):=rfl
@[simp] theorem aAb(tm:T AV)(d:Nat):jZ tm d none=some d:=rfl
@[simp] theorem aAc(tm:T AV)(d:Nat)(x:PX):jZ tm d (some x)=match x.at tm with|none=>none|some v=>mr v:=rfl
@[simp] theorem aF6(orc:gD)(op:BinOp)(x y:Int):C7 orc op (.lit x) (.lit y)=(match op with
  |.eql=>some (x==y)
  |.neq=>some (!(x==y))
  |.lss=>some (decide (x<y))
  |.leq=>some (!(decide (y<x)))
  |.gtr=>some (decide (y<x))
  |.geq=>some (!(decide (x<y)))
  |_=>none):=by
 cases op<;>simp[C7]
@[simp] theorem aDO(tm:T AV)(cs:List AV):FJ tm [] cs=some cs:=rfl
@[simp] theorem aCb(tm:T AV)(off size:Nat)(x:PX)(r:List (Nat×Nat×PX))(cs:List AV):FJ tm ((off,size,x) ::r) cs =
  (match x.at tm with
  |none=>none
  |some v=>bif Nat.beq (lenL v.cells) size then Ua v.cells off cs none (fun cs=>FJ tm r cs) else none):=rfl
@[simp] theorem aCc(off n:Nat)(l:List AV):tN true off n l=if n≤(l.drop off).length then some (.agg ((l.drop off).take n)) else none:=by
 simp[tN]
@[simp] theorem aAd(off n:Nat)(l:List AV):tN false off n l=l[off]?:=by
 simp[tN]
@[simp] theorem ax8(b:Bool):AV.aK (.bool b)=true:=rfl
@[simp] theorem aAe(b:Bool):AV.cells (.bool b)=[.bool b]:=rfl
@[simp] theorem aAf(k:IntKind)(n:SI):AV.aK (.int k n)=true:=rfl
@[simp] theorem aCd(k:IntKind)(n:SI):AV.cells (.int k n)=[.int k n]:=rfl
@[simp] theorem aAg(n c:Nat):AV.aK (.str n c)=true:=rfl
@[simp] theorem aCe(n c:Nat):AV.cells (.str n c)=[.str n c]:=rfl
@[simp] theorem aAh(b:Key)(off:Nat):AV.aK (.ptr b off)=true:=rfl
@[simp] theorem aCf(b:Key)(off:Nat):AV.cells (.ptr b off)=[.ptr b off]:=rfl
@[simp] theorem ax9:AV.aK (.nilp)=true:=rfl
@[simp] theorem aAi:AV.cells (.nilp)=[.nilp]:=rfl
@[simp] theorem awe(b:Key)(off len sz:Nat):AV.aK (.slice b off len sz)=true:=rfl
@[simp] theorem aya(b:Key)(off len sz:Nat):AV.cells (.slice b off len sz)=[.slice b off len sz]:=rfl
@[simp] theorem ayb:AV.aK (.nils)=true:=rfl
@[simp] theorem aAj:AV.cells (.nils)=[.nils]:=rfl
@[simp] theorem aAk(b:Key):AV.aK (.map b)=true:=rfl
@[simp] theorem aCg(b:Key):AV.cells (.map b)=[.map b]:=rfl
@[simp] theorem ayc:AV.aK (.nilm)=true:=rfl
@[simp] theorem aAl:AV.cells (.nilm)=[.nilm]:=rfl
@[simp] theorem aCh(f:Nat)(first cap:List AV):AV.aK (.fn f first cap)=true:=rfl
@[simp] theorem aDP(f:Nat)(first cap:List AV):AV.cells (.fn f first cap)=[.fn f first cap]:=rfl
@[simp] theorem ayd:AV.aK (.nilf)=true:=rfl
@[simp] theorem aAm:AV.cells (.nilf)=[.nilf]:=rfl
@[simp] theorem awf(t:Nat)(v:AV):AV.aK (.iface t v)=true:=rfl
@[simp] theorem aye(t:Nat)(v:AV):AV.cells (.iface t v)=[.iface t v]:=rfl
@[simp] theorem ayf:AV.aK (.nili)=true:=rfl
@[simp] theorem aAn:AV.cells (.nili)=[.nili]:=rfl
@[simp] theorem aCi(l:List AV)(len sz:Nat)(fl:SF):AV.aK (.sl l len sz fl)=true:=rfl
@[simp] theorem aDQ(l:List AV)(len sz:Nat)(fl:SF):AV.cells (.sl l len sz fl)=[.sl l len sz fl]:=rfl
@[simp] theorem ayg(l:List AV):AV.aK (.cref l)=true:=rfl
@[simp] theorem aAo(l:List AV):AV.cells (.cref l)=[.cref l]:=rfl
@[simp] theorem aAp(l:List AV):AV.aK (.agg l)=false:=rfl
@[simp] theorem aCj(l:List AV):AV.cells (.agg l)=l:=rfl
@[simp] theorem awg(l:List AV)(h:T ah):cj false l h=cn (aY 9999) l h:=rfl
@[simp] theorem ayh(l:List AV)(h:T ah):cj true l h=(l,h):=rfl
@[simp] theorem aCk(g:AV→T ah→AV×T ah)(h:T ah):cn g [] h=([],h):=rfl
@[simp] theorem aAq(g:AV→T ah→AV×T ah)(v:AV)(l:List AV)(h:T ah):cn g (v ::l) h=((g v h).1 ::(cn g l (g v h).2).1,(cn g l (g v h).2).2):=rfl
section
variable(n:Nat)(h:T ah)
@[simp] theorem aDR(k:IntKind)(i:SI):aY n (.int k i) h=(.int k i,h):=by cases n<;>rfl
@[simp] theorem aCl(b:Bool):aY n (.bool b) h=(.bool b,h):=by cases n<;>rfl
@[simp] theorem aDS(a b:Nat):aY n (.str a b) h=(.str a b,h):=by cases n<;>rfl
@[simp] theorem aDT(b:Key)(o:Nat):aY n (.ptr b o) h=(.ptr b o,h):=by cases n<;>rfl
@[simp] theorem aCm:aY n .nilp h=(.nilp,h):=by cases n<;>rfl
@[simp] theorem aCn:aY n .nils h=(.nils,h):=by cases n<;>rfl
@[simp] theorem aDU(b:Key):aY n (.map b) h=(.map b,h):=by cases n<;>rfl
@[simp] theorem aCo:aY n .nilm h=(.nilm,h):=by cases n<;>rfl
@[simp] theorem aF7(f:Nat)(a c:List AV):aY n (.fn f a c) h=(.fn f a c,h):=by cases n<;>rfl
@[simp] theorem aCp:aY n .nilf h=(.nilf,h):=by cases n<;>rfl
@[simp] theorem aAr(t:Nat)(v:AV):aY n (.iface t v) h=(.iface t v,h):=by cases n<;>rfl
@[simp] theorem aCq:aY n .nili h=(.nili,h):=by cases n<;>rfl
@[simp] theorem aCr(l:List AV):aY n (.cref l) h=(.cref l,h):=by cases n<;>rfl
@[simp] theorem aAs(l:List AV):aY n (.tuple l) h=(.tuple l,h):=by cases n<;>rfl
@[simp] theorem aF8(l:List AV)(m z:Nat)(f:SF):aY (n+1) (.sl l m z f) h=(.sl l m z .any,h):=rfl
@[simp] theorem aDV(l:List AV)(m z:Nat)(f:SF):aY 9999 (.sl l m z f) h=(.sl l m z .any,h):=rfl
@[simp] theorem aDW(l:List AV)(m z:Nat)(f:SF):aY 9998 (.sl l m z f) h=(.sl l m z .any,h):=rfl
@[simp] theorem Ih(l:List AV):aY 9999 (.agg l) h=(.agg (cn (aY 9998) l h).1,(cn (aY 9998) l h).2):=rfl
end
@[simp] theorem ayi(k:Key)(tm:T AV):gI [] k tm=tm:=rfl
@[simp] theorem awh(v:AV)(l:List AV)(i:Nat)(tm:T AV):gI (v ::l) (K i) tm=gI l (K (i+1)) (av (K i) (some v) tm):=by
 simp only[gI,aAt]
@[simp] theorem aAu(v:AV):mP [v]=v:=rfl
@[simp] theorem aAv(v u:AV)(l:List AV):mP (v ::u ::l)=.tuple (v ::u ::l):=rfl
attribute [simp] resultsA
@[simp] theorem AV.all_nil:([]:List AV).all AV.aK=true:=rfl
attribute [simp] gTSm setK findK keyEq kTSu
theorem az{α:Type}{b c:Key}{v:Option α}{t:T α}(h:b.toNat<c.toNat):aa b (av c v t)=aa b t:=UH v t h
@[simp] theorem set_set{α:Type}(k:Key)(v u:Option α):∀ (t:T α),av k v (av k u t)=av k v t:=by
 induction k with
 |z=>intro t;cases t<;>rfl
 |o k ih=>intro t;cases t<;>simp only[T.asJ,T.Ii,ih]
 |e k ih=>intro t;cases t<;>simp only[T.asK,T.Ij,ih]
structure Ext(h:T ah)(nx:Key)(h':T ah)(nx':Key):Prop where
 n:nx.toNat≤nx'.toNat
 g:∀ b:Key,b.toNat<nx.toNat→aa b h'=aa b h
theorem Ext.refl(h:T ah)(nx:Key):Ext h nx h nx:=⟨fe _,fun _ _=>rfl⟩
theorem Ext.trans{h1 h2 h3:T ah}{n1 n2 n3:Key}(a:Ext h1 n1 h2 n2)(b:Ext h2 n2 h3 n3):Ext h1 n1 h3 n3:=
 ⟨Nat.le_trans a.n b.n,fun k hk=>(b.g k (LO hk a.n)).trans (a.g k hk)⟩
@[simp] theorem aAw(a b:Bool):AV.beq (.bool a) (.bool b)=(a==b):=rfl
@[simp] theorem aF9(orc:gD)(a b:Bool):gJ orc .bool (.bool a) (.bool b)=some (a==b):=by simp[gJ]
@[simp] theorem eq_int(orc:gD)(k:IntKind)(a b:SI):gJ orc .int (.int k a) (.int k b)=C7 orc .eql a b:=by cases k<;>simp[gJ]
@[simp] theorem aDX(orc:gD)(l:List (Nat×sW))(a b:List AV):gJ orc (.parts l) (.agg a) (.agg b)=cD orc l a b:=by simp[gJ]
@[simp] theorem ayj(orc:gD)(a b:List AV):cD orc [] a b=some true:=by simp[cD]
@[simp] theorem awi(orc:gD)(off:Nat)(p:sW)(l:List (Nat×sW))(a b:List AV):cD orc ((off,p) ::l) a b=(match nth off a,nth off b with
  |some x,some y=>match gJ orc p x y with
   |some true=>cD orc l a b
   |some false=>some false
   |none=>none
  |_,_=>none):=by rw[cD];rfl
section
variable{C:dm}{Q:cX}{tm:T AV}{h:T ah}{nx:Key}
theorem W.di{c:aG}(Inv:Nat→T AV→T ah→Key→Prop){n:Nat}(hi:Inv n tm h nx)(hw:∀ n tm h nx,Inv n tm h nx→W C c (aq (fun tm h nx=>∃ m,m<n∧Inv m tm h nx) Q) tm h nx):W C (.loop c) Q tm h nx:=
 W.loop Inv (fun n tm h nx hi=>WI.mono (hw n tm h nx hi) fun e tm h nx hq=>by cases e<;>exact hq) hi
theorem W.Bl{c:aG}(h1:W C c (aq (W C (.loop c) Q) Q) tm h nx):W C (.loop c) Q tm h nx:=by
 intro af k cs m1 m2
 refine .step (m':=⟨{af with tm:=tm,todo:=.code c ::.inLoop c ::k},cs,h,nx⟩) (bS m1 rfl) ((h1 af (.inLoop c ::k) cs m1 m2).bind ?_)
 rintro m ⟨e,an,h',nx',fr,q,ha,rfl⟩
 cases e with
 |norm=>
  cases ha
  have q2:WI C (.inLoop c) Q an h' nx':=WI.same (y:=.code (.loop c)) (fun i e=>by cases i<;>cases e) (fun _ _ _ _=>rfl) q
  refine(q2 {af with tm:=an} k cs m1 m2).mono ?_
  rintro m ⟨e2,tm2,hh2,aI,Hx,q2,a2,t2⟩
  refine⟨e2,tm2,hh2,aI,Hx,q2,?_,t2⟩
  cases e2<;>exact a2
 |ret=>exact .now ⟨.ret,an,h',nx',fr,q,ha,rfl⟩
 |exit id=>
  obtain⟨k2,e1,e2⟩:=ha
  exact .now ⟨.exit id,an,h',nx',fr,q,⟨k2,e1,e2⟩,rfl⟩
 |pan a=>exact .now ⟨.pan a,an,h',nx',fr,q,ha,rfl⟩
theorem W.of{c:aG}(h1:dz C c Q tm h nx):W C c Q tm h nx:=oV h1
end
@[simp] theorem aDY{R:Type}(l:List AV)(h:T ah)(c:List AV→T ah→R):HE (frz 9999) l h c=c (cn (aY 9999) l h).1 (cn (aY 9999) l h).2:=sX (Bq 9999) l h c
attribute [simp] appendTo repL_eq
@[simp] theorem aDZ(i:Nat):AX i []=[]:=rfl
@[simp] theorem aCs(i j:Nat)(l:List Nat)(r:List (Nat×List Nat)):AX i ((j,l) ::r)=if i=j then l else AX i r:=by simp[AX]
@[simp] theorem aCt(p:List (Nat×Key×ah))(h:T ah):tU [] p h=h:=rfl
@[simp] theorem aAx(a:Nat)(l:List Nat)(p:List (Nat×Key×ah))(h:T ah):tU (a ::l) p h=cK (p.filter fun x=>memN x.1 (a ::l)) h:=by
 show Bg (a ::l) p h (fun _ h=>h)=_
 rw[ux]
end Go.Sx
/-
 SX: slots by name. No condition.
-/
namespace Go.Sx
theorem bT{k:Key}{n:Nat}(h:Key.beq k (K n)=true):k=K n:=Key.eq_of_beq h
def k0:Key:=.z
def k1:Key:=.o k0
def k2:Key:=.e k0
def k3:Key:=.o k1
def k4:Key:=.e k1
def k5:Key:=.o k2
def k6:Key:=.e k2
def k7:Key:=.o k3
def k8:Key:=.e k3
def k9:Key:=.o k4
def cz:Key:=.e k4
def dH:Key:=.o k5
def ez:Key:=.e k5
def gj:Key:=.o k6
def dT:Key:=.e k6
def dX:Key:=.o k7
def dM:Key:=.e k7
def fA:Key:=.o k8
def gF:Key:=.e k8
def fH:Key:=.o k9
def gG:Key:=.e k9
def jl:Key:=.o cz
def iF:Key:=.e cz
def jN:Key:=.o dH
def iG:Key:=.e dH
def iM:Key:=.o ez
def iN:Key:=.e ez
def jm:Key:=.o gj
def ly:Key:=.e gj
def lW:Key:=.o dT
def kW:Key:=.e dT
def mC:Key:=.o dX
def lz:Key:=.e dX
def mz:Key:=.o dM
def mD:Key:=.e dM
def j9:Key:=.o fA
def mA:Key:=.e fA
def lI:Key:=.o gF
def kb:Key:=.e gF
def kJ:Key:=.o fH
def aS:Key:=.e fH
def lr:Key:=.o gG
def my:Key:=.e gG
def jY:Key:=.o jl
def pW:Key:=.e jl
def qC:Key:=.o iF
def qs:Key:=.e iF
def sG:Key:=.o jN
def tn:Key:=.e jN
def nV:Key:=.o iG
def uc:Key:=.e iG
def qD:Key:=.o iM
def nW:Key:=.e iM
def tp:Key:=.o iN
def qE:Key:=.e iN
def qF:Key:=.o jm
def qQ:Key:=.e jm
def qR:Key:=.o ly
def mE:Key:=.e ly
def ud:Key:=.o lW
def ue:Key:=.e lW
def u7:Key:=.o kW
def tq:Key:=.e kW
def lX:Key:=.o mC
def vE:Key:=.e mC
def vG:Key:=.o lz
def vH:Key:=.e lz
def sH:Key:=.o mz
def sI:Key:=.e mz
def u9:Key:=.o mD
def vf:Key:=.e mD
def vd:Key:=.o j9
def wv:Key:=.e j9
def ug:Key:=.o mA
def uh:Key:=.e mA
def ui:Key:=.o lI
def zD:Key:=.e lI
def yx:Key:=.o kb
def vJ:Key:=.e kb
def Ba:Key:=.o kJ
def Bb:Key:=.e kJ
def Bc:Key:=.o aS
def zE:Key:=.e aS
def Bd:Key:=.o lr
def Dc:Key:=.e lr
def DP:Key:=.o my
def DQ:Key:=.e my
def GJ:Key:=.o jY
def wx:Key:=.e jY
def Hz:Key:=.o pW
def GK:Key:=.e pW
def Js:Key:=.o qC
def Jt:Key:=.e qC
def Ju:Key:=.o qs
def HA:Key:=.e qs
def Om:Key:=.o sG
def H8:Key:=.e sG
def O4:Key:=.o tn
def Uv:Key:=.e tn
def k99:Key:=.o nV
def EK:Key:=.e nV
def EL:Key:=.o uc
def yP:Key:=.e uc
def Dd:Key:=.o qD
def wy:Key:=.e qD
def De:Key:=.o nW
def EM:Key:=.e nW
def EN:Key:=.o tp
def H9:Key:=.e tp
def GL:Key:=.o qE
def O5:Key:=.e qE
def ajz:Key:=.o qF
def apJ:Key:=.e qF
def Kd:Key:=.o qQ
def apK:Key:=.e qQ
def R2:Key:=.o qR
def apL:Key:=.e qR
def apM:Key:=.o mE
def apN:Key:=.e mE
def Ke:Key:=.o ud
def EO:Key:=.e ud
def apO:Key:=.o ue
def apP:Key:=.e ue
def apQ:Key:=.o u7
def R3:Key:=.e u7
def apR:Key:=.o tq
def apS:Key:=.e tq
def apT:Key:=.o lX
def apU:Key:=.e lX
def apV:Key:=.o vE
def apW:Key:=.e vE
def apX:Key:=.o vG
def apY:Key:=.e vG
def Kf:Key:=.o vH
def ajA:Key:=.e vH
def ajB:Key:=.o sH
def ajC:Key:=.e sH
def ajD:Key:=.o sI
def ajE:Key:=.e sI
def ajF:Key:=.o u9
def ajG:Key:=.e u9
def ajH:Key:=.o vf
def Uw:Key:=.e vf
def ajI:Key:=.o vd
def apZ:Key:=.e vd
def azs:Key:=.o wv
def azt:Key:=.e wv
def azu:Key:=.o ug
def azv:Key:=.e ug
def azw:Key:=.o uh
def azx:Key:=.e uh
def azy:Key:=.o ui
def azz:Key:=.e ui
def azA:Key:=.o zD
def azB:Key:=.e zD
def azC:Key:=.o yx
def azD:Key:=.e yx
def azE:Key:=.o vJ
def azF:Key:=.e vJ
def azG:Key:=.o Ba
def azH:Key:=.e Ba
def azI:Key:=.o Bb
def azJ:Key:=.e Bb
def azK:Key:=.o Bc
def azL:Key:=.e Bc
def aDr:Key:=.o zE
def aHt:Key:=.e GK
def aHu:Key:=.o wy
def aHv:Key:=.o aHt
def aHm:Key:=.e aHu
def aHn:Key:=.e aHv
@[simp] theorem aQf:k0=K 0:=bT rfl
@[simp] theorem aQg:k1=K 1:=bT rfl
@[simp] theorem aQh:k2=K 2:=bT rfl
@[simp] theorem aQi:k3=K 3:=bT rfl
@[simp] theorem aQj:k4=K 4:=bT rfl
@[simp] theorem aQk:k5=K 5:=bT rfl
@[simp] theorem aQl:k6=K 6:=bT rfl
@[simp] theorem aQm:k7=K 7:=bT rfl
@[simp] theorem aQn:k8=K 8:=bT rfl
@[simp] theorem aQo:k9=K 9:=bT rfl
@[simp] theorem aMr:cz=K 10:=bT rfl
@[simp] theorem aMs:dH=K 11:=bT rfl
@[simp] theorem aMt:ez=K 12:=bT rfl
@[simp] theorem aMu:gj=K 13:=bT rfl
@[simp] theorem aMv:dT=K 14:=bT rfl
@[simp] theorem aMw:dX=K 15:=bT rfl
@[simp] theorem aMx:dM=K 16:=bT rfl
@[simp] theorem aMy:fA=K 17:=bT rfl
@[simp] theorem aMz:gF=K 18:=bT rfl
@[simp] theorem aMA:fH=K 19:=bT rfl
@[simp] theorem aMB:gG=K 20:=bT rfl
@[simp] theorem aMC:jl=K 21:=bT rfl
@[simp] theorem aMD:iF=K 22:=bT rfl
@[simp] theorem aME:jN=K 23:=bT rfl
@[simp] theorem aMF:iG=K 24:=bT rfl
@[simp] theorem aMG:iM=K 25:=bT rfl
@[simp] theorem aMH:iN=K 26:=bT rfl
@[simp] theorem aMI:jm=K 27:=bT rfl
@[simp] theorem aMJ:ly=K 28:=bT rfl
@[simp] theorem aMK:lW=K 29:=bT rfl
@[simp] theorem aML:kW=K 30:=bT rfl
@[simp] theorem aMM:mC=K 31:=bT rfl
@[simp] theorem aMN:lz=K 32:=bT rfl
@[simp] theorem aMO:mz=K 33:=bT rfl
@[simp] theorem aMP:mD=K 34:=bT rfl
@[simp] theorem aMQ:j9=K 35:=bT rfl
@[simp] theorem aMR:mA=K 36:=bT rfl
@[simp] theorem aMS:lI=K 37:=bT rfl
@[simp] theorem aMT:kb=K 38:=bT rfl
@[simp] theorem aMU:kJ=K 39:=bT rfl
@[simp] theorem aMV:aS=K 40:=bT rfl
@[simp] theorem aMW:lr=K 41:=bT rfl
@[simp] theorem aMX:my=K 42:=bT rfl
@[simp] theorem aMY:jY=K 43:=bT rfl
@[simp] theorem aMZ:pW=K 44:=bT rfl
@[simp] theorem aM0:qC=K 45:=bT rfl
@[simp] theorem aM1:qs=K 46:=bT rfl
@[simp] theorem aM2:sG=K 47:=bT rfl
@[simp] theorem aM3:tn=K 48:=bT rfl
@[simp] theorem aM4:nV=K 49:=bT rfl
@[simp] theorem aM5:uc=K 50:=bT rfl
@[simp] theorem aM6:qD=K 51:=bT rfl
@[simp] theorem aM7:nW=K 52:=bT rfl
@[simp] theorem aM8:tp=K 53:=bT rfl
@[simp] theorem aM9:qE=K 54:=bT rfl
@[simp] theorem aNa:qF=K 55:=bT rfl
@[simp] theorem aNb:qQ=K 56:=bT rfl
@[simp] theorem aNc:qR=K 57:=bT rfl
@[simp] theorem aNd:mE=K 58:=bT rfl
@[simp] theorem aNe:ud=K 59:=bT rfl
@[simp] theorem aNf:ue=K 60:=bT rfl
@[simp] theorem aNg:u7=K 61:=bT rfl
@[simp] theorem aNh:tq=K 62:=bT rfl
@[simp] theorem aNi:lX=K 63:=bT rfl
@[simp] theorem aNj:vE=K 64:=bT rfl
@[simp] theorem aNk:vG=K 65:=bT rfl
@[simp] theorem aNl:vH=K 66:=bT rfl
@[simp] theorem aNm:sH=K 67:=bT rfl
@[simp] theorem aNn:sI=K 68:=bT rfl
@[simp] theorem aNo:u9=K 69:=bT rfl
@[simp] theorem aNp:vf=K 70:=bT rfl
@[simp] theorem aNq:vd=K 71:=bT rfl
@[simp] theorem aNr:wv=K 72:=bT rfl
@[simp] theorem aNs:ug=K 73:=bT rfl
@[simp] theorem aNt:uh=K 74:=bT rfl
@[simp] theorem aNu:ui=K 75:=bT rfl
@[simp] theorem aNv:zD=K 76:=bT rfl
@[simp] theorem aNw:yx=K 77:=bT rfl
@[simp] theorem aNx:vJ=K 78:=bT rfl
@[simp] theorem aNy:Ba=K 79:=bT rfl
@[simp] theorem aNz:Bb=K 80:=bT rfl
@[simp] theorem aNA:Bc=K 81:=bT rfl
@[simp] theorem aNB:zE=K 82:=bT rfl
@[simp] theorem aNC:Bd=K 83:=bT rfl
@[simp] theorem aND:Dc=K 84:=bT rfl
@[simp] theorem aNE:DP=K 85:=bT rfl
@[simp] theorem aNF:DQ=K 86:=bT rfl
@[simp] theorem aNG:GJ=K 87:=bT rfl
@[simp] theorem aNH:wx=K 88:=bT rfl
@[simp] theorem aNI:Hz=K 89:=bT rfl
@[simp] theorem aNJ:GK=K 90:=bT rfl
@[simp] theorem aNK:Js=K 91:=bT rfl
@[simp] theorem aNL:Jt=K 92:=bT rfl
@[simp] theorem aNM:Ju=K 93:=bT rfl
@[simp] theorem aNN:HA=K 94:=bT rfl
@[simp] theorem aNO:Om=K 95:=bT rfl
@[simp] theorem aNP:H8=K 96:=bT rfl
@[simp] theorem aNQ:O4=K 97:=bT rfl
@[simp] theorem aNR:Uv=K 98:=bT rfl
@[simp] theorem aNS:k99=K 99:=bT rfl
@[simp] theorem aHw:EK=K 100:=bT rfl
@[simp] theorem aHx:EL=K 101:=bT rfl
@[simp] theorem aHy:yP=K 102:=bT rfl
@[simp] theorem aHz:Dd=K 103:=bT rfl
@[simp] theorem aHA:wy=K 104:=bT rfl
@[simp] theorem aHB:De=K 105:=bT rfl
@[simp] theorem aHC:EM=K 106:=bT rfl
@[simp] theorem aHD:EN=K 107:=bT rfl
@[simp] theorem aHE:H9=K 108:=bT rfl
@[simp] theorem aHF:GL=K 109:=bT rfl
@[simp] theorem aHG:O5=K 110:=bT rfl
@[simp] theorem aHH:ajz=K 111:=bT rfl
@[simp] theorem aHI:apJ=K 112:=bT rfl
@[simp] theorem aHJ:Kd=K 113:=bT rfl
@[simp] theorem aHK:apK=K 114:=bT rfl
@[simp] theorem aHL:R2=K 115:=bT rfl
@[simp] theorem aHM:apL=K 116:=bT rfl
@[simp] theorem aHN:apM=K 117:=bT rfl
@[simp] theorem aHO:apN=K 118:=bT rfl
@[simp] theorem aHP:Ke=K 119:=bT rfl
@[simp] theorem aHQ:EO=K 120:=bT rfl
@[simp] theorem aHR:apO=K 121:=bT rfl
@[simp] theorem aHS:apP=K 122:=bT rfl
@[simp] theorem aHT:apQ=K 123:=bT rfl
@[simp] theorem aHU:R3=K 124:=bT rfl
@[simp] theorem aHV:apR=K 125:=bT rfl
@[simp] theorem aHW:apS=K 126:=bT rfl
@[simp] theorem aHX:apT=K 127:=bT rfl
@[simp] theorem aHY:apU=K 128:=bT rfl
@[simp] theorem aHZ:apV=K 129:=bT rfl
@[simp] theorem aH0:apW=K 130:=bT rfl
@[simp] theorem aH1:apX=K 131:=bT rfl
@[simp] theorem aH2:apY=K 132:=bT rfl
@[simp] theorem aH3:Kf=K 133:=bT rfl
@[simp] theorem aH4:ajA=K 134:=bT rfl
@[simp] theorem aH5:ajB=K 135:=bT rfl
@[simp] theorem aH6:ajC=K 136:=bT rfl
@[simp] theorem aH7:ajD=K 137:=bT rfl
@[simp] theorem aH8:ajE=K 138:=bT rfl
@[simp] theorem aH9:ajF=K 139:=bT rfl
@[simp] theorem aIa:ajG=K 140:=bT rfl
@[simp] theorem aIb:ajH=K 141:=bT rfl
@[simp] theorem aIc:Uw=K 142:=bT rfl
@[simp] theorem aId:ajI=K 143:=bT rfl
@[simp] theorem aIe:apZ=K 144:=bT rfl
@[simp] theorem aIf:azs=K 145:=bT rfl
@[simp] theorem aIg:azt=K 146:=bT rfl
@[simp] theorem aIh:azu=K 147:=bT rfl
@[simp] theorem aIi:azv=K 148:=bT rfl
@[simp] theorem aIj:azw=K 149:=bT rfl
@[simp] theorem aIk:azx=K 150:=bT rfl
@[simp] theorem aIl:azy=K 151:=bT rfl
@[simp] theorem aIm:azz=K 152:=bT rfl
@[simp] theorem aIn:azA=K 153:=bT rfl
@[simp] theorem aIo:azB=K 154:=bT rfl
@[simp] theorem aIp:azC=K 155:=bT rfl
@[simp] theorem aIq:azD=K 156:=bT rfl
@[simp] theorem aIr:azE=K 157:=bT rfl
@[simp] theorem aIs:azF=K 158:=bT rfl
@[simp] theorem aIt:azG=K 159:=bT rfl
@[simp] theorem aIu:azH=K 160:=bT rfl
@[simp] theorem aIv:azI=K 161:=bT rfl
@[simp] theorem aIw:azJ=K 162:=bT rfl
@[simp] theorem aIx:azK=K 163:=bT rfl
@[simp] theorem aIy:azL=K 164:=bT rfl
@[simp] theorem aIz:aDr=K 165:=bT rfl
theorem hide{α:Type}{a b:α}(h:a=b):a=b:=h
abbrev I(n:Int):AV:=.int .i64 (.lit n)
def oM(d s:Key):J:=⟨some d,.mov (.t s),none⟩
def oL(d:Key)(n:Nat)(s:Key):J:=⟨some d,.load false n (.t s),none⟩
def oA(d:Key)(n:Nat)(s:Key):J:=⟨some d,.load true n (.t s),none⟩
def oF(d:Key)(n:Nat)(s:Key):J:=⟨some d,.fieldA n (.t s),none⟩
def oS(n:Nat)(a s:Key):J:=⟨none,.store n (.t a) (.t s),none⟩
def oN(d s:Key):J:=⟨some d,.nilc (.t s),none⟩
def oZ(d s:Key):J:=⟨some d,.lenL (.t s),none⟩
def oE(d s:Key)(n:Int):J:=⟨some d,.bin .eql (.t s) (.v (I n)),none⟩
def oI(d:Key)(n:Nat)(s i:Key):J:=⟨some d,.indexL n (.t s) (.t i),none⟩
def oX(d s:Key)(n:Nat):J:=⟨some d,.extract (.t s) n,none⟩
def oB(d s:Key):J:=⟨some d,.box (.t s),none⟩
def oJ(d:Key)(v:AV):J:=⟨some d,.mov (.v v),none⟩
@[simp] theorem aNT(d s:Key):oM d s=⟨some d,.mov (.t s),none⟩:=hide rfl
@[simp] theorem aNU(d:Key)(n:Nat)(s:Key):oL d n s=⟨some d,.load false n (.t s),none⟩:=hide rfl
@[simp] theorem aNV(d:Key)(n:Nat)(s:Key):oA d n s=⟨some d,.load true n (.t s),none⟩:=hide rfl
@[simp] theorem aNW(d:Key)(n:Nat)(s:Key):oF d n s=⟨some d,.fieldA n (.t s),none⟩:=hide rfl
@[simp] theorem aNX(n:Nat)(a s:Key):oS n a s=⟨none,.store n (.t a) (.t s),none⟩:=hide rfl
@[simp] theorem aNY(d s:Key):oN d s=⟨some d,.nilc (.t s),none⟩:=hide rfl
@[simp] theorem aNZ(d s:Key):oZ d s=⟨some d,.lenL (.t s),none⟩:=hide rfl
@[simp] theorem aN0(d s:Key)(n:Int):oE d s n=⟨some d,.bin .eql (.t s) (.v (I n)),none⟩:=hide rfl
@[simp] theorem aN1(d:Key)(n:Nat)(s i:Key):oI d n s i=⟨some d,.indexL n (.t s) (.t i),none⟩:=hide rfl
@[simp] theorem aN2(d s:Key)(n:Nat):oX d s n=⟨some d,.extract (.t s) n,none⟩:=hide rfl
@[simp] theorem aN3(d s:Key):oB d s=⟨some d,.box (.t s),none⟩:=hide rfl
@[simp] theorem aN4(d:Key)(v:AV):oJ d v=⟨some d,.mov (.v v),none⟩:=hide rfl
instance:Coe Key PX:=⟨.t⟩
instance:Coe AV PX:=⟨.v⟩
instance:Coe (List J) aG:=⟨.ops⟩
def oC(d:Key)(f:Nat)(l:List PX):J:=⟨some d,.callF f l,none⟩
@[simp] theorem aN5(d:Key)(f:Nat)(l:List PX):oC d f l=⟨some d,.callF f l,none⟩:=hide rfl
def oT(d s g:Key):J:=⟨some d,.mov (.t s),some (g,true)⟩
@[simp] theorem aN6(d s g:Key):oT d s g=⟨some d,.mov (.t s),some (g,true)⟩:=hide rfl
def oQ(d s g:Key):J:=⟨some d,.mov (.t s),some (g,false)⟩
@[simp] theorem aN7(d s g:Key):oQ d s g=⟨some d,.mov (.t s),some (g,false)⟩:=hide rfl
def oP(d a b:Key):J:=⟨some d,.pick (.t a) (.t b) (.v (.bool false)),none⟩
@[simp] theorem aN8(d a b:Key):oP d a b=⟨some d,.pick (.t a) (.t b) (.v (.bool false)),none⟩:=hide rfl
end Go.Sx
/-
 SX: closed runs as known calls; the machine's start. No condition.
-/
namespace Go.Sx
open Go.RowKit
mutual
def AV.kf:AV→Bool
 |.bool _|.int _ _|.str _ _|.nilp|.nils|.nilm|.nilf|.nili=>true
 |.iface _ v=>AV.kf v
 |.agg l=>AV.HI l
 |.tuple l=>AV.HI l
 |.sl l _ _ .any=>AV.HI l
 |.cref l=>AV.HI l
 |.fn _ a c=>AV.HI a&&AV.HI c
 |_=>false
def AV.HI:List AV→Bool
 | []=>true
 |a ::l=>AV.kf a&&AV.HI l
end
mutual
theorem aC.kf{ρ:Nat→Int}{μ μ':Mu}(hf:∀ c i v,μ.fz c i=some v→μ'.fz c i=some v):∀ {a:AV} {v:Value},aC ρ μ a v→a.kf=true→aC ρ μ' a v
 |_,_,.bool b,_=>.bool b
 |_,_,.int k s n h,_=>.int k s n h
 |_,_,.str n c s h h',_=>.str n c s h h'
 |_,_,.ptr b off l a h ha,hk=>by simp[AV.kf] at hk
 |_,_,.nilp,_=>.nilp
 |_,_,.slice b off len sz cap l a h hc hl ha,hk=>by simp[AV.kf] at hk
 |_,_,.nils,_=>.nils
 |_,_,.map b l r h hr,hk=>by simp[AV.kf] at hk
 |_,_,.nilm,_=>.nilm
 |_,_,.fn f first cap vs ws h h',hk=>by
  simp only[AV.kf,iE] at hk
  exact .fn f first cap vs ws (al.kf hf h hk.1) (al.kf hf h' hk.2)
 |_,_,.yld b l r h hr,hk=>by simp[AV.kf] at hk
 |_,_,.nilf,_=>.nilf
 |_,_,.iface t a v h,hk=>.iface t a v (aC.kf hf h (by simpa[AV.kf] using hk))
 |_,_,.nili,_=>.nili
 |_,_,.agg l vs h,hk=>.agg l vs (al.kf hf h (by simpa[AV.kf] using hk))
 |_,_,.tuple l vs h,hk=>.tuple l vs (al.kf hf h (by simpa[AV.kf] using hk))
 |_,_,.sl l len sz fl cap c o a vs h hn hl ha hff hg,hk=>by
  cases fl with
  |any=>exact .sl l len sz .any cap c o a vs (al.kf hf h (by simpa[AV.kf] using hk)) hn hl ha (fun i v e=>hf _ _ _ (hff i v e)) trivial
  |tok b=>simp[AV.kf] at hk
 |_,_,.cref l c o a vs h ha hff,hk=>.cref l c o a vs (al.kf hf h (by simpa[AV.kf] using hk)) ha (fun i v e=>hf _ _ _ (hff i v e))
theorem al.kf{ρ:Nat→Int}{μ μ':Mu}(hf:∀ c i v,μ.fz c i=some v→μ'.fz c i=some v):∀ {l:List AV} {vs:List Value},al ρ μ l vs→AV.HI l=true→al ρ μ' l vs
 |_,_,.nil,_=>.nil
 |_,_,.cons a l v vs h h',hk=>by
  simp only[AV.HI,iE] at hk
  exact .cons a l v vs (aC.kf hf h hk.1) (al.kf hf h' hk.2)
end
structure kZ(P:Program)(aH:T ah)(w0:W0):Prop where
 size:P.globals.size≤w0.heap.size
 at_:∀ b B,aa b aH=some B→b.toNat<P.globals.size∧∃ L arr elem f,B=.cells L .ro∧w0.heap[b.toNat]?=some (.cells arr elem f)∧(∀ (ρ:Nat→Int) (μ:Mu),al ρ μ L arr.toList)∧∀ i v,arr[i]?=some v→w0.z b.toNat i=some v
section
variable{P:Program}{ρ:Nat→Int}{aH:T ah}
noncomputable def Nc(aH:T ah)(b:Key):Nat:=match aa b aH with
 |some (.cells L _)=>L.length
 |_=>0
noncomputable def gMu(P:Program)(aH:T ah)(fz:Nat→Nat→Option Value):Mu:=⟨fun b=>if b.toNat<P.globals.size then some ⟨b.toNat,0,Nc aH b⟩ else none,fz⟩
theorem GV{fz:Nat→Nat→Option Value}{b:Key}{l:Loc}(h:(gMu P aH fz) b=some l):b.toNat<P.globals.size∧l=⟨b.toNat,0,Nc aH b⟩:=by
 have h:(if b.toNat<P.globals.size then some (⟨b.toNat,0,Nc aH b⟩:Loc) else none)=some l:=h
 split at h
 ·rename_i hb;cases h;exact⟨hb,rfl⟩
 ·cases h
theorem Io{w0:W0}(hL:kZ P aH w0)(hz:∀ c i v,w0.z c i=some v→∃ arr elem f,w0.heap[c]?=some (.cells arr elem f)∧arr[i]?=some v){nx:Nat}(hn:P.globals.size≤nx) :
  aP P ρ w0 (gMu P aH w0.z) (fun b=>aa b aH) nx w0.toWorld:=by
 have aEq:∀ b:Key,b.toNat<P.globals.size→(gMu P aH w0.z) b=some ⟨b.toNat,0,Nc aH b⟩:=by
  intro b hb
  show(if b.toNat<P.globals.size then some (⟨b.toNat,0,Nc aH b⟩:Loc) else none)=_
  rw[if_pos hb]
 refine⟨?_,?_,?_,?_,?_,?_,Below.refl _ _,hz,?_,fun _ _ _ h=>h,fun _ _ _ h=>.inr h,?_,fe _⟩
 ·intro b B hb
  obtain⟨h1,L,arr,elem,f,rfl,h3,h4,h5⟩:=hL.at_ b B hb
  have hlen:L.length=arr.size:=by simpa using(h4 ρ (gMu P aH w0.z)).length
  refine⟨_,_,aEq b h1,h3,.cells L .ro _ arr elem f ?_ ?_ ?_ (fun h=>absurd rfl h) ?_⟩
  ·intro i a ha
   obtain⟨v,hv,hr⟩:=(h4 ρ (gMu P aH w0.z)).get i a ha
   exact⟨v,by simpa using hv,hr⟩
  ·show 0+Nc aH b≤arr.size
   simp only[Nc,hb];omega
  ·show L.length≤Nc aH b
   simp only[Nc,hb];exact fe _
  ·intro _
   show L.length=Nc aH b
   simp only[Nc,hb]
 ·intro b b' B B' l l' h1 h2 m1 m2 bI
  obtain⟨_,rfl⟩:=GV m1
  obtain⟨_,rfl⟩:=GV m2
  exact fun e=>bI (Key.toNat_inj e)
 ·intro b l m
  obtain⟨h1,rfl⟩:=GV m
  exact LO h1 hL.size
 ·intro b B l hb m
  obtain⟨h1,L,arr,elem,f,rfl,_⟩:=hL.at_ b B hb
  exact .inl trivial
 ·intro k hk
  exact⟨_,aEq k hk⟩
 ·intro b l m
  obtain⟨h1,rfl⟩:=GV m
  omega
 ·intro b B l n hb m u6 i hi
  obtain⟨h1,L,arr,elem,f,rfl,_⟩:=hL.at_ b B hb
  cases u6
 ·intro b L l hb m
  obtain⟨_,rfl⟩:=GV m
  obtain⟨h1,L',arr,elem,f,e,h3,h4,h5⟩:=hL.at_ b _ hb
  refine .inr fun EC ee ff i v ha hv=>?_
  have ha:w0.heap[b.toNat]?=some (.cells EC ee ff):=ha
  rw[h3] at ha;cases ha
  exact h5 i v hv
theorem kZ.ayn{w0:W0}{w:World}{fz:Nat→Nat→Option Value}(hL:kZ P aH w0)(hb:Below w0.heap.size w0.toWorld w)(hz:∀ c i v,w0.z c i=some v→fz c i=some v):kZ P aH ⟨w,fz⟩:=by
 refine⟨Nat.le_trans hL.size hb.size,fun b B h=>?_⟩
 obtain⟨h1,L,arr,elem,f,h2,h3,h4,h5⟩:=hL.at_ b B h
 refine⟨h1,L,arr,elem,f,h2,?_,h4,fun i v hv=>hz _ _ _ (h5 i v hv)⟩
 show w.heap[b.toNat]?=_
 rw[hb.block _ (LO h1 hL.size)]
 exact h3
def aEr(tab:List (Nat×List AV×AV))(f:Nat)(l:List AV)(h:T ah)(nx:Key):Option (AV×T ah×Key):=match tab with
 | []=>none
 |(g,m,v) ::r=>bif Nat.beq f g&&AV.C6 l m then some (v,h,nx) else aEr r f l h nx
theorem Nd{C:dm}{w0:W0}{w:World}{μ0:Mu}{G0:Key→Option ah}{H:T ah}{nx:Key}(X:Ctx P ρ w0 C){f:Nat}{l:List AV}{args:Array Value}(hM:aP P ρ w0 μ0 G0 nx.toNat w)(hH:HSub H G0)(hl:al ρ μ0 l args.toList)
  {R:Out→T ah→Key→Prop} (hR:∀ o h nx,R o h nx→∃ v,o=.ret v) (hc:aO C f l H nx R) :
  Calls P f args w fun e w'=>∃ v h' nx' u μ G,R (.ret v) h' nx'∧e=.returned u∧aC ρ μ v u∧μ0.le μ∧aP P ρ w0 μ G nx'.toNat w'∧HSub h' G:=by
 rcases hc with⟨v,h',nx',hs,hr⟩|⟨hs,p,hp,ch⟩
 ·refine(X.sum f l H nx v h' nx' hs args w μ0 G0 hM hH hl).mono ?_
  rintro e w' ⟨u,μ',G',rfl,h1,h2,h3,h4,_⟩
  exact⟨v,h',nx',u,μ',G',hr,rfl,h1,h2,h3,h4⟩
 ·have hpf:iI P f=some p:=X.fns f p hp
  intro cs
  have hm:yz P ρ C.orc w0 μ0 ⟨ae f p l,[],H,nx⟩ (Frame.enter P f args .normal) [] w:=
   ⟨μ0,G0,μ0.le_refl,hM,hH,tB hpf hl false,trivial,by simp[bk,pk,ae]⟩
  obtain⟨am',ej,yw,w',⟨o,h',nx',fr,h1,hr,hfn,hdf,⟨hd,hL⟩,rfl⟩,s1,s2⟩:=Ev.sound (rest:=cs) X (ch []) hm
  obtain⟨v,rfl⟩:=hR o h' nx' hr
  obtain⟨On,l1,hl1,rfl,rfl⟩:=hL
  have zS:ia C ⟨fr,[],h1,nx'⟩=.done f (mP (cj (C.mN f) l1 h1).1) (cj (C.mN f) l1 h1).2 nx':=by
   unfold ia
   simp only[On]
   unfold CV
   simp only[hd,On,hl1,hfn,wW]
   unfold La
   simp only[hdf,cond_false,hfn]
  have hg:=vk (rest:=cs) X s2
  rw[zS] at hg
  obtain⟨Hx,w2,μ,G,u,t1,t2,t3,t4,t5,t6,t7⟩:=hg
  exact⟨.returned u,w2,Hx,⟨_,_,_,u,μ,G,hr,rfl,t4,t5,t6,t7⟩,s1.trans t1,t2,t3⟩
noncomputable def Cc:List (Nat×fO)→T fO
 | []=>.nil
 |(i,p) ::l=>av (Key.eA 12 i) (some p) (Cc l)
theorem Nf:∀ {l:List (Nat×fO)} {k:Key} {p:fO},aa k (Cc l)=some p→∃ i,(i,p)∈l∧k=Key.eA 12 i
 | [],k,p,h=>by simp[Cc] at h
 |(i,q) ::l,k,p,h=>by
  simp only[Cc] at h
  by_cases e:k=Key.eA 12 i
  ·subst e;rw[gTSm] at h;cases h;exact⟨i,by simp,rfl⟩
  ·rw[bZ _ _ _ _ e] at h
   obtain⟨j,h1,h2⟩:=Nf h
   exact⟨j,List.mem_cons_of_mem _ h1,h2⟩
def GR(P:Program):List (Nat×fO)→Prop
 | []=>True
 |(i,p) ::l=>(Nat.blt i 8000=true∧iI P i=some p)∧GR P l
theorem GR.mem:∀ {l:List (Nat×fO)},GR P l→∀ {i:Nat} {p:fO},(i,p)∈l→i<8000∧iI P i=some p
 | [],_,_,_,h=>by cases h
 |(j,q) ::l,ha,i,p,h=>by
  rcases JY.1 h with e|e
  ·cases e
   have:=ha.1.1
   rw[bltN_eq,decide_eq_true_eq] at this
   exact⟨this,ha.1.2⟩
  ·exact GR.mem ha.2 e
noncomputable def aEs(fns:T fO)(tab:List (Nat×List AV×AV)):dm:=⟨[],fns,aEr tab,fun _=>false,fun _=>false⟩
theorem UQ{fns:T fO}{UP:List (Nat×fO)}(hb:fns=Cc UP)(ha:GR P UP){tab:List (Nat×List AV×AV)}{f:Nat}{p:fO}(h:DS (aEs fns tab) f=some p):iI P f=some p:=by
 unfold DS at h
 cases hk:Nat.beq (Key.eA 12 f).toNat f with
 |false=>rw[hk] at h;cases h
 |true=>
  rw[hk] at h
  have hk:=ml hk
  have h:aa (Key.eA 12 f) fns=some p:=h
  rw[hb] at h
  obtain⟨i,h1,h2⟩:=Nf h
  obtain⟨h3,h4⟩:=ha.mem h1
  have:i=f:=by
   have e:=congrArg Key.toNat h2
   rw[hk,m9 12 i (by omega)] at e
   exact e.symm
  subst this
  exact h4
def amX(P:Program)(ρ:Nat→Int)(aH:T ah):List (Nat×List AV×AV)→Prop
 | []=>True
 |(f,l,v) ::r=>((∃ p,iI P f=some p)∧∀ w0:W0,kZ P aH w0→∀ H nx,LA P ρ w0 f l H nx v H nx)∧amX P ρ aH r
theorem amX.mem:∀ {tab:List (Nat×List AV×AV)},amX P ρ aH tab→∀ {f:Nat} {l:List AV} {v:AV},(f,l,v)∈tab→(∃ p,iI P f=some p)∧∀ w0:W0,kZ P aH w0→∀ H nx,LA P ρ w0 f l H nx v H nx
 | [],_,_,_,_,h=>by cases h
 |(g,m,u) ::r,ht,f,l,v,h=>by
  rcases JY.1 h with e|e
  ·cases e;exact ht.1
  ·exact amX.mem ht.2 e
end
end Go.Sx
