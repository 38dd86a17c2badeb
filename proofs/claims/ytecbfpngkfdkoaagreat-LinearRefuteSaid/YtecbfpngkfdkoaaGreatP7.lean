/- A part of the proof. No condition. -/
import Derived.Test.YtecbfpngkfdkoaaGreatP6
set_option linter.unusedSimpArgs false
set_option linter.unusedVariables false
set_option linter.unusedSectionVars false
namespace Go.Sx
open Go.RowKit
section
variable{P:Program}{ρ:Nat→Int}{C:cD}{nt:Nat}{w0:W0}{w:World}{μ0 μ:Mu}{G:Key→Option ag}{H:T ag}{nx:Key}{rest cs:List Frame}{fr:Frame}{af:jP}{iJ:List jP}{K:List Item}{k:List cJ}
theorem atc(X:Ctx P ρ w0 C)(h0:μ0.le μ)(hM:aP P ρ w0 μ G nx.toNat w)(hH:HSub H G)(hb:xE P ρ μ nt af fr)(h1:af.mode=.run)(hm:fr.mode=.run)
  (hTd:UJ P ρ C.orc μ G H nx nt af.todo af.tm fr.todo fr.tmps) (hS:cX P ρ C.orc μ G H nx iJ cs) (hn:(br (af ::iJ)).Nodup) :
  Good P ρ C w0 μ0 rest (lone fr (cs++rest) w) (bP C af iJ H nx):=by
 generalize KI:af.todo=AK at hTd
 generalize htt:af.tm=TM at hTd
 generalize ht:fr.todo=FK at hTd
 generalize hft:fr.tmps=FT at hTd
 cases hTd with
 |plain k0 K0 tm tmps hk hT=>
  subst htt hft
  have hn:(br iJ).Nodup:=(List.nodup_append.1 hn).2.1
  cases hk with
  |nil=>
   unfold bP
   rw[KI]
   exact Fz X (.fin ht) h0 hM hH hb h1 hm (.inl KI) (by intro e;cases e) (fun _=>KI) hT hS hn
  |cons a x k K h hk=>
   have go:∀ (k':List cJ) (K':List Item),lJ P μ nt k' K'→step P (lone fr (cs++rest) w)=.next (lone {fr with todo:=K'} (cs++rest) w)→Good P ρ C w0 μ0 rest (lone fr (cs++rest) w) (.next ⟨{af with todo:=k'},iJ,H,nx⟩):=by
    intro k' K' hk' dL
    exact⟨_,cs,w,.one dL,pC h0 hM hH (hb.todo af.tm k' fr.tmps K') h1 hm hk' hT hS hn⟩
   cases h with
   |code pc c h=>exact aqK X h h0 hM hH hb h1 hm KI ht hk hT hS hn
   |inBlock id=>
    unfold bP;rw[KI]
    exact go _ _ hk (akB hm ht)
   |scope c=>
    unfold bP;rw[KI]
    exact go _ _ hk (akC hm ht)
   |inLoop pc c h=>
    unfold bP;rw[KI]
    exact go _ _ (.cons _ _ _ _ (.code _ _ h) (.cons _ _ _ _ (.inLoop _ _ h) hk)) (aqL hm ht)
   |ops l ops rest h=>
    unfold bP;rw[KI]
    exact asc X h0 hM hH hb h1 hm h ht hk hT hS hn
   |inRF key l r h hr=>
    unfold bP;rw[KI];trivial
   |endRF key l r iP hr=>
    subst hr
    unfold bP;rw[KI]
    simp only
    split
    ·rename_i st pd fn tm res params as bd dfs hbl
     obtain⟨lc',L,ntl,ld,e0,UH,e1,e2,e3,e4,e5,e5',e6,e7,e8,e9,e10⟩:=Gs hM (hH _ _ hbl)
     rw[iP] at e0;cases e0
     split
     ·trivial
     ·rename_i hnb
      simp only[sTCe]
      have aEn:L.state≠.busy:=by
       intro e
       rw[e] at e1
       cases st<;>first|exact e1.elim|exact hnb rfl
      obtain⟨μ',G',g1,g2,g3,g4⟩:=NF (st':=.exhausted) (pd':=pd) (s:=.exhausted) (pc:=L.pending) hM hH hbl iP UH trivial (fun h=>h)
      have dL:=ate (P:=P) (cs:=cs++rest) hm ht (Vq UH aEn)
      have Fc:∀ (k':List cJ),lJ P μ' nt k' ((L.pending.map Item.code).toList++K)→Good P ρ C w0 μ0 rest (lone fr (cs++rest) w) (.next ⟨{af with todo:=k'},iJ,au key (some (.loop .exhausted pd fn tm res params as bd dfs)) H,nx⟩):=by
       intro k' hk'
       exact⟨_,cs,_,.one dL,pC (Mu.le_trans h0 g1) g2 g3 ((hb.mono g1).todo af.tm k' fr.tmps _) h1 hm hk' (hT.mono g1) (hS.kept g1 g4) hn⟩
      refine Fc _ ?_
      cases pd with
      |none=>
       cases hp:L.pending with
       |none=>exact hk.mono g1
       |some c=>rw[hp] at e2;exact(e2 0).elim
      |some pc=>
       cases hp:L.pending with
       |none=>rw[hp] at e2;exact(e2 0).elim
       |some c=>
        rw[hp] at e2
        exact .cons _ _ _ _ (.code _ _ (e2 nt)) (hk.mono g1)
    ·trivial
   |beginRound=>
    unfold bP;rw[KI]
    simp only
    split
    ·trivial
    ·rename_i key hrn
     have Gu:∃ lc,μ key=some lc∧fr.roundOf=some lc.c:=by
      have:=hb.qZ
      rw[hrn] at this
      cases hh:fr.roundOf with
      |none=>rw[hh] at this;exact this.elim
      |some x=>rw[hh] at this;obtain⟨lc,e1,e2⟩:=this;exact⟨lc,e1,by rw[e2]⟩
     obtain⟨lc,iP,Gu⟩:=Gu
     split
     ·rename_i pd fn tm res params as bd dfs hbl
      simp only[sTCe]
      obtain⟨lc',L,ntl,ld,e0,UH,e1,e2,e3,e4,e5,e5',e6,e7,e8,e9,e10⟩:=Gs hM (hH _ _ hbl)
      rw[iP] at e0;cases e0
      have aAE:L.state=.ready:=by
       cases hs:L.state<;>rw[hs] at e1<;>first|rfl|exact e1.elim
      obtain⟨μ',G',g1,g2,g3,g4⟩:=NF (st':=.busy) (pd':=pd) (s:=.busy) (pc:=L.pending) hM hH hbl iP UH trivial (fun h=>h)
      have dL:=PV (P:=P) (cs:=cs++rest) hm ht Gu (NG UH aAE)
      exact⟨_,cs,_,.one dL,pC (Mu.le_trans h0 g1) g2 g3 ((hb.mono g1).todo af.tm k fr.tmps K) h1 hm (hk.mono g1) (hT.mono g1) (hS.kept g1 g4) hn⟩
     ·trivial
 |ready ops pl bf g sZ items ic ak k K tm tmps rs hf hc hd hk S=>
  subst htt hft
  unfold bP;rw[KI]
  refine JG X h0 hM hH hb h1 hm hf hc hd ht hk S hS ?_
  simp only[br,pk,KI] at hn
  exact hn
 |back ops pl bf g os sZ items ic ak k K tm tmps rs hf hc hd hk Uu Fb S=>
  subst htt hft
  unfold bP;rw[KI]
  simp only
  rw[Td]
  cases hrc:recheck C.orc ic.iK ak af.tm H os with
  |false=>simp only[cond_false,mT];trivial
  |true=>
   simp only[cond_true]
   have S5:=S.Rj hd.2 hrc Uu Fb
   refine JG X h0 hM hH hb h1 hm hf hc hd ht hk S5 hS ?_
   simp only[br,pk,KI] at hn
   exact hn
theorem I3{b:Nat}(h:w.heap[b]?=some (.deferred (some []))):(Instr.takeDeferred b).run P w=.ok [] {w with heap:=w.heap.setIfInBounds b (.deferred none)}:=by
 simp[Instr.takeDeferred,getObj,setObj,Sem.run,h]
theorem Vr(X:Ctx P ρ w0 C)(h0:μ0.le μ)(hM:aP P ρ w0 μ G nx.toNat w)(hH:HSub H G)(hb:xE P ρ μ nt af fr)(Pq:Cur P ρ C.orc μ G H nx af fr)(bU:af.mode≠.run)(hS:cX P ρ C.orc μ G H nx iJ cs)(hn:(br (af ::iJ)).Nodup) :
  Good P ρ C w0 μ0 rest (lone fr (cs++rest) w) (vZ C af iJ H nx):=by
 have hpk:pk af=[]:=by
  cases Pq with
  |run nt hb h1=>exact absurd h1 bU
  |ret nt hb h1 h2 h3 h=>unfold pk;rcases h3 with h3|⟨k,h3⟩<;>rw[h3]
  |pan nt hb v u r h1 h2 hv h3 h=>unfold pk;rw[h3]
 have hfm:fr.mode≠.run:=by
  cases Pq with
  |run nt hb h1=>exact absurd h1 bU
  |ret nt hb h1 h2 h3 h=>rw[h2];intro e;cases e
  |pan nt hb v u r h1 h2 hv h3 h=>rw[h2];intro e;cases e
 have UG:(br iJ).Nodup:=(List.nodup_append.1 hn).2.1
 have aRB:∃ nt,xE P ρ μ nt af fr∧jQ ρ μ nt af.tm fr.tmps:=by
  cases Pq with
  |run nt hb h1=>exact absurd h1 bU
  |ret nt hb h1 h2 h3 h=>exact⟨nt,hb,h⟩
  |pan nt hb v u r h1 h2 hv h3 h=>exact⟨nt,hb,h⟩
 have move:∀ {μ':Mu} {G':Key→Option ag} {H':T ag} (ds:List Sb) (Ds:List Deferred),μ.le μ'→NH ρ μ' ds Ds→Cur P ρ C.orc μ' G' H' nx {af with dfs:=ds} {fr with defers:=Ds}:=by
  intro μ' G' H' ds Ds hle hd
  cases Pq with
  |run nt hb h1=>exact absurd h1 bU
  |ret nt hb h1 h2 h3 h=>exact .ret nt ⟨hb.fn,hb.fnr,hd,hb.kind,(hb.mono hle).qZ,hb.rd⟩ h1 h2 h3 (h.mono hle)
  |pan nt hb v u r h1 h2 hv h3 h=>exact .pan nt ⟨hb.fn,hb.fnr,hd,hb.kind,(hb.mono hle).qZ,hb.rd⟩ v u r h1 h2 (hv.mono hle) h3 (h.mono hle)
 have hD:=hb.dfs
 unfold vZ
 split
 ·rename_i b ds hds
  split
  ·rename_i hbl
   simp only[sTCe]
   rw[hds] at hD
   cases Te:fr.defers with
   |nil=>rw[Te] at hD;exact hD.elim
   |cons d Ds=>
   rw[Te] at hD
   obtain⟨⟨l,hl,rfl⟩,hD2⟩:=hD
   have hg:=hH _ _ hbl
   obtain⟨l',o,e1,e2,e3⟩:=hM.oR b _ hg
   rw[hl] at e1;cases e1
   have aJO:w.heap[l.c]?=some (.deferred (some [])):=by
    cases e3 with|dfs _ _=>exact e2
   have Im:l.c<w.heap.size:=hM.wR b l hl
   have oU:w0.heap.size≤l.c:=(hM.own b _ l hg hl).resolve_left (by simp[ag.ro])
   obtain⟨m1,m2⟩:=hM.put (w':={w with heap:=w.heap.setIfInBounds l.c (.deferred none)}) b (.dfs true) l (.deferred none) (nx':=nx.toNat) (.inr hl)
    ⟨rfl,rfl,rfl,by simp,fun j hj _=>by show(w.heap.setIfInBounds l.c _)[j]?=_;rw[zqn (Ne.symm hj)],fh _⟩
    (by show(w.heap.setIfInBounds l.c _)[l.c]?=_;simp[Im])
    (.dfs true l)
    (fun b' B' l' g m' ne=>hM.sep b' b B' _ l' l g hg m' hl ne) oU (fh _) (hM.new b l hl) (hM.lo0 hg hl rfl)
   have dL:=Tf (P:=P) (cs:=cs++rest) hfm Te (I3 aJO)
   refine⟨_,cs,_,.one dL,_,_,Mu.le_trans h0 m1,m2,hH.set b _,move ds Ds m1 (hD2.mono m1),hS.kept m1 (mV hbl hl _ _),?_⟩
   show(br (_ ::iJ)).Nodup
   have:pk {af with dfs:=ds}=pk af:=rfl
   simp only[br,this,hpk,List.nil_append];exact UG
  ·trivial
 ·rename_i f args ds hds
  rcases BW X f args true (.bad 71 ⟨af,iJ,H,nx⟩) (fun eY=>.next ⟨eY,{af with dfs:=ds} ::iJ,H,nx⟩) with e|⟨p,hp,e⟩
  ·rw[e];trivial
  ·rw[e]
   rw[hds] at hD
   cases Te:fr.defers with
   |nil=>rw[Te] at hD;exact hD.elim
   |cons d Ds=>
   rw[Te] at hD
   obtain⟨⟨ws,hd1,hd2⟩,hD2⟩:=hD
   obtain⟨fn,c,f1,f2,f3,f4,f5⟩:=xF hp
   have hi:(invoke d.target d.args).run P w=.ok (.enter f (d.args++ws)) w:=by
    rw[hd1];simp[invoke,tS f1 (by rw[f2];rfl) f3]
   have dL:=Vs (P:=P) (cs:=cs++rest) hfm Te hd1 hi
   refine⟨_,{fr with defers:=Ds} ::cs,w,.one dL,μ,G,h0,hM,hH,tY hp hd2 true,⟨.unw (move ds Ds μ.le_refl hD2) bU,hS⟩,?_⟩
   show(br (_ ::_ ::iJ)).Nodup
   have:pk {af with dfs:=ds}=pk af:=rfl
   simp only[br,this,hpk,List.nil_append]
   simp only[pk,List.nil_append];exact UG
 ·rename_i hds
  have Te:fr.defers=[]:=by
   rw[hds] at hD
   cases Te:fr.defers with
   |nil=>rfl
   |cons d Ds=>rw[Te] at hD;exact hD.elim
  split
  ·trivial
  ·rename_i x8
   cases Pq with
   |run nt hb h1=>exact absurd h1 bU
   |pan nt hb v u r h1=>rw[h1] at x8;cases x8
   |ret nt hb h1 h2 h3 hT=>
    split
    ·rename_i l hl
     obtain⟨fn,g1,g2,g3⟩:=hb.fnr.ex
     have g1':P.funcs[fr.fn]?=some fn:=by rw[hb.fn];exact g1
     rw[g2] at g3
     obtain⟨vs,q1,q2⟩:=PW hM hH hT g3 hl
     rw[ur]
     obtain⟨μ1,G1,x1,x2⟩:=Gq (C.lS af.fn) hM hH q2
     have q2:=akD x2
     have hS:=cX.kept x1.le x1.kept hS
     have h0:=Mu.le_trans h0 x1.le
     have hM:=x1.M
     have hH:=x1.hs
     have hb:=hb.mono x1.le
     have hT:=hT.mono x1.le
     generalize ct (C.lS af.fn) l H=lh at q2 hS hM hH
     obtain⟨l1,H1⟩:=lh
     simp only at q2 hS hM hH ⊢
     clear x1 x2
     generalize hvv:HD vs=v at q1 q2
     unfold GH
     cases iJ with
     |nil=>
      cases cs with
      |cons _ _=>exact hS.elim
      |nil=>
      cases hdf:af.BX with
      |true=>trivial
      |false=>
       have Nq:fr.kind=.normal:=by rw[hb.kind,hdf];rfl
       exact⟨fr,w,μ1,G1,v,Steps.refl _ _,hb.fn,⟨h2,Te,Nq,fn,g1',q1⟩,q2,h0,hM,hH⟩
     |cons c iJ=>
      cases cs with
      |nil=>exact hS.elim
      |cons cf cs=>
      have PR:(br (c ::iJ)).Nodup:=UG
      cases hdf:af.BX with
      |true=>
       have Nq:fr.kind=.deferred:=by rw[hb.kind,hdf];rfl
       have dL:=FA (P:=P) (c:=cf) (cs:=cs++rest) h2 Te Nq g1' q1
       simp only[cond_true]
       cases hS.1 with
       |wait LJ fL Ae=>
        rw[Ae];trivial
       |unw hc KJ=>
        cases hc with
        |run LJ fL Ae=>exact absurd Ae KJ
        |ret LJ fL Ae QL QM hT'=>
         have ajU:settle cf.mode=cf.mode:=by rw[QL];rfl
         rw[ajU] at dL
         rw[Ae]
         exact⟨_,cs,w,.one dL,μ1,G1,h0,hM,hH,.ret LJ fL Ae QL QM hT',hS.2,PR⟩
        |pan LJ fL v' u' r' Ae QL Sd QM hT'=>
         rw[Ae]
         cases r' with
         |true=>
          have ajU:settle cf.mode=.returning:=by rw[QL];rfl
          rw[ajU] at dL
          refine⟨_,cs,w,.one dL,μ1,G1,h0,hM,hH,.ret LJ ⟨fL.fn,fL.fnr,fL.dfs,fL.kind,fL.qZ,fL.rd⟩ rfl rfl (.inl QM) hT',hS.2,?_⟩
          exact PR
         |false=>
          have ajU:settle cf.mode=cf.mode:=by rw[QL];rfl
          rw[ajU] at dL
          exact⟨_,cs,w,.one dL,μ1,G1,h0,hM,hH,.pan LJ fL v' u' false Ae QL Sd QM hT',hS.2,PR⟩
      |false=>
       have Nq:fr.kind=.normal:=by rw[hb.kind,hdf];rfl
       have dL:=aqM (P:=P) (c:=cf) (cs:=cs++rest) h2 Te Nq g1' q1
       simp only[cond_false]
       split
       ·rename_i c' hf
        obtain⟨k1,k2⟩:=hS.1.finish q2 hf
        refine⟨_,cs,w,.one dL,μ1,G1,h0,hM,hH,k1,hS.2,?_⟩
        show(br (c' ::iJ)).Nodup
        simp only[br,k2] at PR ⊢
        exact PR
       ·trivial
    ·trivial
  ·rename_i v x8
   cases Pq with
   |run nt hb h1=>exact absurd h1 bU
   |ret nt hb h1=>rw[h1] at x8;cases x8
   |pan nt hb v' u r h1 h2 hv h3 hT=>
    rw[h1] at x8
    simp only[asb.pan.injEq] at x8
    obtain⟨rfl,rfl⟩:=x8
    obtain⟨fn,g1,g2,g3⟩:=hb.fnr.ex
    have g1':P.funcs[fr.fn]?=some fn:=by rw[hb.fn];exact g1
    cases iJ with
    |nil=>trivial
    |cons c iJ=>
     cases cs with
     |nil=>exact hS.elim
     |cons cf cs=>
     simp only
     cases hS.1 with
     |unw hc KJ=>
      cases hc with
      |run LJ fL Ae=>exact absurd Ae KJ
      |ret LJ fL Ae=>rw[Ae];trivial
      |pan LJ fL v2 u2 r2 Ae=>rw[Ae];trivial
     |wait LJ fL Ae QL hW=>
      rw[Ae]
      have dL:=Vt (P:=P) (c:=cf) (cs:=cs++rest) (w:=w) h2 Te g1'
      have hra:cf.raise [{v:=u,recovered:=false}]={cf with mode:=.panicking [{v:=u,recovered:=false}]}:=by
       simp[Frame.raise,QL]
      rw[hra] at dL
      refine⟨_,cs,w,.one dL,μ,G,h0,hM,hH,.pan LJ ⟨fL.fn,fL.fnr,fL.dfs,fL.kind,fL.qZ,fL.rd⟩ v' u false rfl rfl hv rfl ?_,hS.2,?_⟩
      ·show jQ ρ μ LJ (match c.todo with|.staged _ d _ ::_=>Fe d.ds c.tm (fun t=>t)|_=>c.tm) cf.tmps
       generalize cf.todo=KK at hW
       generalize hTT:cf.tmps=TT at hW
       generalize c.todo=kk at hW
       generalize c.tm=tt at hW
       cases hW with
       |ops o l ops i rest k K tm tmps hp h ht=>exact ht
       |rf key l k K tm tmps hk h ht=>exact ht
       |staged ops pl bf g i po ad os sZ items ic ak k K tm tmps rest rK hf hc hL QO hd h Uu Fb S=>
        simp only[mT]
        exact S.erase hd.1
      ·have PR:(br (c ::iJ)).Nodup:=UG
       show(br (_ ::iJ)).Nodup
       simp only[br,pk,List.nil_append] at PR ⊢
       exact(List.nodup_append.1 PR).2.1
  ·trivial
theorem vW(X:Ctx P ρ w0 C){am:AM}(h:zo P ρ C.orc w0 μ0 am fr cs w):Good P ρ C w0 μ0 rest (lone fr (cs++rest) w) (gC C am):=by
 obtain⟨μ,G,h0,hM,hH,hc,hS,hn⟩:=h.ex
 unfold gC
 split
 ·rename_i hm
  cases hc with
  |run nt hb h1 h2 h=>exact atc X h0 hM hH hb h1 h2 h hS hn
  |ret nt hb h1=>rw[h1] at hm;cases hm
  |pan nt hb v u r h1=>rw[h1] at hm;cases hm
 ·rename_i hm
  have bU:am.fr.mode≠.run:=fun e=>hm e
  have hb:∃ nt,xE P ρ μ nt am.fr fr:=by
   cases hc with
   |run nt hb h1 h2 h=>exact⟨nt,hb⟩
   |ret nt hb h1=>exact⟨nt,hb⟩
   |pan nt hb v u r h1=>exact⟨nt,hb⟩
  obtain⟨nt,hb⟩:=hb
  exact Vr X h0 hM hH hb hc bU hS hn
theorem xG(C:cD)(n:Nat)(m:AM):rX C (n+1) m=match gC C m with
  |.next m=>rX C n m
  |r=>r:=rfl
theorem uT(X:Ctx P ρ w0 C):∀ (n:Nat) {am:AM} {fr:Frame} {cs:List Frame} {w:World},zo P ρ C.orc w0 μ0 am fr cs w→Good P ρ C w0 μ0 rest (lone fr (cs++rest) w) (rX C n am)
 |0,am,fr,cs,w,h=>⟨fr,cs,w,Steps.refl _ _,h⟩
 |n+1,am,fr,cs,w,h=>by
  have h1:=vW (rest:=rest) X h
  rw[xG]
  cases hs:gC C am with
  |next m=>
   rw[hs] at h1
   obtain⟨eY,zk,w',s1,h2⟩:=h1
   exact Good.steps s1 (uT X n h2)
  |done f v hh nx=>rw[hs] at h1;exact h1
  |alt l=>rw[hs] at h1;exact h1
  |pan v hh nx=>trivial
  |bad k m=>trivial
end
end Go.Sx
/-
 SX: the machine's run as a fact on a call of the model. No condition.
-/
namespace Go.Sx
open Go.RowKit
noncomputable def ae(f:Nat)(p:fK)(l:List AV):jP:={fn:=f,tm:=fV l .z .nil,todo:=[.code p.body],dfs:=[],mode:=.run,BX:=false,qZ:=none,res:=p.res}
section
variable{P:Program}{ρ:Nat→Int}{C:cD}{w0:W0}{w:World}{μ0:Mu}{G0:Key→Option ag}{H H':T ag}{nx nx':Key}
inductive Ev(C:cD)(S:AM→Prop):AM→Prop
 |now {m:AM} (h:S m):Ev C S m
 |step {m m':AM} (e:gC C m=.next m') (h:Ev C S m'):Ev C S m
 |alt {m:AM} {l:List AM} (e:gC C m=.alt l) (h:∀ m'∈l,Ev C S m'):Ev C S m
theorem Ev.bind{S S':AM→Prop}{m:AM}(h:Ev C S m)(hs:∀ m',S m'→Ev C S' m'):Ev C S' m:=by
 induction h with
 |now h=>exact hs _ h
 |step e _ ih=>exact .step e ih
 |alt e _ ih=>exact .alt e ih
theorem Ev.mono{S S':AM→Prop}{m:AM}(h:Ev C S m)(hs:∀ m',S m'→S' m'):Ev C S' m:=h.bind fun m' q=>.now (hs m' q)
theorem Ev.same{S:AM→Prop}{m m2:AM}(hs:gC C m=gC C m2)(hn:¬ S m2)(h:Ev C S m2):Ev C S m:=by
 cases h with
 |now h=>exact absurd h hn
 |step e h=>exact .step (hs.trans e) h
 |alt e h=>exact .alt (hs.trans e) h
theorem asd(a b:Nat)(m m1:AM)(h:rX C a m=.next m1):rX C (a+b) m=rX C b m1:=by
 induction a generalizing m with
 |zero=>
  have:SR.next m=SR.next m1:=h
  cases this;rw[Nat.zero_add]
 |succ a ih=>
  rw[xG] at h
  have e:a+1+b=(a+b)+1:=by omega
  rw[e,xG]
  cases hs:gC C m with
  |next m2=>rw[hs] at h;exact ih m2 h
  |done f v hh nx=>rw[hs] at h;cases h
  |alt l=>rw[hs] at h;cases h
  |pan v hh nx=>rw[hs] at h;cases h
  |bad k m=>rw[hs] at h;cases h
theorem Ev.ase{S:AM→Prop}:∀ (n:Nat) {m m':AM},rX C n m=.next m'→Ev C S m'→Ev C S m
 |0,m,m',h,q=>by
  have:SR.next m=SR.next m':=h
  cases this;exact q
 |n+1,m,m',h,q=>by
  rw[xG] at h
  cases hs:gC C m with
  |next m2=>rw[hs] at h;exact .step hs (Ev.ase n h q)
  |done f v hh nx=>rw[hs] at h;cases h
  |alt l=>rw[hs] at h;cases h
  |pan v hh nx=>rw[hs] at h;cases h
  |bad k m=>rw[hs] at h;cases h
def To(C:cD)(m m':AM):Prop:=∃ n,rX C n m=.next m'
theorem To.refl(m:AM):To C m m:=⟨0,rfl⟩
theorem To.head{m m1 m2:AM}(h:gC C m=.next m1)(h':To C m1 m2):To C m m2:=by
 obtain⟨n,hn⟩:=h'
 exact⟨n+1,by rw[xG,h];exact hn⟩
theorem To.one{m m1:AM}(h:gC C m=.next m1):To C m m1:=.head h (.refl _)
theorem To.trans{m m1 m2:AM}(h:To C m m1)(h':To C m1 m2):To C m m2:=by
 obtain⟨a,ha⟩:=h
 obtain⟨b,hb⟩:=h'
 exact⟨a+b,by rw[asd a b m m1 ha];exact hb⟩
theorem To.ev{S:AM→Prop}{m m':AM}(h:To C m m')(q:Ev C S m'):Ev C S m:=by
 obtain⟨n,hn⟩:=h
 exact Ev.ase n hn q
theorem Ev.sound(X:Ctx P ρ w0 C){S:AM→Prop}{rest:List Frame}{am:AM}(h:Ev C S am):∀ {fr:Frame} {cs:List Frame} {w:World},zo P ρ C.orc w0 μ0 am fr cs w→
  ∃ am' eY zk w',S am'∧Steps P (lone fr (cs++rest) w) (lone eY (zk++rest) w')∧zo P ρ C.orc w0 μ0 am' eY zk w':=by
 induction h with
 |now h=>intro fr cs w hm;exact⟨_,fr,cs,w,h,Steps.refl _ _,hm⟩
 |step e _ ih=>
  intro fr cs w hm
  have hg:=vW (rest:=rest) X hm
  rw[e] at hg
  obtain⟨eY,zk,w',s1,h2⟩:=hg
  obtain⟨am',Gb,cs2,w2,q,s2,h3⟩:=ih h2
  exact⟨am',Gb,cs2,w2,q,s1.trans s2,h3⟩
 |alt e _ ih=>
  intro fr cs w hm
  have hg:=vW (rest:=rest) X hm
  rw[e] at hg
  obtain⟨am1,ej,eY,zk,w',s1,h2⟩:=hg
  obtain⟨am',Gb,cs2,w2,q,s2,h3⟩:=ih am1 ej h2
  exact⟨am',Gb,cs2,w2,q,s1.trans s2,h3⟩
end
end Go.Sx
/-
 SX: a logic for the machine's code. No condition.
-/
namespace Go.Sx
open Go.RowKit
inductive Ex where
 |norm
 |ret
 |exit (id:Nat)
 |pan (a:AV)
def Aft(af:jP)(k:List cJ):Ex→T AV→jP→Prop
 |.norm,tm,fr=>fr={af with tm:=tm,todo:=k}
 |.ret,tm,fr=>∃ t,fr={af with tm:=tm,todo:=.code .ret ::t}
 |.exit id,tm,fr=>∃ k2,kQ id k2=kQ id k∧fr={af with tm:=tm,todo:=.code (.exit id) ::k2}
 |.pan a,tm,fr=>fr={af with tm:=tm,todo:=[],mode:=.pan a false}
def Lv:Option Nat→aA
 |none=>.ret
 |some i=>.exit i
abbrev dN:=Ex→T AV→T ag→Key→Prop
def Stop(Q:dN)(af:jP)(k:List cJ)(cs:List jP)(m:AM):Prop:=∃ e tm' h' nx' fr,Q e tm' h' nx'∧Aft af k e tm' fr∧m=⟨fr,cs,h',nx'⟩
def WI(C:cD)(x:cJ)(Q:dN)(tm:T AV)(h:T ag)(nx:Key):Prop:=
 ∀ (af:jP) (k:List cJ) (cs:List jP),af.mode=.run→True→Ev C (Stop Q af k cs) ⟨{af with tm:=tm,todo:=x ::k},cs,h,nx⟩
abbrev W(C:cD)(c:aA):dN→T AV→T ag→Key→Prop:=WI C (.code c)
section
variable{C:cD}{Q Q':dN}{tm:T AV}{h:T ag}{nx:Key}
theorem WI.mono{x:cJ}(hw:WI C x Q tm h nx)(hq:∀ e tm h nx,Q e tm h nx→Q' e tm h nx):WI C x Q' tm h nx:=by
 intro af k cs h1 h2
 refine(hw af k cs h1 h2).mono ?_
 rintro m ⟨e,tm',h',nx',fr,q,a,t⟩
 exact⟨e,tm',h',nx',fr,hq _ _ _ _ q,a,t⟩
theorem aS{m:AM}{r:SR}(hm:m.fr.mode=.run)(hr:bP C m.fr m.cs m.h m.nx=r):gC C m=r:=by
 unfold gC;simp only[hm];exact hr
theorem Stop.not{y:cJ}{af:jP}{k:List cJ}{cs cs2:List jP}(hy:∀ i,y≠.code (Lv i))(h1:af.mode=.run):¬ Stop Q af k cs ⟨{af with tm:=tm,todo:=y ::k},cs2,h,nx⟩:=by
 rintro⟨e,tm',h',nx',fr,q,a,t⟩
 simp only[AM.mk.injEq] at t
 obtain⟨e0,_⟩:=t
 cases e with
 |norm=>cases a;simp at e0
 |ret=>obtain⟨_,rfl⟩:=a;simp at e0;exact hy none e0.2.1
 |exit id=>obtain⟨_,_,rfl⟩:=a;simp at e0;exact hy (some id) e0.2.1
 |pan a'=>cases a;simp at e0
theorem WI.to{x y:cJ}(hs:∀ (af:jP) (k:List cJ) (cs:List jP),af.mode=.run→True→bP C {af with tm:=tm,todo:=x ::k} cs h nx=.next ⟨{af with tm:=tm,todo:=y ::k},cs,h,nx⟩)(hw:WI C y Q tm h nx):WI C x Q tm h nx:=by
 intro af k cs h1 h2
 exact .step (aS h1 (hs af k cs h1 h2)) (hw af k cs h1 h2)
theorem W.skip(hq:Q .norm tm h nx):W C .skip Q tm h nx:=by
 intro af k cs h1 h2
 exact .step (aS h1 rfl) (.now ⟨.norm,tm,h,nx,_,hq,rfl,rfl⟩)
theorem W.ret(hq:Q .ret tm h nx):W C .ret Q tm h nx:=by
 intro af k cs h1 h2
 exact .now ⟨.ret,tm,h,nx,_,hq,⟨k,rfl⟩,rfl⟩
theorem W.exit{id:Nat}(hq:Q (.exit id) tm h nx):W C (.exit id) Q tm h nx:=by
 intro af k cs h1 h2
 exact .now ⟨.exit id,tm,h,nx,_,hq,⟨k,rfl,rfl⟩,rfl⟩
theorem W.seq{a b:aA}(hw:W C a (fun e tm h nx=>match e with|.norm=>W C b Q tm h nx|e=>Q e tm h nx) tm h nx):W C (.seq a b) Q tm h nx:=by
 intro af k cs h1 h2
 refine .step (m':=⟨{af with tm:=tm,todo:=.code a ::.code b ::k},cs,h,nx⟩) (aS h1 rfl) ((hw af (.code b ::k) cs h1 h2).bind ?_)
 rintro m ⟨e,tm',h',nx',fr,q,ha,rfl⟩
 cases e with
 |norm=>
  cases ha
  refine(q {af with tm:=tm'} k cs h1 h2).mono ?_
  rintro m ⟨e2,ay,Uy,aH,Gb,q2,a2,t2⟩
  refine⟨e2,ay,Uy,aH,Gb,q2,?_,t2⟩
  cases e2<;>exact a2
 |ret=>exact .now ⟨.ret,tm',h',nx',fr,q,ha,rfl⟩
 |exit id=>
  obtain⟨k2,e1,e2⟩:=ha
  exact .now ⟨.exit id,tm',h',nx',fr,q,⟨k2,e1,e2⟩,rfl⟩
 |pan a=>exact .now ⟨.pan a,tm',h',nx',fr,q,ha,rfl⟩
theorem W.cond{x:PX}{a b:aA}{t:Bool}(hx:x.at tm=some (.bool t))(hw:W C (if t then a else b) Q tm h nx):W C (.cond x a b) Q tm h nx:=by
 refine WI.to (y:=.code (if t then a else b)) ?_ hw
 intro af k cs h1 h2
 simp only[bP,hx]
 cases t<;>rfl
theorem W.block{id:Nat}{c:aA}(hw:W C c (fun e tm h nx=>match e with|.exit j=>if j=id then Q .norm tm h nx else Q (.exit j) tm h nx|e=>Q e tm h nx) tm h nx):W C (.block id c) Q tm h nx:=by
 intro af k cs h1 h2
 refine .step (m':=⟨{af with tm:=tm,todo:=.code c ::.inBlock id ::k},cs,h,nx⟩) (aS h1 rfl) ((hw af (.inBlock id ::k) cs h1 h2).bind ?_)
 rintro m ⟨e,tm',h',nx',fr,q,ha,rfl⟩
 cases e with
 |norm=>
  cases ha
  exact .step (aS h1 rfl) (.now ⟨.norm,tm',h',nx',_,q,rfl,rfl⟩)
 |ret=>exact .now ⟨.ret,tm',h',nx',fr,q,ha,rfl⟩
 |exit j=>
  obtain⟨k2,e1,rfl⟩:=ha
  by_cases hj:j=id
  ·subst hj
   simp only[if_true] at q
   refine .step (m':=⟨{af with tm:=tm',todo:=k},cs,h',nx'⟩) (aS h1 ?_) (.now ⟨.norm,tm',h',nx',_,q,rfl,rfl⟩)
   simp only[bP,e1,kQ,beqN_eq,decide_true,cond_true]
  ·simp only[if_neg hj] at q
   refine .now ⟨.exit j,tm',h',nx',_,q,⟨k2,?_,rfl⟩,rfl⟩
   rw[e1]
   simp only[kQ,beqN_eq,show ¬ id=j from fun e=>hj e.symm,decide_false,cond_false]
 |pan a=>exact .now ⟨.pan a,tm',h',nx',fr,q,ha,rfl⟩
theorem W.loop{c:aA}(Inv:Nat→T AV→T ag→Key→Prop)
  (hw:∀ n tm h nx,Inv n tm h nx→W C c (fun e tm h nx=>match e with|.norm=>∃ m,m<n∧Inv m tm h nx|e=>Q e tm h nx) tm h nx) {n:Nat} (hi:Inv n tm h nx):W C (.loop c) Q tm h nx:=by
 have key:∀ (n:Nat) (tm:T AV) (h:T ag) (nx:Key),Inv n tm h nx→WI C (.inLoop c) Q tm h nx:=by
  intro n
  induction n using Nat.strongRecOn with
  |_ n ih=>
   intro tm h nx hi af k cs h1 h2
   refine .step (m':=⟨{af with tm:=tm,todo:=.code c ::.inLoop c ::k},cs,h,nx⟩) (aS h1 rfl) ((hw n tm h nx hi af (.inLoop c ::k) cs h1 h2).bind ?_)
   rintro m ⟨e,tm',h',nx',fr,q,ha,rfl⟩
   cases e with
   |norm=>
    cases ha
    obtain⟨m,hm,him⟩:=q
    refine(ih m hm tm' h' nx' him {af with tm:=tm'} k cs h1 h2).mono ?_
    rintro m ⟨e2,ay,Uy,aH,Gb,q2,a2,t2⟩
    refine⟨e2,ay,Uy,aH,Gb,q2,?_,t2⟩
    cases e2<;>exact a2
   |ret=>exact .now ⟨.ret,tm',h',nx',fr,q,ha,rfl⟩
   |exit id=>
    obtain⟨k2,e1,e2⟩:=ha
    exact .now ⟨.exit id,tm',h',nx',fr,q,⟨k2,e1,e2⟩,rfl⟩
   |pan a=>exact .now ⟨.pan a,tm',h',nx',fr,q,ha,rfl⟩
 intro af k cs h1 h2
 -- the aLM code and sZ item go the same way
 exact Ev.same (by rw[aS (m:=⟨{af with tm:=tm,todo:=.inLoop c ::k},cs,h,nx⟩) h1 rfl,aS (m:=⟨{af with tm:=tm,todo:=.code (.loop c) ::k},cs,h,nx⟩) h1 rfl];rfl)
  (Stop.not (fun i e=>by cases i<;>cases e) h1) (key n tm h nx hi af k cs h1 h2)
inductive Out where
 |ret (v:AV)
 |pan (a:AV)
noncomputable def CC(C:cD)(f:Nat):Option fK:=bif Nat.beq (Key.eH 12 f).toNat f then aa (Key.eH 12 f) C.fns else none
def Left(C:cD)(f:Nat)(fr:jP)(h1:T ag)(o:Out)(h':T ag):Prop:=fr.dfs=[]∧match o with
 |.ret v=>fr.mode=.ret∧∃ l,resultsA h1 fr.tm fr.res=some l∧v=lT (ct (C.lS f) l h1).1∧h'=(ct (C.lS f) l h1).2
 |.pan a=>fr.mode=.pan a false∧h'=h1
def aFB(C:cD)(f:Nat)(R:Out→T ag→Key→Prop)(cs:List jP)(m:AM):Prop:=∃ o h' nx' fr h1,R o h' nx'∧fr.fn=f∧fr.BX=false∧Left C f fr h1 o h'∧m=⟨fr,cs,h1,nx'⟩
def aI(C:cD)(f:Nat)(l:List AV)(h:T ag)(nx:Key)(R:Out→T ag→Key→Prop):Prop:=
 (∃ v h' nx',C.sum f l h nx=some (v,h',nx')∧R (.ret v) h' nx')∨
 (C.sum f l h nx=none∧∃ p,CC C f=some p∧∀ cs,Ev C (aFB C f R cs) ⟨ae f p l,cs,h,nx⟩)
theorem aI.mono{f:Nat}{l:List AV}{R R':Out→T ag→Key→Prop}(hc:aI C f l h nx R)(hr:∀ o h nx,R o h nx→R' o h nx):aI C f l h nx R':=by
 rcases hc with⟨v,h',nx',h1,h2⟩|⟨h1,p,h2,h3⟩
 ·exact .inl ⟨v,h',nx',h1,hr _ _ _ h2⟩
 ·refine .inr ⟨h1,p,h2,fun cs=>(h3 cs).mono ?_⟩
  rintro m ⟨o,h',nx',fr,h1,q,r⟩
  exact⟨o,h',nx',fr,h1,hr _ _ _ q,r⟩
def yl(C:cD)(f:Nat)(res:List RV)(R:Out→T ag→Key→Prop):dN:=fun e tm h nx=>match e with
 |.norm|.ret=>∃ l,resultsA h tm res=some l∧R (.ret (lT (ct (C.lS f) l h).1)) (ct (C.lS f) l h).2 nx
 |.pan a=>R (.pan a) h nx
 |.exit _=>False
theorem aI.ajk{f:Nat}{p:fK}{l:List AV}{R:Out→T ag→Key→Prop}(hs:C.sum f l h nx=none)(hp:CC C f=some p)(hw:W C p.body (yl C f p.res R) (fV l .z .nil) h nx):aI C f l h nx R:=by
 refine .inr ⟨hs,p,hp,fun cs=>(hw (ae f p l) [] cs rfl trivial).bind ?_⟩
 rintro m ⟨e,tm',h',nx',fr,q,ha,rfl⟩
 cases e with
 |norm=>
  cases ha
  obtain⟨l1,hl,hr⟩:=q
  exact .step (m':=⟨{ae f p l with tm:=tm',todo:=[],mode:=.ret},cs,h',nx'⟩) (aS rfl rfl) (.now ⟨_,_,nx',_,h',hr,rfl,rfl,⟨rfl,rfl,l1,hl,rfl,rfl⟩,rfl⟩)
 |ret=>
  obtain⟨t',rfl⟩:=ha
  obtain⟨l1,hl,hr⟩:=q
  exact .step (m':=⟨{ae f p l with tm:=tm',todo:=.code .ret ::t',mode:=.ret},cs,h',nx'⟩) (aS rfl rfl) (.now ⟨_,_,nx',_,h',hr,rfl,rfl,⟨rfl,rfl,l1,hl,rfl,rfl⟩,rfl⟩)
 |exit id=>exact q.elim
 |pan a=>
  cases ha
  exact .now ⟨.pan a,h',nx',_,h',q,rfl,rfl,⟨rfl,rfl,rfl⟩,rfl⟩
theorem W.ops{l:List J}(hw:WI C (.ops l) Q tm h nx):W C (.ops l) Q tm h nx:=
 WI.to (y:=.ops l) (fun _ _ _ _ _=>rfl) hw
theorem WI.axN{l:List J}{tm':T AV}{h':T ag}{nx':Key}(hr:iO C.orc l tm h nx=.fin tm' h' nx')(hq:Q .norm tm' h' nx'):WI C (.ops l) Q tm h nx:=by
 intro af k cs h1 h2
 refine .step (m':=⟨{af with tm:=tm',todo:=k},cs,h',nx'⟩) (aS h1 ?_) (.now ⟨.norm,tm',h',nx',_,hq,rfl,rfl⟩)
 simp only[bP,hr]
theorem RM{S:AM→Prop}{f:Nat}{args:List AV}{fr c:jP}{cs:List jP}{R:Out→T ag→Key→Prop}(hc:aI C f (ct (C.raw f) args h).1 (ct (C.raw f) args h).2 nx R)
  (Fc:∀ v,∃ eY,bD v fr=some eY) (x8:fr.mode=.run) {m:AM} (hm:gC C m=gh C (.call f args) fr c cs h nx)
  (vn:∀ v h' nx' eY,R (.ret v) h' nx'→bD v fr=some eY→Ev C S ⟨eY,cs,h',nx'⟩)
  (auJ:∀ a h' nx',R (.pan a) h' nx'→Ev C S ⟨{fr with mode:=.pan a false,todo:=[],tm:=(match fr.todo with|.staged _ d _ ::_=>Fe d.ds fr.tm (fun t=>t)|_=>fr.tm)},cs,h',nx'⟩):Ev C S m:=by
 rcases hc with⟨v,h',nx',hs,hr⟩|⟨hs,p,hp,dP⟩
 ·obtain⟨eY,hf⟩:=Fc v
  refine .step (m':=⟨eY,cs,h',nx'⟩) ?_ (vn v h' nx' eY hr hf)
  rw[hm]
  simp only[gh,ur,hs,hf]
 ·have hen:gC C m=.next ⟨ae f p (ct (C.raw f) args h).1,fr ::cs,(ct (C.raw f) args h).2,nx⟩:=by
   rw[hm]
   simp only[gh,ur,hs]
   unfold BY
   have HL:(bif Nat.beq (Key.eH 12 f).toNat f then aa (Key.eH 12 f) C.fns else none)=some p:=hp
   simp only[HL,zq]
   rfl
  refine .step hen ((dP (fr ::cs)).bind ?_)
  rintro m2 ⟨o,h',nx',Gb,h1,hr,hfn,hdf,⟨hd,hL⟩,rfl⟩
  cases o with
  |ret v=>
   obtain⟨HH,l,hl,rfl,rfl⟩:=hL
   obtain⟨eY,hf⟩:=Fc (lT (ct (C.lS f) l h1).1)
   refine .step (m':=⟨eY,cs,(ct (C.lS f) l h1).2,nx'⟩) ?_ (vn _ _ nx' eY hr hf)
   unfold gC
   simp only[HH]
   unfold vZ
   simp only[hd,HH,hl,hfn,ur]
   unfold GH
   simp only[hdf,cond_false,hf]
  |pan a=>
   obtain⟨HH,rfl⟩:=hL
   refine .step ?_ (auJ a h' nx' hr)
   unfold gC
   simp only[HH]
   unfold vZ
   simp only[hd,HH,x8]
   rfl
theorem WI.auK{l:List J}{f:Nat}{args:List AV}{o:J}{rest:List J}{dn:T AV}{h1:T ag}{bN:Key}{R:Out→T ag→Key→Prop}(hr:iO C.orc l tm h nx=.ev (.call f args) (o ::rest) dn h1 bN)
  (hc:aI C f (ct (C.raw f) args h1).1 (ct (C.raw f) args h1).2 bN R)
  (vn:∀ v h2 aH,R (.ret v) h2 aH→WI C (.ops rest) Q (bu o.dst v dn) h2 aH)
  (auJ:∀ a h2 aH,R (.pan a) h2 aH→Q (.pan a) dn h2 aH):WI C (.ops l) Q tm h nx:=by
 intro af k cs m1 m2
 have dL:gC C ⟨{af with tm:=tm,todo:=.ops l ::k},cs,h,nx⟩=gh C (.call f args) {af with tm:=dn,todo:=.ops (o ::rest) ::k} {af with tm:=dn,todo:=[]} cs h1 bN:=by
  refine aS m1 ?_
  simp only[bP,hr]
 have hfe:∀ v,bD v {af with tm:=dn,todo:=.ops (o ::rest) ::k}=some {af with tm:=bu o.dst v dn,todo:=.ops rest ::k}:=fun v=>by simp only[bD,dw]
 refine RM (fr:={af with tm:=dn,todo:=.ops (o ::rest) ::k}) (c:={af with tm:=dn,todo:=[]}) (cs:=cs) hc (fun v=>⟨_,hfe v⟩) m1 dL ?_ ?_
 ·intro v h' nx' eY hR hf
  rw[hfe] at hf
  cases hf
  refine(vn v h' nx' hR {af with tm:=bu o.dst v dn} k cs m1 m2).mono ?_
  rintro m ⟨e2,ay,Uy,aH,Gb,q2,a2,t2⟩
  refine⟨e2,ay,Uy,aH,Gb,q2,?_,t2⟩
  cases e2<;>exact a2
 ·intro a h' nx' hR
  exact .now ⟨.pan a,dn,h',nx',_,auJ a h' nx' hR,rfl,rfl⟩
theorem W.staged{l:List aM}{d:SD}(hw:WI C (.staged l d []) Q tm h nx):W C (.staged l d) Q tm h nx:=
 WI.to (y:=.staged l d []) (fun _ _ _ _ _=>rfl) hw
theorem WI.aBZ{l:List aM}{d:SD}{ak:List (Nat×Key×ag)}{tm':T AV}{h':T ag}{nx':Key}(hr:gA C.orc d.iK l ak tm h nx=.fin tm' h' nx')(hq:Q .norm tm' h' nx'):WI C (.staged l d ak) Q tm h nx:=by
 intro af k cs h1 h2
 refine .step (m':=⟨{af with tm:=tm',todo:=k},cs,h',nx'⟩) (aS h1 ?_) (.now ⟨.norm,tm',h',nx',_,hq,rfl,rfl⟩)
 simp only[bP,hr]
theorem WI.axO{l:List aM}{d:SD}{ak yE:List (Nat×Key×ag)}{f:Nat}{args:List AV}{i:Nat}{o:J}{ad:List Nat}{rest:List aM}{dn:T AV}{h1:T ag}{bN:Key}{R:Out→T ag→Key→Prop}
  (hr:gA C.orc d.iK l ak tm h nx=.ev (.call f args) (.H i o ad ::rest) yE dn h1 bN)
  (hc:aI C f (ct (C.raw f) args h1).1 (ct (C.raw f) args h1).2 bN R)
  (vn:∀ v h2 aH,R (.ret v) h2 aH→WI C (.staged rest d yE) Q (bu o.dst v dn) h2 aH)
  (auJ:∀ a h2 aH,R (.pan a) h2 aH→Q (.pan a) (jb d.ds dn) h2 aH):WI C (.staged l d ak) Q tm h nx:=by
 intro af k cs m1 m2
 have dL:gC C ⟨{af with tm:=tm,todo:=.staged l d ak ::k},cs,h,nx⟩=gh C (.call f args) {af with tm:=dn,todo:=.staged (.H i o ad ::rest) d yE ::k} {af with tm:=jb d.ds dn,todo:=[]} cs h1 bN:=by
  refine aS m1 ?_
  simp only[bP,hr,mT]
 have hfe:∀ v,bD v {af with tm:=dn,todo:=.staged (.H i o ad ::rest) d yE ::k}=some {af with tm:=bu o.dst v dn,todo:=.staged rest d yE ::k}:=fun v=>by simp only[bD,dw]
 refine RM (fr:={af with tm:=dn,todo:=.staged (.H i o ad ::rest) d yE ::k}) (c:={af with tm:=jb d.ds dn,todo:=[]}) (cs:=cs) hc (fun v=>⟨_,hfe v⟩) m1 dL ?_ ?_
 ·intro v h' nx' eY hR hf
  rw[hfe] at hf
  cases hf
  refine(vn v h' nx' hR {af with tm:=bu o.dst v dn} k cs m1 m2).mono ?_
  rintro m ⟨e2,ay,Uy,aH,Gb,q2,a2,t2⟩
  refine⟨e2,ay,Uy,aH,Gb,q2,?_,t2⟩
  cases e2<;>exact a2
 ·intro a h' nx' hR
  simp only[mT]
  exact .now ⟨.pan a,jb d.ds dn,h',nx',_,auJ a h' nx' hR,rfl,rfl⟩
theorem WI.axP{l:List J}{la:List (AV×T ag)}{o:J}{rest:List J}{dn:T AV}{h1:T ag}{bN:Key}(hr:iO C.orc l tm h nx=.ev (.alt la) (o ::rest) dn h1 bN)
  (hw:∀ v h2,(v,h2)∈la→WI C (.ops rest) Q (bu o.dst v dn) h2 bN):WI C (.ops l) Q tm h nx:=by
 intro af k cs m1 m2
 have hfe:∀ v,bD v {af with tm:=dn,todo:=.ops (o ::rest) ::k}=some {af with tm:=bu o.dst v dn,todo:=.ops rest ::k}:=fun v=>by simp only[bD,dw]
 refine .alt (l:=ajZ {af with tm:=dn,todo:=.ops (o ::rest) ::k} cs bN la) (aS m1 (by simp only[bP,hr,gh,hfe])) ?_
 have key:∀ (q:List (AV×T ag)),(∀ x∈q,x∈la)→∀ m'∈ajZ {af with tm:=dn,todo:=.ops (o ::rest) ::k} cs bN q,Ev C (Stop Q af k cs) m':=by
  intro q
  induction q with
  |nil=>intro _ m' hm;cases hm
  |cons x q ih=>
   obtain⟨v,h2⟩:=x
   intro hq m' hm
   simp only[ajZ,hfe] at hm
   rcases Ga.1 hm with rfl|hm
   ·refine(hw v h2 (hq (v,h2) (by simp)) {af with tm:=bu o.dst v dn} k cs m1 m2).mono ?_
    rintro m ⟨e2,ay,Uy,aH,Gb,q2,a2,t2⟩
    refine⟨e2,ay,Uy,aH,Gb,q2,?_,t2⟩
    cases e2<;>exact a2
   ·exact ih (fun x hx=>hq x (by simp[hx])) m' hm
 exact key la (fun x hx=>hx)
theorem WI.axQ{l:List J}{a:AV}{rest:List J}{dn:T AV}{h1:T ag}{bN:Key}(hr:iO C.orc l tm h nx=.ev (.pan a) rest dn h1 bN)(hq:Q (.pan a) dn h1 bN):WI C (.ops l) Q tm h nx:=by
 intro af k cs m1 m2
 refine .step (m':=⟨{af with tm:=dn,todo:=[],mode:=.pan a false},cs,h1,bN⟩) (aS m1 ?_) (.now ⟨.pan a,dn,h1,bN,_,hq,rfl,rfl⟩)
 simp only[bP,hr,gh]
noncomputable def axR:List Key→List AV→T AV→Option (T AV)
 | [],[],tm=>some tm
 |k ::l,v ::m,tm=>axR l m (au k (some v) tm)
 |_,_,_=>none
theorem ajo{R:Type}:∀ (l:List Key) (m:List AV) (tm:T AV) (bad:R) (c:T AV→R),Su l m tm bad c=match axR l m tm with|some tm=>c tm|none=>bad
 | [],[],_,_,_=>rfl
 | [],_ ::_,_,_,_=>rfl
 |_ ::_,[],_,_,_=>rfl
 |k ::l,v ::m,tm,bad,c=>by
  show sY k (some v) tm (fun tm=>Su l m tm bad c)=_
  rw[sTCe]
  exact ajo l m _ bad c
def Oy(R:Out→T ag→Key→Prop)(l:Key)(fn:Nat)(tm:T AV)(res:List RV)(ps:List Key)(a b:aA)(d:Key):dN:=fun e _ h nx=>(∃ p,aa l h=some (.loop .busy p fn tm res ps a b d))∧match e with
 |.norm=>R (.ret (.bool true)) (au l (some (.loop .ready none fn tm res ps a b d)) h) nx
 |.ret=>R (.ret (.bool false)) (au l (some (.loop .done (some .ret) fn tm res ps a b d)) h) nx
 |.exit i=>R (.ret (.bool false)) (au l (some (.loop .done (some (.exit i)) fn tm res ps a b d)) h) nx
 |.pan _=>False
def CB(C:cD)(l:Key)(args:List AV)(h:T ag)(nx:Key)(R:Out→T ag→Key→Prop):Prop:=
 ∃ fn tm res ps a b d,(∃ p,aa l h=some (.loop .ready p fn tm res ps a b d))∧∃ dn,axR ps args tm=some dn∧
  W C a (fun e ay h2 aH=>e=.norm∧∃ p,aa l h2=some (.loop .ready p fn tm res ps a b d)∧W C b (Oy R l fn tm res ps a b d) ay (au l (some (.loop .busy p fn tm res ps a b d)) h2) aH) dn h nx
theorem C7{jump:Option aA}{fr c c':jP}{cs:List jP}{l:Key}{st:LS}{p:Option aA}{fn:Nat}{dn:T AV}{res:List RV}{ps:List Key}{a b:aA}{d:Key}(hr:fr.qZ=some l)(hl:aa l h=some (.loop st p fn dn res ps a b d))
  (hf:bD (.bool (match jump with|none=>true|some _=>false)) c=some c'):Fl jump fr (c ::cs) h nx=.next ⟨c',cs,au l (some (.loop (match jump with|none=>.ready|some _=>.done) jump fn dn res ps a b d)) h,nx⟩:=by
 unfold Fl
 rw[hr]
 dsimp only
 rw[hl]
 cases jump with
 |none=>
  have hf:bD (.bool true) c=some c':=hf
  simp only[sTCe,hf]
 |some j=>
  have hf:bD (.bool false) c=some c':=hf
  simp only[sTCe,hf]
theorem ajp{S:AM→Prop}{l:Key}{args:List AV}{fr c:jP}{cs:List jP}{R:Out→T ag→Key→Prop}(hc:CB C l args h nx R)
  (Fc:∀ v,∃ eY,bD v fr=some eY) {m:AM} (hm:gC C m=gh C (.yld l args) fr c cs h nx)
  (vn:∀ v h' nx' eY,R (.ret v) h' nx'→bD v fr=some eY→Ev C S ⟨eY,cs,h',nx'⟩):Ev C S m:=by
 obtain⟨fn,tm,res,ps,a,b,d,⟨p,hl⟩,dn,hz,hw⟩:=hc
 refine .step (m':=⟨{fn:=fn,tm:=dn,todo:=[.code a,.beginRound,.code b],dfs:=[],mode:=.run,BX:=false,qZ:=some l,res:=res},fr ::cs,h,nx⟩) ?_ ?_
 ·rw[hm]
  simp only[gh,hl,ajo,hz]
 ·refine(hw {fn:=fn,tm:=dn,todo:=[],dfs:=[],mode:=.run,BX:=false,qZ:=some l,res:=res} [.beginRound,.code b] (fr ::cs) rfl trivial).bind ?_
  rintro m2 ⟨e,ay,h2,aH,Gb,⟨rfl,p2,Fq,hw2⟩,ha,rfl⟩
  cases ha
  refine .step (m':=⟨{fn:=fn,tm:=ay,todo:=[.code b],dfs:=[],mode:=.run,BX:=false,qZ:=some l,res:=res},fr ::cs,au l (some (.loop .busy p2 fn tm res ps a b d)) h2,aH⟩) (aS rfl ?_) ?_
  ·simp only[bP,Fq,sTCe]
  ·refine(hw2 {fn:=fn,tm:=ay,todo:=[],dfs:=[],mode:=.run,BX:=false,qZ:=some l,res:=res} [] (fr ::cs) rfl trivial).bind ?_
   rintro m3 ⟨e,JL,h3,bF,fr3,⟨⟨p3,hl3⟩,q⟩,ha,rfl⟩
   cases e with
   |norm=>
    cases ha
    obtain⟨eY,hf⟩:=Fc (.bool true)
    refine .step (m':=⟨eY,cs,_,bF⟩) (aS rfl ?_) (vn _ _ bF eY q hf)
    exact C7 (jump:=none) (fr:={fn:=fn,tm:=JL,todo:=[],dfs:=[],mode:=.run,BX:=false,qZ:=some l,res:=res}) rfl hl3 hf
   |ret=>
    obtain⟨t,rfl⟩:=ha
    obtain⟨eY,hf⟩:=Fc (.bool false)
    refine .step (m':=⟨eY,cs,_,bF⟩) (aS rfl ?_) (vn _ _ bF eY q hf)
    exact C7 (jump:=some .ret) (fr:={fn:=fn,tm:=JL,todo:=.code .ret ::t,dfs:=[],mode:=.run,BX:=false,qZ:=some l,res:=res}) rfl hl3 hf
   |exit i=>
    obtain⟨k2,hk,rfl⟩:=ha
    obtain⟨eY,hf⟩:=Fc (.bool false)
    refine .step (m':=⟨eY,cs,_,bF⟩) (aS rfl ?_) (vn _ _ bF eY q hf)
    have hk:kQ i k2=none:=hk
    simp only[bP,hk]
    exact C7 (jump:=some (.exit i)) (fr:={fn:=fn,tm:=JL,todo:=.code (.exit i) ::k2,dfs:=[],mode:=.run,BX:=false,qZ:=some l,res:=res}) rfl hl3 hf
   |pan a=>exact q.elim
theorem WI.axS{l:List J}{lk:Key}{args:List AV}{o:J}{rest:List J}{dn:T AV}{h1:T ag}{bN:Key}{R:Out→T ag→Key→Prop}(hr:iO C.orc l tm h nx=.ev (.yld lk args) (o ::rest) dn h1 bN)
  (hc:CB C lk args h1 bN R) (vn:∀ v h2 aH,R (.ret v) h2 aH→WI C (.ops rest) Q (bu o.dst v dn) h2 aH):WI C (.ops l) Q tm h nx:=by
 intro af k cs m1 m2
 have dL:gC C ⟨{af with tm:=tm,todo:=.ops l ::k},cs,h,nx⟩=gh C (.yld lk args) {af with tm:=dn,todo:=.ops (o ::rest) ::k} {af with tm:=dn,todo:=[]} cs h1 bN:=by
  refine aS m1 ?_
  simp only[bP,hr]
 have hfe:∀ v,bD v {af with tm:=dn,todo:=.ops (o ::rest) ::k}=some {af with tm:=bu o.dst v dn,todo:=.ops rest ::k}:=fun v=>by simp only[bD,dw]
 refine ajp (fr:={af with tm:=dn,todo:=.ops (o ::rest) ::k}) (c:={af with tm:=dn,todo:=[]}) (cs:=cs) hc (fun v=>⟨_,hfe v⟩) dL ?_
 intro v h' nx' eY hR hf
 rw[hfe] at hf
 cases hf
 refine(vn v h' nx' hR {af with tm:=bu o.dst v dn} k cs m1 m2).mono ?_
 rintro m ⟨e2,ay,Uy,aH,Gb,q2,a2,t2⟩
 refine⟨e2,ay,Uy,aH,Gb,q2,?_,t2⟩
 cases e2<;>exact a2
theorem WI.aB0{l:List aM}{d:SD}{ak yE:List (Nat×Key×ag)}{lk:Key}{args:List AV}{i:Nat}{o:J}{ad:List Nat}{rest:List aM}{dn:T AV}{h1:T ag}{bN:Key}{R:Out→T ag→Key→Prop}
  (hr:gA C.orc d.iK l ak tm h nx=.ev (.yld lk args) (.H i o ad ::rest) yE dn h1 bN)
  (hc:CB C lk args h1 bN R) (vn:∀ v h2 aH,R (.ret v) h2 aH→WI C (.staged rest d yE) Q (bu o.dst v dn) h2 aH):WI C (.staged l d ak) Q tm h nx:=by
 intro af k cs m1 m2
 have dL:gC C ⟨{af with tm:=tm,todo:=.staged l d ak ::k},cs,h,nx⟩=gh C (.yld lk args) {af with tm:=dn,todo:=.staged (.H i o ad ::rest) d yE ::k} {af with tm:=jb d.ds dn,todo:=[]} cs h1 bN:=by
  refine aS m1 ?_
  simp only[bP,hr,mT]
 have hfe:∀ v,bD v {af with tm:=dn,todo:=.staged (.H i o ad ::rest) d yE ::k}=some {af with tm:=bu o.dst v dn,todo:=.staged rest d yE ::k}:=fun v=>by simp only[bD,dw]
 refine ajp (fr:={af with tm:=dn,todo:=.staged (.H i o ad ::rest) d yE ::k}) (c:={af with tm:=jb d.ds dn,todo:=[]}) (cs:=cs) hc (fun v=>⟨_,hfe v⟩) dL ?_
 intro v h' nx' eY hR hf
 rw[hfe] at hf
 cases hf
 refine(vn v h' nx' hR {af with tm:=bu o.dst v dn} k cs m1 m2).mono ?_
 rintro m ⟨e2,ay,Uy,aH,Gb,q2,a2,t2⟩
 refine⟨e2,ay,Uy,aH,Gb,q2,?_,t2⟩
 cases e2<;>exact a2
end
end Go.Sx
/-
 SX: how rows of operations are worked out, for data that are not known. No condition.
-/
namespace Go.Sx
def K(n:Nat):Key:=bif Nat.blt n 4095 then Key.eH 12 n else Key.eH n n
theorem nT:∀ (f n:Nat),n+1<2^(f+1)→(Key.eH f n).toNat=n
 |0,n,h=>by
  have:n=0:=by omega
  subst this;rfl
 |f+1,n,h=>by
  unfold Key.eH
  have hp:2^(f+1+1)=2*2^(f+1):=by rw[Nat.pow_succ,Nat.mul_comm]
  cases h0:Nat.beq n 0 with
  |true=>have:=mU h0;subst this;rfl
  |false=>
   have hn:n≠0:=by intro e;subst e;cases h0
   simp only[cond_false]
   cases h1:Nat.beq (n%2) 1 with
   |true=>
    have h1:=mU h1
    simp only[cond_true,Key.toNat,nT f (n / 2) (by omega)]
    omega
   |false=>
    have h1:n%2≠1:=by intro e;rw[e] at h1;cases h1
    simp only[cond_false,Key.toNat,nT f (n / 2-1) (by omega)]
    omega
theorem L5(n:Nat):(K n).toNat=n:=by
 unfold K
 cases h:Nat.blt n 4095 with
 |true=>
  rw[bltN_eq,decide_eq_true_eq] at h
  exact nT 12 n (by omega)
 |false=>
  refine nT n n ?_
  have:n+1<2^(n+1):=Nat.lt_two_pow_self
  exact this
theorem aFw{i j:Nat}(h:K i=K j):i=j:=by rw[← L5 i,← L5 j,h]
theorem aBg(n:Nat):(K n).succ=K (n+1):=Key.toNat_inj (by rw[kTSu,L5,L5])
theorem get_set_K{α:Type}(i j:Nat)(v:Option α)(t:T α):aa (K i) (au (K j) v t)=if i=j then v else aa (K i) t:=by
 by_cases h:i=j
 ·subst h;rw[if_pos rfl,gTSm]
 ·rw[if_neg h,bG _ _ _ _ (fun e=>h (aFw e))]
section
variable{orc:hU}{tm:T AV}{h:T ag}{nx:Key}
theorem at_t(k:Key):(PX.t k).at tm=aa k tm:=rfl
theorem at_v(a:AV):(PX.v a).at tm=some a:=rfl
theorem amD:iO orc [] tm h nx=.fin tm h nx:=rfl
theorem putTm_some(k:Key)(v:AV):bu (some k) v tm=au k (some v) tm:=rfl
theorem putTm_none(v:AV):bu none v tm=tm:=rfl
theorem wants_none:cx none tm=some true:=rfl
theorem wants_some(k:Key)(b:Bool):cx (some (k,b)) tm=match aa k tm with
  |some (.bool c)=>some (c==b)
  |some (.tuple [])=>some false
  |_=>none:=rfl
theorem ltI_dec(a b:Int):D9 a b=decide (a<b):=FD a b
theorem aq{n:Int}(h1:-9223372036854775808≤n)(h2:n<9223372036854775808):cu .i64 n=n:=by
 rw[jv]
 have:IntKind.wrap .i64 n=n:=by
  rw[← jv]
  simp only[cu,full,half,FD]
  have h3:Int.emod n 18446744073709551616=n%18446744073709551616:=rfl
  rw[h3]
  by_cases h0:0≤n
  ·rw[show n%18446744073709551616=n by omega]
   have:decide (n<9223372036854775808)=true:=by simpa using h2
   rw[this];rfl
  ·rw[show n%18446744073709551616=n+18446744073709551616 by omega]
   have:decide (n+18446744073709551616<9223372036854775808)=false:=by simp;omega
   rw[this]
   show n+18446744073709551616-18446744073709551616=n
   omega
 exact this
end
end Go.Sx
/-
 SX: what must hold ahead of code, reckoned by program. No condition.
-/
namespace Go.Sx
open Go.RowKit
def wpG(t:Option Bool)(A B:Prop):Prop:=match t with
 |none=>False
 |some t=>(t=true→A)∧(t=false→B)
noncomputable def mX(C:cD)(Q:dN):List J→T AV→T ag→Key→Prop
 | [],tm,h,nx=>Q .norm tm h nx
 |o ::l,tm,h,nx=>wpG (cx o.guard tm)
   (match aOp C.orc o.op tm h nx with
   |.val v h nx=>mX C Q l (bu o.dst v tm) h nx
   |.call f args=>aI C f (ct (C.raw f) args h).1 (ct (C.raw f) args h).2 nx (fun out h nx=>match out with
    |.ret v=>mX C Q l (bu o.dst v tm) h nx
    |.pan a=>Q (.pan a) tm h nx)
   |.yld k args=>CB C k args h nx (fun out h nx=>match out with
    |.ret v=>mX C Q l (bu o.dst v tm) h nx
    |.pan a=>Q (.pan a) tm h nx)
   |.pan a=>Q (.pan a) tm h nx
   |.alt la=>∀ v h2,(v,h2)∈la→mX C Q l (bu o.dst v tm) h2 nx
   |_=>False)
   (mX C Q l (bu o.dst (.tuple []) tm) h nx)
noncomputable def wpS(C:cD)(Q:dN)(d:SD):List aM→List (Nat×Key×ag)→T AV→T ag→Key→Prop
 | [],ak,tm,h,nx=>Q .norm tm (cM ak h) nx
 |.L i o ::l,ak,tm,h,nx=>wpG (cx o.guard tm)
   (match lightOp C.orc o.op tm (uC (BC i d.iK) ak h) with
   |some v=>wpS C Q d l ak (bu o.dst v tm) h nx
   |none=>False)
   (wpS C Q d l ak (bu o.dst (.tuple []) tm) h nx)
 |.A i o ::l,ak,tm,h,nx=>wpG (cx o.guard tm)
   (match allocOp o.op tm with
   |some (v,b)=>wpS C Q d l ((i,nx,b) ::ak) (bu o.dst (v nx) tm) h nx.succ
   |none=>False)
   (wpS C Q d l ak (bu o.dst (.tuple []) tm) h nx)
 |.H i o ad ::l,ak,tm,h,nx=>wpG (cx o.guard tm)
   (match aOp C.orc o.op tm (cM (ak.filter fun x=>memN x.1 ad) h) nx with
   |.val v h nx=>wpS C Q d l (ak.filter fun x=>!(memN x.1 ad)) (bu o.dst v tm) h nx
   |.call f args=>aI C f (ct (C.raw f) args (cM (ak.filter fun x=>memN x.1 ad) h)).1 (ct (C.raw f) args (cM (ak.filter fun x=>memN x.1 ad) h)).2 nx (fun out h nx=>match out with
    |.ret v=>wpS C Q d l (ak.filter fun x=>!(memN x.1 ad)) (bu o.dst v tm) h nx
    |.pan a=>Q (.pan a) (jb d.ds tm) h nx)
   |.yld k args=>CB C k args (cM (ak.filter fun x=>memN x.1 ad) h) nx (fun out h nx=>match out with
    |.ret v=>wpS C Q d l (ak.filter fun x=>!(memN x.1 ad)) (bu o.dst v tm) h nx
    |.pan a=>Q (.pan a) (jb d.ds tm) h nx)
   |.pan a=>Q (.pan a) (jb d.ds tm) (cM (ak.filter fun x=>memN x.1 ad) h) nx
   |_=>False)
   (wpS C Q d l (ak.filter fun x=>!(memN x.1 ad)) (bu o.dst (.tuple []) tm) (cM (ak.filter fun x=>memN x.1 ad) h) nx)
 |.R os ::l,ak,tm,h,nx=>recheck C.orc d.iK ak tm h os=true∧wpS C Q d l ak tm h nx
def av(W:T AV→T ag→Key→Prop)(Q:dN):dN:=fun e tm h nx=>match e with
 |.norm=>W tm h nx
 |e=>Q e tm h nx
def al(id:Nat)(Q:dN):dN:=fun e tm h nx=>match e with
 |.exit j=>if j=id then Q .norm tm h nx else Q (.exit j) tm h nx
 |e=>Q e tm h nx
noncomputable def eP(C:cD):aA→dN→T AV→T ag→Key→Prop
 |.skip,Q,tm,h,nx=>Q .norm tm h nx
 |.ops l,Q,tm,h,nx=>mX C Q l tm h nx
 |.staged l d,Q,tm,h,nx=>wpS C Q d l [] tm h nx
 |.seq a b,Q,tm,h,nx=>eP C a (av (eP C b Q) Q) tm h nx
 |.cond x a b,Q,tm,h,nx=>match x.at tm with
  |some (.bool t)=>(t=true→eP C a Q tm h nx)∧(t=false→eP C b Q tm h nx)
  |_=>False
 |.block id c,Q,tm,h,nx=>eP C c (al id Q) tm h nx
 |.loop c,Q,tm,h,nx=>W C (.loop c) Q tm h nx
 |.rangeF f ps a b,Q,tm,h,nx=>W C (.rangeF f ps a b) Q tm h nx
 |.exit id,Q,tm,h,nx=>Q (.exit id) tm h nx
 |.ret,Q,tm,h,nx=>Q .ret tm h nx
section
variable{C:cD}{Q:dN}
theorem WI.same{x y:cJ}{tm ay:T AV}{h h2:T ag}{nx aH:Key}(hy:∀ i,y≠.code (Lv i))(hs:∀ (af:jP) (k:List cJ) (cs:List jP),af.mode=.run→bP C {af with tm:=tm,todo:=x ::k} cs h nx=bP C {af with tm:=ay,todo:=y ::k} cs h2 aH)
  (hw:WI C y Q ay h2 aH):WI C x Q tm h nx:=by
 intro af k cs h1 QL
 exact Ev.same (by rw[aS (m:=⟨{af with tm:=ay,todo:=y ::k},cs,h2,aH⟩) h1 rfl,aS (m:=⟨{af with tm:=tm,todo:=x ::k},cs,h,nx⟩) h1 rfl];exact hs af k cs h1)
  (Stop.not hy h1) (hw af k cs h1 QL)
theorem uh:∀ {l:List J} {tm:T AV} {h:T ag} {nx:Key},mX C Q l tm h nx→WI C (.ops l) Q tm h nx
 | [],tm,h,nx,hw=>WI.axN amD hw
 |o ::l,tm,h,nx,hw=>by
  unfold mX at hw
  cases hg:cx o.guard tm with
  |none=>rw[hg] at hw;exact hw.elim
  |some t=>
   rw[hg] at hw
   have EL:∀ {ay:T AV} {h2:T ag} {aH:Key},iO C.orc (o ::l) tm h nx=iO C.orc l ay h2 aH→mX C Q l ay h2 aH→WI C (.ops (o ::l)) Q tm h nx:=by
    intro ay h2 aH he hw2
    refine WI.same (y:=.ops l) (fun i e=>by cases i<;>cases e) ?_ (uh hw2)
    intro af k cs _
    show(match iO C.orc (o ::l) tm h nx with|.fin tm h nx=>_|.ev r rest tm h nx=>_)=(match iO C.orc l ay h2 aH with|.fin tm h nx=>_|.ev r rest tm h nx=>_)
    rw[he]
   cases t with
   |false=>
    refine EL ?_ (hw.2 rfl)
    rw[kK,hg]
    simp only[dw]
   |true=>
    have hw:=hw.1 rfl
    cases ha:aOp C.orc o.op tm h nx with
    |val v h' nx'=>
     rw[ha] at hw
     refine EL ?_ hw
     rw[kK,hg,ha]
     simp only[dw]
    |call f args=>
     rw[ha] at hw
     refine WI.auK (by rw[kK,hg,ha]) hw (fun v h2 aH hr=>uh hr) (fun a h2 aH hr=>hr)
    |pan a=>
     rw[ha] at hw
     exact WI.axQ (by rw[kK,hg,ha]) hw
    |alt la=>
     rw[ha] at hw
     exact WI.axP (by rw[kK,hg,ha]) (fun v h2 hm=>uh (hw v h2 hm))
    |yld k args=>
     rw[ha] at hw
     exact WI.axS (by rw[kK,hg,ha]) hw (fun v h2 aH hr=>uh hr)
    |dfr f args=>rw[ha] at hw;exact hw.elim
    |recover=>rw[ha] at hw;exact hw.elim
    |bad n=>rw[ha] at hw;exact hw.elim
theorem yS{d:SD}:∀ {l:List aM} {ak:List (Nat×Key×ag)} {tm:T AV} {h:T ag} {nx:Key},wpS C Q d l ak tm h nx→WI C (.staged l d ak) Q tm h nx
 | [],ak,tm,h,nx,hw=>WI.aBZ (by show Ce ak h (fun h=>RS.fin tm h nx)=_;rw[Dd]) hw
 |x ::l,ak,tm,h,nx,hw=>by
  have EL:∀ {pend2:List (Nat×Key×ag)} {ay:T AV} {h2:T ag} {aH:Key},gA C.orc d.iK (x ::l) ak tm h nx=gA C.orc d.iK l pend2 ay h2 aH→wpS C Q d l pend2 ay h2 aH→WI C (.staged (x ::l) d ak) Q tm h nx:=by
   intro pend2 ay h2 aH he hw2
   refine WI.same (y:=.staged l d pend2) (fun i e=>by cases i<;>cases e) ?_ (yS hw2)
   intro af k cs _
   show(match gA C.orc d.iK (x ::l) ak tm h nx with|.fin tm h nx=>_|.ev r rest ak tm h nx=>_)=(match gA C.orc d.iK l pend2 ay h2 aH with|.fin tm h nx=>_|.ev r rest ak tm h nx=>_)
   rw[he]
  cases x with
  |L i o=>
   unfold wpS at hw
   cases hg:cx o.guard tm with
   |none=>rw[hg] at hw;exact hw.elim
   |some t=>
    rw[hg] at hw
    cases t with
    |false=>
     refine EL ?_ (hw.2 rfl)
     rw[T7,hg]
     simp only[dw]
    |true=>
     have hw:=hw.1 rfl
     cases hl:lightOp C.orc o.op tm (uC (BC i d.iK) ak h) with
     |none=>rw[hl] at hw;exact hw.elim
     |some v=>
      rw[hl] at hw
      refine EL ?_ hw
      rw[T7,hg,hl]
      simp only[dw]
  |A i o=>
   unfold wpS at hw
   cases hg:cx o.guard tm with
   |none=>rw[hg] at hw;exact hw.elim
   |some t=>
    rw[hg] at hw
    cases t with
    |false=>
     refine EL ?_ (hw.2 rfl)
     rw[T8,hg]
     simp only[dw]
    |true=>
     have hw:=hw.1 rfl
     cases hl:allocOp o.op tm with
     |none=>rw[hl] at hw;exact hw.elim
     |some vb=>
      obtain⟨v,b⟩:=vb
      rw[hl] at hw
      refine EL ?_ hw
      rw[T8,hg,hl]
      simp only[dw]
  |H i o ad=>
   unfold wpS at hw
   cases hg:cx o.guard tm with
   |none=>rw[hg] at hw;exact hw.elim
   |some t=>
    rw[hg] at hw
    cases t with
    |false=>
     refine EL ?_ (hw.2 rfl)
     rw[T9,uX,hg]
     simp only[dw]
    |true=>
     have hw:=hw.1 rfl
     have dP:gA C.orc d.iK (.H i o ad ::l) ak tm h nx=(match aOp C.orc o.op tm (cM (ak.filter fun x=>memN x.1 ad) h) nx with
       |.val v h nx=>uB o.dst (some v) tm fun tm=>gA C.orc d.iK l (ak.filter fun x=>!(memN x.1 ad)) tm h nx
       |r=>.ev r (.H i o ad ::l) (ak.filter fun x=>!(memN x.1 ad)) tm (cM (ak.filter fun x=>memN x.1 ad) h) nx):=by
      rw[T9,uX,hg]
      rfl
     cases ha:aOp C.orc o.op tm (cM (ak.filter fun x=>memN x.1 ad) h) nx with
     |val v h' nx'=>
      rw[ha] at hw dP
      refine EL ?_ hw
      rw[dP]
      simp only[dw]
     |call f args=>
      rw[ha] at hw dP
      exact WI.axO dP hw (fun v h2 aH hr=>yS hr) (fun a h2 aH hr=>hr)
     |pan a=>
      rw[ha] at hw dP
      intro af k cs m1 m2
      refine .step (m':=⟨{af with tm:=jb d.ds tm,todo:=[],mode:=.pan a false},cs,_,nx⟩) (aS m1 ?_) (.now ⟨.pan a,jb d.ds tm,_,nx,_,hw,rfl,rfl⟩)
      simp only[bP,dP,mT,gh]
     |alt la=>rw[ha] at hw;exact hw.elim
     |yld k args=>
      rw[ha] at hw dP
      exact WI.aB0 dP hw (fun v h2 aH hr=>yS hr)
     |dfr f args=>rw[ha] at hw;exact hw.elim
     |recover=>rw[ha] at hw;exact hw.elim
     |bad n=>rw[ha] at hw;exact hw.elim
  |R os=>
   unfold wpS at hw
   refine EL ?_ hw.2
   rw[Td,hw.1]
   rfl
theorem lg:∀ {c:aA} {Q:dN} {tm:T AV} {h:T ag} {nx:Key},eP C c Q tm h nx→W C c Q tm h nx
 |.skip,Q,tm,h,nx,hw=>W.skip hw
 |.ops l,Q,tm,h,nx,hw=>W.ops (uh hw)
 |.staged l d,Q,tm,h,nx,hw=>W.staged (yS hw)
 |.seq a b,Q,tm,h,nx,hw=>by
  have hw:eP C a (av (eP C b Q) Q) tm h nx:=hw
  refine W.seq ((lg hw).mono fun e tm h nx hq=>?_)
  cases e with
  |norm=>exact lg hq
  |_=>exact hq
 |.cond x a b,Q,tm,h,nx,hw=>by
  unfold eP at hw
  split at hw
  ·rename_i t hx
   refine W.cond hx ?_
   cases t with
   |true=>exact lg (hw.1 rfl)
   |false=>exact lg (hw.2 rfl)
  ·exact hw.elim
 |.block id c,Q,tm,h,nx,hw=>by
  have hw:eP C c (al id Q) tm h nx:=hw
  refine W.block ((lg hw).mono fun e tm h nx hq=>?_)
  cases e with
  |exit j=>exact hq
  |_=>exact hq
 |.loop c,Q,tm,h,nx,hw=>hw
 |.rangeF f ps a b,Q,tm,h,nx,hw=>hw
 |.exit id,Q,tm,h,nx,hw=>W.exit hw
 |.ret,Q,tm,h,nx,hw=>W.ret hw
theorem aI.of_wp{f:Nat}{p:fK}{l:List AV}{h:T ag}{nx:Key}{R:Out→T ag→Key→Prop}(hs:C.sum f l h nx=none)(hp:CC C f=some p)(hw:eP C p.body (yl C f p.res R) (fV l .z .nil) h nx):aI C f l h nx R:=
 aI.ajk hs hp (lg hw)
end
end Go.Sx
/-
 SX: rules by which 'simp' works code out. No condition.
-/
namespace Go.Sx
noncomputable def A(b:Key):Nat→Key
 |0=>b
 |i+1=>(A b i).succ
theorem anG(b:Key):∀ i,(A b i).toNat=b.toNat+i
 |0=>rfl
 |i+1=>by simp only[A,kTSu,anG b i];omega
@[simp] theorem aKU(b:Key)(i:Nat):(A b i).succ=A b (i+1):=rfl
@[simp] theorem aCQ{α:Type}(b:Key)(i j:Nat)(v:Option α)(t:T α):aa (A b i) (au (A b j) v t)=if i=j then v else aa (A b i) t:=by
 by_cases h:i=j
 ·subst h;rw[if_pos rfl,gTSm]
 ·rw[if_neg h,bG]
  intro e
  have:=congrArg Key.toNat e
  simp only[anG] at this
  omega
theorem Vx{α:Type}{b:Key}{c:Key}(v:Option α)(t:T α)(h:b.toNat<c.toNat):aa b (au c v t)=aa b t:=
 bG _ _ _ _ (fun e=>by rw[e] at h;exact absurd h (Nat.lt_irrefl _))
attribute [simp] get_set_K at_t at_v putTm_some putTm_none wants_none wants_some okV sTCe
@[simp] theorem aw8(W:T AV→T ag→Key→Prop)(Q:dN)(tm:T AV)(h:T ag)(nx:Key):av W Q .norm tm h nx=W tm h nx:=propext Iff.rfl
@[simp] theorem ayR(W:T AV→T ag→Key→Prop)(Q:dN)(tm:T AV)(h:T ag)(nx:Key):av W Q .ret tm h nx=Q .ret tm h nx:=propext Iff.rfl
@[simp] theorem aw9(W:T AV→T ag→Key→Prop)(Q:dN)(i:Nat)(tm:T AV)(h:T ag)(nx:Key):av W Q (.exit i) tm h nx=Q (.exit i) tm h nx:=propext Iff.rfl
@[simp] theorem ayS(W:T AV→T ag→Key→Prop)(Q:dN)(a:AV)(tm:T AV)(h:T ag)(nx:Key):av W Q (.pan a) tm h nx=Q (.pan a) tm h nx:=propext Iff.rfl
@[simp] theorem atr(j:Nat)(Q:dN)(tm:T AV)(h:T ag)(nx:Key):al j Q .norm tm h nx=Q .norm tm h nx:=propext Iff.rfl
@[simp] theorem avx(j:Nat)(Q:dN)(tm:T AV)(h:T ag)(nx:Key):al j Q .ret tm h nx=Q .ret tm h nx:=propext Iff.rfl
@[simp] theorem ats(j:Nat)(Q:dN)(i:Nat)(tm:T AV)(h:T ag)(nx:Key):al j Q (.exit i) tm h nx=if i=j then Q .norm tm h nx else Q (.exit i) tm h nx:=propext Iff.rfl
@[simp] theorem avy(j:Nat)(Q:dN)(a:AV)(tm:T AV)(h:T ag)(nx:Key):al j Q (.pan a) tm h nx=Q (.pan a) tm h nx:=propext Iff.rfl
theorem ug{p q:Prop}(h:p↔q):p=q:=propext h
section
variable(C:cD)(Q:dN)(tm:T AV)(h:T ag)(nx:Key)(d:SD)(ak:List (Nat×Key×ag))
@[simp] theorem Vy(t:Bool)(A B:Prop):wpG (some t) A B=((t=true→A)∧(t=false→B)):=ug Iff.rfl
@[simp] theorem aEx(A B:Prop):wpG none A B=False:=ug Iff.rfl
@[simp] theorem aEy:eP C .skip Q tm h nx=Q .norm tm h nx:=ug Iff.rfl
@[simp] theorem bE(l:List J):eP C (.ops l) Q tm h nx=mX C Q l tm h nx:=ug Iff.rfl
@[simp] theorem bw(l:List aM)(d:SD):eP C (.staged l d) Q tm h nx=wpS C Q d l [] tm h nx:=ug Iff.rfl
@[simp] theorem bp(a b:aA):eP C (.seq a b) Q tm h nx=eP C a (av (eP C b Q) Q) tm h nx:=ug Iff.rfl
@[simp] theorem eu(x:PX)(a b:aA):eP C (.cond x a b) Q tm h nx=(match x.at tm with
  |some (.bool t)=>(t=true→eP C a Q tm h nx)∧(t=false→eP C b Q tm h nx)
  |_=>False):=ug Iff.rfl
@[simp] theorem jF(id:Nat)(c:aA):eP C (.block id c) Q tm h nx=eP C c (al id Q) tm h nx:=ug Iff.rfl
@[simp] theorem aEz(c:aA):eP C (.loop c) Q tm h nx=W C (.loop c) Q tm h nx:=ug Iff.rfl
@[simp] theorem aEA(id:Nat):eP C (.exit id) Q tm h nx=Q (.exit id) tm h nx:=ug Iff.rfl
@[simp] theorem aGT:eP C .ret Q tm h nx=Q .ret tm h nx:=ug Iff.rfl
@[simp] theorem aGU:mX C Q [] tm h nx=Q .norm tm h nx:=ug Iff.rfl
def KO(o:J)(l:List J):Out→T ag→Key→Prop:=fun out h nx=>match out with
 |.ret v=>mX C Q l (bu o.dst v tm) h nx
 |.pan a=>Q (.pan a) tm h nx
def KS(o:J)(l:List aM):Out→T ag→Key→Prop:=fun out h nx=>match out with
 |.ret v=>wpS C Q d l ak (bu o.dst v tm) h nx
 |.pan a=>Q (.pan a) (jb d.ds tm) h nx
@[simp] theorem aKV(o:J)(l:List J)(v:AV):KO C Q tm o l (.ret v) h nx=mX C Q l (bu o.dst v tm) h nx:=ug Iff.rfl
@[simp] theorem aKW(o:J)(l:List J)(a:AV):KO C Q tm o l (.pan a) h nx=Q (.pan a) tm h nx:=ug Iff.rfl
@[simp] theorem aKX(o:J)(l:List aM)(v:AV):KS C Q tm d ak o l (.ret v) h nx=wpS C Q d l ak (bu o.dst v tm) h nx:=ug Iff.rfl
@[simp] theorem aKY(o:J)(l:List aM)(a:AV):KS C Q tm d ak o l (.pan a) h nx=Q (.pan a) (jb d.ds tm) h nx:=ug Iff.rfl
def PY(o:J)(l:List J)(t:Option Bool):Prop:=wpG t
   (match aOp C.orc o.op tm h nx with
   |.val v h nx=>mX C Q l (bu o.dst v tm) h nx
   |.call f args=>aI C f (ct (C.raw f) args h).1 (ct (C.raw f) args h).2 nx (KO C Q tm o l)
   |.yld k args=>CB C k args h nx (KO C Q tm o l)
   |.pan a=>Q (.pan a) tm h nx
   |.alt la=>∀ v h2,(v,h2)∈la→mX C Q l (bu o.dst v tm) h2 nx
   |_=>False)
   (mX C Q l (bu o.dst (.tuple []) tm) h nx)
@[simp] theorem aEB(o:J)(l:List J):mX C Q (o ::l) tm h nx=PY C Q tm h nx o l (cx o.guard tm):=ug (by rw[mX];exact Iff.rfl)
@[simp] theorem aCR(o:J)(l:List J):PY C Q tm h nx o l (some true)=(match aOp C.orc o.op tm h nx with
   |.val v h nx=>mX C Q l (bu o.dst v tm) h nx
   |.call f args=>aI C f (ct (C.raw f) args h).1 (ct (C.raw f) args h).2 nx (KO C Q tm o l)
   |.yld k args=>CB C k args h nx (KO C Q tm o l)
   |.pan a=>Q (.pan a) tm h nx
   |.alt la=>∀ v h2,(v,h2)∈la→mX C Q l (bu o.dst v tm) h2 nx
   |_=>False):=by simp[PY]
@[simp] theorem aAR(o:J)(l:List J):PY C Q tm h nx o l (some false)=mX C Q l (bu o.dst (.tuple []) tm) h nx:=by simp[PY]
@[simp] theorem aCS(o:J)(l:List J):PY C Q tm h nx o l none=False:=by simp[PY]
@[simp low] theorem aEC(o:J)(l:List J)(t:Bool):PY C Q tm h nx o l (some t)=((t=true→PY C Q tm h nx o l (some true))∧(t=false→PY C Q tm h nx o l (some false))):=by
 cases t<;>simp
@[simp] theorem aGV:wpS C Q d [] ak tm h nx=Q .norm tm (cM ak h) nx:=ug Iff.rfl
def PZ(i:Nat)(o:J)(l:List aM)(t:Option Bool):Prop:=wpG t
   (match lightOp C.orc o.op tm (uC (BC i d.iK) ak h) with
   |some v=>wpS C Q d l ak (bu o.dst v tm) h nx
   |none=>False)
   (wpS C Q d l ak (bu o.dst (.tuple []) tm) h nx)
@[simp] theorem aO3(i:Nat)(o:J)(l:List aM):wpS C Q d (.L i o ::l) ak tm h nx=PZ C Q tm h nx d ak i o l (cx o.guard tm):=ug (by rw[wpS];exact Iff.rfl)
@[simp] theorem aCT(i:Nat)(o:J)(l:List aM):PZ C Q tm h nx d ak i o l (some true)=(match lightOp C.orc o.op tm (uC (BC i d.iK) ak h) with
   |some v=>wpS C Q d l ak (bu o.dst v tm) h nx
   |none=>False):=by simp[PZ]
@[simp] theorem aAS(i:Nat)(o:J)(l:List aM):PZ C Q tm h nx d ak i o l (some false)=wpS C Q d l ak (bu o.dst (.tuple []) tm) h nx:=by simp[PZ]
@[simp] theorem aCU(i:Nat)(o:J)(l:List aM):PZ C Q tm h nx d ak i o l none=False:=by simp[PZ]
@[simp low] theorem aED(i:Nat)(o:J)(l:List aM)(t:Bool):PZ C Q tm h nx d ak i o l (some t)=((t=true→PZ C Q tm h nx d ak i o l (some true))∧(t=false→PZ C Q tm h nx d ak i o l (some false))):=by
 cases t<;>simp
def P0(i:Nat)(o:J)(l:List aM)(t:Option Bool):Prop:=wpG t
   (match allocOp o.op tm with
   |some (v,b)=>wpS C Q d l ((i,nx,b) ::ak) (bu o.dst (v nx) tm) h nx.succ
   |none=>False)
   (wpS C Q d l ak (bu o.dst (.tuple []) tm) h nx)
@[simp] theorem aO4(i:Nat)(o:J)(l:List aM):wpS C Q d (.A i o ::l) ak tm h nx=P0 C Q tm h nx d ak i o l (cx o.guard tm):=ug (by rw[wpS];exact Iff.rfl)
@[simp] theorem aCV(i:Nat)(o:J)(l:List aM):P0 C Q tm h nx d ak i o l (some true)=(match allocOp o.op tm with
   |some (v,b)=>wpS C Q d l ((i,nx,b) ::ak) (bu o.dst (v nx) tm) h nx.succ
   |none=>False):=by simp[P0]
@[simp] theorem aAT(i:Nat)(o:J)(l:List aM):P0 C Q tm h nx d ak i o l (some false)=wpS C Q d l ak (bu o.dst (.tuple []) tm) h nx:=by simp[P0]
@[simp] theorem aCW(i:Nat)(o:J)(l:List aM):P0 C Q tm h nx d ak i o l none=False:=by simp[P0]
@[simp low] theorem aEE(i:Nat)(o:J)(l:List aM)(t:Bool):P0 C Q tm h nx d ak i o l (some t)=((t=true→P0 C Q tm h nx d ak i o l (some true))∧(t=false→P0 C Q tm h nx d ak i o l (some false))):=by
 cases t<;>simp
def P1(o:J)(ad:List Nat)(l:List aM)(t:Option Bool):Prop:=wpG t
   (match aOp C.orc o.op tm (cM (ak.filter fun x=>memN x.1 ad) h) nx with
   |.val v h nx=>wpS C Q d l (ak.filter fun x=>!(memN x.1 ad)) (bu o.dst v tm) h nx
   |.call f args=>aI C f (ct (C.raw f) args (cM (ak.filter fun x=>memN x.1 ad) h)).1 (ct (C.raw f) args (cM (ak.filter fun x=>memN x.1 ad) h)).2 nx (KS C Q tm d (ak.filter fun x=>!(memN x.1 ad)) o l)
   |.yld k args=>CB C k args (cM (ak.filter fun x=>memN x.1 ad) h) nx (KS C Q tm d (ak.filter fun x=>!(memN x.1 ad)) o l)
   |.pan a=>Q (.pan a) (jb d.ds tm) (cM (ak.filter fun x=>memN x.1 ad) h) nx
   |_=>False)
   (wpS C Q d l (ak.filter fun x=>!(memN x.1 ad)) (bu o.dst (.tuple []) tm) (cM (ak.filter fun x=>memN x.1 ad) h) nx)
@[simp] theorem aO5(i:Nat)(o:J)(ad:List Nat)(l:List aM):wpS C Q d (.H i o ad ::l) ak tm h nx=P1 C Q tm h nx d ak o ad l (cx o.guard tm):=ug (by rw[wpS];exact Iff.rfl)
@[simp] theorem aCX(o:J)(ad:List Nat)(l:List aM):P1 C Q tm h nx d ak o ad l (some true)=(match aOp C.orc o.op tm (cM (ak.filter fun x=>memN x.1 ad) h) nx with
   |.val v h nx=>wpS C Q d l (ak.filter fun x=>!(memN x.1 ad)) (bu o.dst v tm) h nx
   |.call f args=>aI C f (ct (C.raw f) args (cM (ak.filter fun x=>memN x.1 ad) h)).1 (ct (C.raw f) args (cM (ak.filter fun x=>memN x.1 ad) h)).2 nx (KS C Q tm d (ak.filter fun x=>!(memN x.1 ad)) o l)
   |.yld k args=>CB C k args (cM (ak.filter fun x=>memN x.1 ad) h) nx (KS C Q tm d (ak.filter fun x=>!(memN x.1 ad)) o l)
   |.pan a=>Q (.pan a) (jb d.ds tm) (cM (ak.filter fun x=>memN x.1 ad) h) nx
   |_=>False):=by unfold P1;simp only[Vy,true_implies,Bool.true_eq_false,false_implies,and_true]
@[simp] theorem aAU(o:J)(ad:List Nat)(l:List aM):P1 C Q tm h nx d ak o ad l (some false)=wpS C Q d l (ak.filter fun x=>!(memN x.1 ad)) (bu o.dst (.tuple []) tm) (cM (ak.filter fun x=>memN x.1 ad) h) nx:=by unfold P1;simp only[Vy,true_implies,Ps,false_implies,true_and]
@[simp] theorem aCY(o:J)(ad:List Nat)(l:List aM):P1 C Q tm h nx d ak o ad l none=False:=by simp[P1]
@[simp low] theorem aEF(o:J)(ad:List Nat)(l:List aM)(t:Bool):P1 C Q tm h nx d ak o ad l (some t)=((t=true→P1 C Q tm h nx d ak o ad l (some true))∧(t=false→P1 C Q tm h nx d ak o ad l (some false))):=by
 cases t<;>simp only[true_implies,Bool.true_eq_false,Ps,false_implies,and_true,true_and]
@[simp] theorem aO6(os:List (Nat×J))(l:List aM):wpS C Q d (.R os ::l) ak tm h nx=(recheck C.orc d.iK ak tm h os=true∧wpS C Q d l ak tm h nx):=ug (by rw[wpS])
@[simp] theorem aAV:cM [] h=h:=rfl
@[simp] theorem ayT(x:Nat×Key×ag)(p:List (Nat×Key×ag)):cM (x ::p) h=cM p (au x.2.1 (some x.2.2) h):=rfl
@[simp] theorem ayU(orc:hU)(iK:List (Nat×List Nat)):recheck orc iK ak tm h []=true:=rfl
@[simp] theorem axa(orc:hU)(iK:List (Nat×List Nat))(i:Nat)(o:J)(l:List (Nat×J)):recheck orc iK ak tm h ((i,o) ::l)=(match cx o.guard tm with
  |some false=>match o.dst with
   |none=>false
   |some d=>match aa d tm with
    |some (.tuple [])=>recheck orc iK ak tm h l
    |_=>false
  |some true=>match o.dst with
   |none=>false
   |some d=>match aa d tm,lightOp orc o.op tm (uC (BC i iK) ak h) with
    |some v,some u=>bif AV.beq v u then recheck orc iK ak tm h l else false
    |_,_=>false
  |none=>false):=rfl
end
attribute [simp] memN
def bB(res:List RV)(R:Out→T ag→Key→Prop):dN:=fun e tm h nx=>match e with
 |.norm|.ret=>∃ l,resultsA h tm res=some l∧R (.ret (lT (bY (aO 9999) l h).1)) (bY (aO 9999) l h).2 nx
 |.pan a=>R (.pan a) h nx
 |.exit _=>False
theorem aI.of{C:cD}{f:Nat}{p:fK}{l:List AV}{h:T ag}{nx:Key}{R:Out→T ag→Key→Prop}(hs:C.sum f l h nx=none)(hp:CC C f=some p)(hr:C.lS f=false)(hw:eP C p.body (bB p.res R) (fV l (K 0) .nil) h nx):aI C f l h nx R:=by
 refine aI.of_wp hs hp ?_
 have e:yl C f p.res R=bB p.res R:=by
  funext e tm h nx
  cases e<;>simp only[yl,bB,hr]<;>rfl
 rw[e]
 exact hw
section
variable(res:List RV)(R:Out→T ag→Key→Prop)(tm:T AV)(h:T ag)(nx:Key)
@[simp] theorem aCZ:bB res R .ret tm h nx=∃ l,resultsA h tm res=some l∧R (.ret (lT (bY (aO 9999) l h).1)) (bY (aO 9999) l h).2 nx:=ug Iff.rfl
@[simp] theorem aAW:bB res R .norm tm h nx=∃ l,resultsA h tm res=some l∧R (.ret (lT (bY (aO 9999) l h).1)) (bY (aO 9999) l h).2 nx:=ug Iff.rfl
@[simp] theorem aC0(a:AV):bB res R (.pan a) tm h nx=R (.pan a) h nx:=ug Iff.rfl
end
attribute [simp] aOp lightOp allocOp newB atAll loadB isCmp beqKind arith
attribute [simp] nth_eq dropL_eq takeC_eq putC_eq appC_eq lenL_eq beqN_eq bltN_eq ltI_dec eqI_eq
@[simp] theorem aGW(a b:Nat):Nat.ble a b=decide (a≤b):=by rw[Bool.eq_iff_iff];simp
@[simp] theorem aGX(a b:Int):Int.add a b=a+b:=rfl
@[simp] theorem aGY(a b:Int):Int.sub a b=a-b:=rfl
@[simp] theorem aGZ(a b:Int):Int.mul a b=a*b:=rfl
@[simp] theorem aC1(k:IntKind)(m:Nat):nD (.int k (.lit (m:Int)))=some m:=rfl
@[simp] theorem aAX(k:IntKind):nD (.int k (.lit 0))=some 0:=rfl
@[simp] theorem aC2(k:IntKind):nD (.int k (.lit 1))=some 1:=rfl
@[simp] theorem aC3(k:IntKind)(n:Nat):nD (.int k (.lit (OfNat.ofNat (n+2):Int)))=some (n+2):=rfl
@[simp] theorem aAY(tm:T AV)(d:Nat):kP tm d none=some d:=rfl
@[simp] theorem aAZ(tm:T AV)(d:Nat)(x:PX):kP tm d (some x)=match x.at tm with|none=>none|some v=>nD v:=rfl
@[simp] theorem aG0(orc:hU)(op:BinOp)(x y:Int):DJ orc op (.lit x) (.lit y)=(match op with
  |.eql=>some (x==y)
  |.neq=>some (!(x==y))
  |.lss=>some (decide (x<y))
  |.leq=>some (!(decide (y<x)))
  |.gtr=>some (decide (y<x))
  |.geq=>some (!(decide (x<y)))
  |_=>none):=by
 cases op<;>simp[DJ]
@[simp] theorem aEG(tm:T AV)(cs:List AV):GF tm [] cs=some cs:=rfl
@[simp] theorem aC4(tm:T AV)(off size:Nat)(x:PX)(r:List (Nat×Nat×PX))(cs:List AV):GF tm ((off,size,x) ::r) cs =
  (match x.at tm with
  |none=>none
  |some v=>bif Nat.beq (lenL v.cells) size then U6 v.cells off cs none (fun cs=>GF tm r cs) else none):=rfl
@[simp] theorem aC5(off n:Nat)(l:List AV):ux true off n l=if n≤(l.drop off).length then some (.agg ((l.drop off).take n)) else none:=by
 simp[ux]
@[simp] theorem aA0(off n:Nat)(l:List AV):ux false off n l=l[off]?:=by
 simp[ux]
@[simp] theorem ayV(b:Bool):AV.aN (.bool b)=true:=rfl
@[simp] theorem aA1(b:Bool):AV.cells (.bool b)=[.bool b]:=rfl
@[simp] theorem aA2(k:IntKind)(n:SI):AV.aN (.int k n)=true:=rfl
@[simp] theorem aC6(k:IntKind)(n:SI):AV.cells (.int k n)=[.int k n]:=rfl
@[simp] theorem aA3(n c:Nat):AV.aN (.str n c)=true:=rfl
@[simp] theorem aC7(n c:Nat):AV.cells (.str n c)=[.str n c]:=rfl
@[simp] theorem aA4(b:Key)(off:Nat):AV.aN (.ptr b off)=true:=rfl
@[simp] theorem aC8(b:Key)(off:Nat):AV.cells (.ptr b off)=[.ptr b off]:=rfl
@[simp] theorem ayW:AV.aN (.nilp)=true:=rfl
@[simp] theorem aA5:AV.cells (.nilp)=[.nilp]:=rfl
@[simp] theorem axb(b:Key)(off len sz:Nat):AV.aN (.slice b off len sz)=true:=rfl
@[simp] theorem ayX(b:Key)(off len sz:Nat):AV.cells (.slice b off len sz)=[.slice b off len sz]:=rfl
@[simp] theorem ayY:AV.aN (.nils)=true:=rfl
@[simp] theorem aA6:AV.cells (.nils)=[.nils]:=rfl
@[simp] theorem aA7(b:Key):AV.aN (.map b)=true:=rfl
@[simp] theorem aC9(b:Key):AV.cells (.map b)=[.map b]:=rfl
@[simp] theorem ayZ:AV.aN (.nilm)=true:=rfl
@[simp] theorem aA8:AV.cells (.nilm)=[.nilm]:=rfl
@[simp] theorem aDa(f:Nat)(first cap:List AV):AV.aN (.fn f first cap)=true:=rfl
@[simp] theorem aEH(f:Nat)(first cap:List AV):AV.cells (.fn f first cap)=[.fn f first cap]:=rfl
@[simp] theorem ay0:AV.aN (.nilf)=true:=rfl
@[simp] theorem aA9:AV.cells (.nilf)=[.nilf]:=rfl
@[simp] theorem axc(t:Nat)(v:AV):AV.aN (.iface t v)=true:=rfl
@[simp] theorem ay1(t:Nat)(v:AV):AV.cells (.iface t v)=[.iface t v]:=rfl
@[simp] theorem ay2:AV.aN (.nili)=true:=rfl
@[simp] theorem aBa:AV.cells (.nili)=[.nili]:=rfl
@[simp] theorem aDb(l:List AV)(len sz:Nat)(fl:SF):AV.aN (.sl l len sz fl)=true:=rfl
@[simp] theorem aEI(l:List AV)(len sz:Nat)(fl:SF):AV.cells (.sl l len sz fl)=[.sl l len sz fl]:=rfl
@[simp] theorem ay3(l:List AV):AV.aN (.cref l)=true:=rfl
@[simp] theorem aBb(l:List AV):AV.cells (.cref l)=[.cref l]:=rfl
@[simp] theorem aBc(l:List AV):AV.aN (.agg l)=false:=rfl
@[simp] theorem aDc(l:List AV):AV.cells (.agg l)=l:=rfl
@[simp] theorem axd(l:List AV)(h:T ag):ct false l h=bY (aO 9999) l h:=rfl
@[simp] theorem ay4(l:List AV)(h:T ag):ct true l h=(l,h):=rfl
@[simp] theorem aDd(g:AV→T ag→AV×T ag)(h:T ag):bY g [] h=([],h):=rfl
@[simp] theorem aBd(g:AV→T ag→AV×T ag)(v:AV)(l:List AV)(h:T ag):bY g (v ::l) h=((g v h).1 ::(bY g l (g v h).2).1,(bY g l (g v h).2).2):=rfl
section
variable(n:Nat)(h:T ag)
@[simp] theorem aEJ(k:IntKind)(i:SI):aO n (.int k i) h=(.int k i,h):=by cases n<;>rfl
@[simp] theorem aDe(b:Bool):aO n (.bool b) h=(.bool b,h):=by cases n<;>rfl
@[simp] theorem aEK(a b:Nat):aO n (.str a b) h=(.str a b,h):=by cases n<;>rfl
@[simp] theorem aEL(b:Key)(o:Nat):aO n (.ptr b o) h=(.ptr b o,h):=by cases n<;>rfl
@[simp] theorem aDf:aO n .nilp h=(.nilp,h):=by cases n<;>rfl
@[simp] theorem aDg:aO n .nils h=(.nils,h):=by cases n<;>rfl
@[simp] theorem aEM(b:Key):aO n (.map b) h=(.map b,h):=by cases n<;>rfl
@[simp] theorem aDh:aO n .nilm h=(.nilm,h):=by cases n<;>rfl
@[simp] theorem aG1(f:Nat)(a c:List AV):aO n (.fn f a c) h=(.fn f a c,h):=by cases n<;>rfl
@[simp] theorem aDi:aO n .nilf h=(.nilf,h):=by cases n<;>rfl
@[simp] theorem aBe(t:Nat)(v:AV):aO n (.iface t v) h=(.iface t v,h):=by cases n<;>rfl
@[simp] theorem aDj:aO n .nili h=(.nili,h):=by cases n<;>rfl
@[simp] theorem aDk(l:List AV):aO n (.cref l) h=(.cref l,h):=by cases n<;>rfl
@[simp] theorem aBf(l:List AV):aO n (.tuple l) h=(.tuple l,h):=by cases n<;>rfl
@[simp] theorem aG2(l:List AV)(m z:Nat)(f:SF):aO (n+1) (.sl l m z f) h=(.sl l m z .any,h):=rfl
@[simp] theorem aEN(l:List AV)(m z:Nat)(f:SF):aO 9999 (.sl l m z f) h=(.sl l m z .any,h):=rfl
@[simp] theorem aEO(l:List AV)(m z:Nat)(f:SF):aO 9998 (.sl l m z f) h=(.sl l m z .any,h):=rfl
@[simp] theorem Rn(l:List AV):aO 9999 (.agg l) h=(.agg (bY (aO 9998) l h).1,(bY (aO 9998) l h).2):=rfl
end
@[simp] theorem ay5(k:Key)(tm:T AV):fV [] k tm=tm:=rfl
@[simp] theorem axe(v:AV)(l:List AV)(i:Nat)(tm:T AV):fV (v ::l) (K i) tm=fV l (K (i+1)) (au (K i) (some v) tm):=by
 simp only[fV,aBg]
@[simp] theorem aBh(v:AV):lT [v]=v:=rfl
@[simp] theorem aBi(v u:AV)(l:List AV):lT (v ::u ::l)=.tuple (v ::u ::l):=rfl
attribute [simp] resultsA
@[simp] theorem AV.all_nil:([]:List AV).all AV.aN=true:=rfl
attribute [simp] gTSm setK findK keyEq kTSu
theorem ax{α:Type}{b c:Key}{v:Option α}{t:T α}(h:b.toNat<c.toNat):aa b (au c v t)=aa b t:=Vx v t h
@[simp] theorem set_set{α:Type}(k:Key)(v u:Option α):∀ (t:T α),au k v (au k u t)=au k v t:=by
 induction k with
 |z=>intro t;cases t<;>rfl
 |o k ih=>intro t;cases t<;>simp only[T.att,T.I6,ih]
 |e k ih=>intro t;cases t<;>simp only[T.atu,T.I7,ih]
structure Ext(h:T ag)(nx:Key)(h':T ag)(nx':Key):Prop where
 n:nx.toNat≤nx'.toNat
 g:∀ b:Key,b.toNat<nx.toNat→aa b h'=aa b h
theorem Ext.refl(h:T ag)(nx:Key):Ext h nx h nx:=⟨fh _,fun _ _=>rfl⟩
theorem Ext.trans{h1 h2 h3:T ag}{n1 n2 n3:Key}(a:Ext h1 n1 h2 n2)(b:Ext h2 n2 h3 n3):Ext h1 n1 h3 n3:=
 ⟨Nat.le_trans a.n b.n,fun k hk=>(b.g k (JJ hk a.n)).trans (a.g k hk)⟩
@[simp] theorem aBj(a b:Bool):AV.beq (.bool a) (.bool b)=(a==b):=rfl
@[simp] theorem aG3(orc:hU)(a b:Bool):hZ orc .bool (.bool a) (.bool b)=some (a==b):=by simp[hZ]
@[simp] theorem eq_int(orc:hU)(k:IntKind)(a b:SI):hZ orc .int (.int k a) (.int k b)=DJ orc .eql a b:=by cases k<;>simp[hZ]
@[simp] theorem aEP(orc:hU)(l:List (Nat×tK))(a b:List AV):hZ orc (.parts l) (.agg a) (.agg b)=cH orc l a b:=by simp[hZ]
@[simp] theorem ay6(orc:hU)(a b:List AV):cH orc [] a b=some true:=by simp[cH]
@[simp] theorem axf(orc:hU)(off:Nat)(p:tK)(l:List (Nat×tK))(a b:List AV):cH orc ((off,p) ::l) a b=(match nth off a,nth off b with
  |some x,some y=>match hZ orc p x y with
   |some true=>cH orc l a b
   |some false=>some false
   |none=>none
  |_,_=>none):=by rw[cH];rfl
section
variable{C:cD}{Q:dN}{tm:T AV}{h:T ag}{nx:Key}
theorem W.dQ{c:aA}(Inv:Nat→T AV→T ag→Key→Prop){n:Nat}(hi:Inv n tm h nx)(hw:∀ n tm h nx,Inv n tm h nx→W C c (av (fun tm h nx=>∃ m,m<n∧Inv m tm h nx) Q) tm h nx):W C (.loop c) Q tm h nx:=
 W.loop Inv (fun n tm h nx hi=>WI.mono (hw n tm h nx hi) fun e tm h nx hq=>by cases e<;>exact hq) hi
theorem W.E8{c:aA}(h1:W C c (av (W C (.loop c) Q) Q) tm h nx):W C (.loop c) Q tm h nx:=by
 intro af k cs m1 m2
 refine .step (m':=⟨{af with tm:=tm,todo:=.code c ::.inLoop c ::k},cs,h,nx⟩) (aS m1 rfl) ((h1 af (.inLoop c ::k) cs m1 m2).bind ?_)
 rintro m ⟨e,tm',h',nx',fr,q,ha,rfl⟩
 cases e with
 |norm=>
  cases ha
  have q2:WI C (.inLoop c) Q tm' h' nx':=WI.same (y:=.code (.loop c)) (fun i e=>by cases i<;>cases e) (fun _ _ _ _=>rfl) q
  refine(q2 {af with tm:=tm'} k cs m1 m2).mono ?_
  rintro m ⟨e2,ay,Uy,aH,Gb,q2,a2,t2⟩
  refine⟨e2,ay,Uy,aH,Gb,q2,?_,t2⟩
  cases e2<;>exact a2
 |ret=>exact .now ⟨.ret,tm',h',nx',fr,q,ha,rfl⟩
 |exit id=>
  obtain⟨k2,e1,e2⟩:=ha
  exact .now ⟨.exit id,tm',h',nx',fr,q,⟨k2,e1,e2⟩,rfl⟩
 |pan a=>exact .now ⟨.pan a,tm',h',nx',fr,q,ha,rfl⟩
theorem W.of{c:aA}(h1:eP C c Q tm h nx):W C c Q tm h nx:=lg h1
end
@[simp] theorem aEQ{R:Type}(l:List AV)(h:T ag)(c:List AV→T ag→R):It (frz 9999) l h c=c (bY (aO 9999) l h).1 (bY (aO 9999) l h).2:=tL (BV 9999) l h c
attribute [simp] appendTo repL_eq
@[simp] theorem aER(i:Nat):BC i []=[]:=rfl
@[simp] theorem aDl(i j:Nat)(l:List Nat)(r:List (Nat×List Nat)):BC i ((j,l) ::r)=if i=j then l else BC i r:=by simp[BC]
@[simp] theorem aDm(p:List (Nat×Key×ag))(h:T ag):uC [] p h=h:=rfl
@[simp] theorem aBk(a:Nat)(l:List Nat)(p:List (Nat×Key×ag))(h:T ag):uC (a ::l) p h=cM (p.filter fun x=>memN x.1 (a ::l)) h:=by
 show BK (a ::l) p h (fun _ h=>h)=_
 rw[uX]
end Go.Sx
/-
 SX: slots by name. No condition.
-/
namespace Go.Sx
theorem cr{k:Key}{n:Nat}(h:Key.beq k (K n)=true):k=K n:=Key.eq_of_beq h
def k0:Key:=.z
def k1:Key:=.o k0
def k2:Key:=.e k0
def k3:Key:=.o k1
def k4:Key:=.e k1
def k5:Key:=.o k2
def k6:Key:=.e k2
def k7:Key:=.o k3
def k8:Key:=.e k3
def k9:Key:=.o k4
def bZ:Key:=.e k4
def cF:Key:=.o k5
def eF:Key:=.e k5
def eM:Key:=.o k6
def eG:Key:=.e k6
def eg:Key:=.o k7
def eL:Key:=.e k7
def fM:Key:=.o k8
def jt:Key:=.e k8
def fY:Key:=.o k9
def gR:Key:=.e k9
def jk:Key:=.o bZ
def kM:Key:=.e bZ
def kN:Key:=.o cF
def jl:Key:=.e cF
def jZ:Key:=.o eF
def kO:Key:=.e eF
def jL:Key:=.o eM
def l4:Key:=.e eM
def mZ:Key:=.o eG
def jm:Key:=.e eG
def kz:Key:=.o eg
def m6:Key:=.e eg
def m7:Key:=.o eL
def l5:Key:=.e eL
def kc:Key:=.o fM
def nh:Key:=.e fM
def ml:Key:=.o jt
def kA:Key:=.e jt
def jM:Key:=.o fY
def aQ:Key:=.e fY
def jU:Key:=.o gR
def kV:Key:=.e gR
def lV:Key:=.o jk
def th:Key:=.e jk
def ru:Key:=.o kM
def sf:Key:=.e kM
def uK:Key:=.o kN
def uL:Key:=.e kN
def sg:Key:=.o jl
def qO:Key:=.e jl
def tn:Key:=.o jZ
def rQ:Key:=.e jZ
def uM:Key:=.o kO
def qP:Key:=.e kO
def si:Key:=.o jL
def uN:Key:=.e jL
def kY:Key:=.o l4
def nj:Key:=.e l4
def te:Key:=.o mZ
def vN:Key:=.e mZ
def uO:Key:=.o jm
def vR:Key:=.e jm
def nn:Key:=.o kz
def uP:Key:=.e kz
def xy:Key:=.o m6
def xz:Key:=.e m6
def ue:Key:=.o m7
def uQ:Key:=.e m7
def xA:Key:=.o l5
def w6:Key:=.e l5
def zl:Key:=.o kc
def zm:Key:=.e kc
def wo:Key:=.o nh
def vS:Key:=.e nh
def w7:Key:=.o ml
def Dy:Key:=.e ml
def Cs:Key:=.o kA
def zn:Key:=.e kA
def Fu:Key:=.o jM
def Dz:Key:=.e jM
def Fv:Key:=.o aQ
def Ct:Key:=.e aQ
def DL:Key:=.o jU
def Fw:Key:=.e jU
def Gd:Key:=.o kV
def Ge:Key:=.e kV
def Gf:Key:=.o lV
def Hy:Key:=.e lV
def Hz:Key:=.o th
def HA:Key:=.e th
def IW:Key:=.o ru
def IX:Key:=.e ru
def IY:Key:=.o sf
def HB:Key:=.e sf
def NB:Key:=.o uK
def NC:Key:=.e uK
def PU:Key:=.o uL
def Vn:Key:=.e uL
def k99:Key:=.o sg
def x0:Key:=.e sg
def DM:Key:=.o qO
def DN:Key:=.e qO
def DO:Key:=.o tn
def Cu:Key:=.e tn
def DP:Key:=.o rQ
def Fx:Key:=.e rQ
def Cv:Key:=.o uM
def Fy:Key:=.e uM
def ND:Key:=.o qP
def S9:Key:=.e qP
def akx:Key:=.o si
def IZ:Key:=.e si
def aqD:Key:=.o uN
def aqE:Key:=.e uN
def Ta:Key:=.o kY
def aqF:Key:=.e kY
def aqG:Key:=.o nj
def I0:Key:=.e nj
def I1:Key:=.o te
def Tb:Key:=.e te
def aqH:Key:=.o vN
def aqI:Key:=.e vN
def as6:Key:=.o uO
def az5:Key:=.e uO
def az6:Key:=.o vR
def az7:Key:=.e vR
def az8:Key:=.o nn
def az9:Key:=.e nn
def aAa:Key:=.o uP
def aAb:Key:=.e uP
def aAc:Key:=.o xy
def aAd:Key:=.e xy
def aAe:Key:=.o xz
def awv:Key:=.e xz
def aww:Key:=.o ue
def awx:Key:=.e ue
def awy:Key:=.o uQ
def awz:Key:=.e uQ
def awA:Key:=.o xA
def awB:Key:=.e xA
def awC:Key:=.o w6
def awD:Key:=.e w6
def awE:Key:=.o zl
def aAf:Key:=.e zl
def aAg:Key:=.o zm
def aAh:Key:=.e zm
def aAi:Key:=.o wo
def aAj:Key:=.e wo
def aAk:Key:=.o vS
def aAl:Key:=.e vS
def aAm:Key:=.o w7
def aAn:Key:=.e w7
def aAo:Key:=.o Dy
def aAp:Key:=.e Dy
def aAq:Key:=.o Cs
def aAr:Key:=.e Cs
def aAs:Key:=.o zn
def aAt:Key:=.e zn
def aAu:Key:=.o Fu
def aAv:Key:=.e Fu
def aAw:Key:=.o Dz
def aAx:Key:=.e Dz
def aAy:Key:=.o Fv
def aAz:Key:=.e Fv
def aEl:Key:=.o Ct
def aIB:Key:=.e HA
def aIC:Key:=.o Cu
def aID:Key:=.o aIB
def aIv:Key:=.e aIC
def aIw:Key:=.e aID
@[simp] theorem aRj:k0=K 0:=cr rfl
@[simp] theorem aRk:k1=K 1:=cr rfl
@[simp] theorem aRl:k2=K 2:=cr rfl
@[simp] theorem aRm:k3=K 3:=cr rfl
@[simp] theorem aRn:k4=K 4:=cr rfl
@[simp] theorem aRo:k5=K 5:=cr rfl
@[simp] theorem aRp:k6=K 6:=cr rfl
@[simp] theorem aRq:k7=K 7:=cr rfl
@[simp] theorem aRr:k8=K 8:=cr rfl
@[simp] theorem aRs:k9=K 9:=cr rfl
@[simp] theorem aNi:bZ=K 10:=cr rfl
@[simp] theorem aNj:cF=K 11:=cr rfl
@[simp] theorem aNk:eF=K 12:=cr rfl
@[simp] theorem aNl:eM=K 13:=cr rfl
@[simp] theorem aNm:eG=K 14:=cr rfl
@[simp] theorem aNn:eg=K 15:=cr rfl
@[simp] theorem aNo:eL=K 16:=cr rfl
@[simp] theorem aNp:fM=K 17:=cr rfl
@[simp] theorem aNq:jt=K 18:=cr rfl
@[simp] theorem aNr:fY=K 19:=cr rfl
@[simp] theorem aNs:gR=K 20:=cr rfl
@[simp] theorem aNt:jk=K 21:=cr rfl
@[simp] theorem aNu:kM=K 22:=cr rfl
@[simp] theorem aNv:kN=K 23:=cr rfl
@[simp] theorem aNw:jl=K 24:=cr rfl
@[simp] theorem aNx:jZ=K 25:=cr rfl
@[simp] theorem aNy:kO=K 26:=cr rfl
@[simp] theorem aNz:jL=K 27:=cr rfl
@[simp] theorem aNA:l4=K 28:=cr rfl
@[simp] theorem aNB:mZ=K 29:=cr rfl
@[simp] theorem aNC:jm=K 30:=cr rfl
@[simp] theorem aND:kz=K 31:=cr rfl
@[simp] theorem aNE:m6=K 32:=cr rfl
@[simp] theorem aNF:m7=K 33:=cr rfl
@[simp] theorem aNG:l5=K 34:=cr rfl
@[simp] theorem aNH:kc=K 35:=cr rfl
@[simp] theorem aNI:nh=K 36:=cr rfl
@[simp] theorem aNJ:ml=K 37:=cr rfl
@[simp] theorem aNK:kA=K 38:=cr rfl
@[simp] theorem aNL:jM=K 39:=cr rfl
@[simp] theorem aNM:aQ=K 40:=cr rfl
@[simp] theorem aNN:jU=K 41:=cr rfl
@[simp] theorem aNO:kV=K 42:=cr rfl
@[simp] theorem aNP:lV=K 43:=cr rfl
@[simp] theorem aNQ:th=K 44:=cr rfl
@[simp] theorem aNR:ru=K 45:=cr rfl
@[simp] theorem aNS:sf=K 46:=cr rfl
@[simp] theorem aNT:uK=K 47:=cr rfl
@[simp] theorem aNU:uL=K 48:=cr rfl
@[simp] theorem aNV:sg=K 49:=cr rfl
@[simp] theorem aNW:qO=K 50:=cr rfl
@[simp] theorem aNX:tn=K 51:=cr rfl
@[simp] theorem aNY:rQ=K 52:=cr rfl
@[simp] theorem aNZ:uM=K 53:=cr rfl
@[simp] theorem aN0:qP=K 54:=cr rfl
@[simp] theorem aN1:si=K 55:=cr rfl
@[simp] theorem aN2:uN=K 56:=cr rfl
@[simp] theorem aN3:kY=K 57:=cr rfl
@[simp] theorem aN4:nj=K 58:=cr rfl
@[simp] theorem aN5:te=K 59:=cr rfl
@[simp] theorem aN6:vN=K 60:=cr rfl
@[simp] theorem aN7:uO=K 61:=cr rfl
@[simp] theorem aN8:vR=K 62:=cr rfl
@[simp] theorem aN9:nn=K 63:=cr rfl
@[simp] theorem aOa:uP=K 64:=cr rfl
@[simp] theorem aOb:xy=K 65:=cr rfl
@[simp] theorem aOc:xz=K 66:=cr rfl
@[simp] theorem aOd:ue=K 67:=cr rfl
@[simp] theorem aOe:uQ=K 68:=cr rfl
@[simp] theorem aOf:xA=K 69:=cr rfl
@[simp] theorem aOg:w6=K 70:=cr rfl
@[simp] theorem aOh:zl=K 71:=cr rfl
@[simp] theorem aOi:zm=K 72:=cr rfl
@[simp] theorem aOj:wo=K 73:=cr rfl
@[simp] theorem aOk:vS=K 74:=cr rfl
@[simp] theorem aOl:w7=K 75:=cr rfl
@[simp] theorem aOm:Dy=K 76:=cr rfl
@[simp] theorem aOn:Cs=K 77:=cr rfl
@[simp] theorem aOo:zn=K 78:=cr rfl
@[simp] theorem aOq:Fu=K 79:=cr rfl
@[simp] theorem aOr:Dz=K 80:=cr rfl
@[simp] theorem aOs:Fv=K 81:=cr rfl
@[simp] theorem aOt:Ct=K 82:=cr rfl
@[simp] theorem aOu:DL=K 83:=cr rfl
@[simp] theorem aOv:Fw=K 84:=cr rfl
@[simp] theorem aOw:Gd=K 85:=cr rfl
@[simp] theorem aOx:Ge=K 86:=cr rfl
@[simp] theorem aOy:Gf=K 87:=cr rfl
@[simp] theorem aOz:Hy=K 88:=cr rfl
@[simp] theorem aOA:Hz=K 89:=cr rfl
@[simp] theorem aOB:HA=K 90:=cr rfl
@[simp] theorem aOC:IW=K 91:=cr rfl
@[simp] theorem aOD:IX=K 92:=cr rfl
@[simp] theorem aOE:IY=K 93:=cr rfl
@[simp] theorem aOF:HB=K 94:=cr rfl
@[simp] theorem aOG:NB=K 95:=cr rfl
@[simp] theorem aOH:NC=K 96:=cr rfl
@[simp] theorem aOI:PU=K 97:=cr rfl
@[simp] theorem aOJ:Vn=K 98:=cr rfl
@[simp] theorem aOK:k99=K 99:=cr rfl
@[simp] theorem aIE:x0=K 100:=cr rfl
@[simp] theorem aIF:DM=K 101:=cr rfl
@[simp] theorem aIG:DN=K 102:=cr rfl
@[simp] theorem aIH:DO=K 103:=cr rfl
@[simp] theorem aII:Cu=K 104:=cr rfl
@[simp] theorem aIJ:DP=K 105:=cr rfl
@[simp] theorem aIK:Fx=K 106:=cr rfl
@[simp] theorem aIL:Cv=K 107:=cr rfl
@[simp] theorem aIM:Fy=K 108:=cr rfl
@[simp] theorem aIN:ND=K 109:=cr rfl
@[simp] theorem aIO:S9=K 110:=cr rfl
@[simp] theorem aIP:akx=K 111:=cr rfl
@[simp] theorem aIQ:IZ=K 112:=cr rfl
@[simp] theorem aIR:aqD=K 113:=cr rfl
@[simp] theorem aIS:aqE=K 114:=cr rfl
@[simp] theorem aIT:Ta=K 115:=cr rfl
@[simp] theorem aIU:aqF=K 116:=cr rfl
@[simp] theorem aIV:aqG=K 117:=cr rfl
@[simp] theorem aIW:I0=K 118:=cr rfl
@[simp] theorem aIX:I1=K 119:=cr rfl
@[simp] theorem aIY:Tb=K 120:=cr rfl
@[simp] theorem aIZ:aqH=K 121:=cr rfl
@[simp] theorem aI0:aqI=K 122:=cr rfl
@[simp] theorem aI1:as6=K 123:=cr rfl
@[simp] theorem aI2:az5=K 124:=cr rfl
@[simp] theorem aI3:az6=K 125:=cr rfl
@[simp] theorem aI4:az7=K 126:=cr rfl
@[simp] theorem aI5:az8=K 127:=cr rfl
@[simp] theorem aI6:az9=K 128:=cr rfl
@[simp] theorem aI7:aAa=K 129:=cr rfl
@[simp] theorem aI8:aAb=K 130:=cr rfl
@[simp] theorem aI9:aAc=K 131:=cr rfl
@[simp] theorem aJa:aAd=K 132:=cr rfl
@[simp] theorem aJb:aAe=K 133:=cr rfl
@[simp] theorem aJc:awv=K 134:=cr rfl
@[simp] theorem aJd:aww=K 135:=cr rfl
@[simp] theorem aJe:awx=K 136:=cr rfl
@[simp] theorem aJf:awy=K 137:=cr rfl
@[simp] theorem aJg:awz=K 138:=cr rfl
@[simp] theorem aJh:awA=K 139:=cr rfl
@[simp] theorem aJi:awB=K 140:=cr rfl
@[simp] theorem aJj:awC=K 141:=cr rfl
@[simp] theorem aJk:awD=K 142:=cr rfl
@[simp] theorem aJl:awE=K 143:=cr rfl
@[simp] theorem aJm:aAf=K 144:=cr rfl
@[simp] theorem aJn:aAg=K 145:=cr rfl
@[simp] theorem aJo:aAh=K 146:=cr rfl
@[simp] theorem aJp:aAi=K 147:=cr rfl
@[simp] theorem aJq:aAj=K 148:=cr rfl
@[simp] theorem aJr:aAk=K 149:=cr rfl
@[simp] theorem aJs:aAl=K 150:=cr rfl
@[simp] theorem aJt:aAm=K 151:=cr rfl
@[simp] theorem aJu:aAn=K 152:=cr rfl
@[simp] theorem aJv:aAo=K 153:=cr rfl
@[simp] theorem aJw:aAp=K 154:=cr rfl
@[simp] theorem aJx:aAq=K 155:=cr rfl
@[simp] theorem aJy:aAr=K 156:=cr rfl
@[simp] theorem aJz:aAs=K 157:=cr rfl
@[simp] theorem aJA:aAt=K 158:=cr rfl
@[simp] theorem aJB:aAu=K 159:=cr rfl
@[simp] theorem aJC:aAv=K 160:=cr rfl
@[simp] theorem aJD:aAw=K 161:=cr rfl
@[simp] theorem aJE:aAx=K 162:=cr rfl
@[simp] theorem aJF:aAy=K 163:=cr rfl
@[simp] theorem aJG:aAz=K 164:=cr rfl
@[simp] theorem aJH:aEl=K 165:=cr rfl
theorem hide{α:Type}{a b:α}(h:a=b):a=b:=h
abbrev I(n:Int):AV:=.int .i64 (.lit n)
def oM(d s:Key):J:=⟨some d,.mov (.t s),none⟩
def oL(d:Key)(n:Nat)(s:Key):J:=⟨some d,.load false n (.t s),none⟩
def oA(d:Key)(n:Nat)(s:Key):J:=⟨some d,.load true n (.t s),none⟩
def oF(d:Key)(n:Nat)(s:Key):J:=⟨some d,.fieldA n (.t s),none⟩
def oS(n:Nat)(a s:Key):J:=⟨none,.store n (.t a) (.t s),none⟩
def oN(d s:Key):J:=⟨some d,.nilc (.t s),none⟩
def oZ(d s:Key):J:=⟨some d,.lenL (.t s),none⟩
def oE(d s:Key)(n:Int):J:=⟨some d,.bin .eql (.t s) (.v (I n)),none⟩
def oI(d:Key)(n:Nat)(s i:Key):J:=⟨some d,.indexL n (.t s) (.t i),none⟩
def oX(d s:Key)(n:Nat):J:=⟨some d,.extract (.t s) n,none⟩
def oB(d s:Key):J:=⟨some d,.box (.t s),none⟩
def oJ(d:Key)(v:AV):J:=⟨some d,.mov (.v v),none⟩
@[simp] theorem aOL(d s:Key):oM d s=⟨some d,.mov (.t s),none⟩:=hide rfl
@[simp] theorem aOM(d:Key)(n:Nat)(s:Key):oL d n s=⟨some d,.load false n (.t s),none⟩:=hide rfl
@[simp] theorem aON(d:Key)(n:Nat)(s:Key):oA d n s=⟨some d,.load true n (.t s),none⟩:=hide rfl
@[simp] theorem aOO(d:Key)(n:Nat)(s:Key):oF d n s=⟨some d,.fieldA n (.t s),none⟩:=hide rfl
@[simp] theorem aOP(n:Nat)(a s:Key):oS n a s=⟨none,.store n (.t a) (.t s),none⟩:=hide rfl
@[simp] theorem aOQ(d s:Key):oN d s=⟨some d,.nilc (.t s),none⟩:=hide rfl
@[simp] theorem aOR(d s:Key):oZ d s=⟨some d,.lenL (.t s),none⟩:=hide rfl
@[simp] theorem aOS(d s:Key)(n:Int):oE d s n=⟨some d,.bin .eql (.t s) (.v (I n)),none⟩:=hide rfl
@[simp] theorem aOT(d:Key)(n:Nat)(s i:Key):oI d n s i=⟨some d,.indexL n (.t s) (.t i),none⟩:=hide rfl
@[simp] theorem aOU(d s:Key)(n:Nat):oX d s n=⟨some d,.extract (.t s) n,none⟩:=hide rfl
@[simp] theorem aOV(d s:Key):oB d s=⟨some d,.box (.t s),none⟩:=hide rfl
@[simp] theorem aOW(d:Key)(v:AV):oJ d v=⟨some d,.mov (.v v),none⟩:=hide rfl
instance:Coe Key PX:=⟨.t⟩
instance:Coe AV PX:=⟨.v⟩
instance:Coe (List J) aA:=⟨.ops⟩
def oC(d:Key)(f:Nat)(l:List PX):J:=⟨some d,.callF f l,none⟩
@[simp] theorem aOX(d:Key)(f:Nat)(l:List PX):oC d f l=⟨some d,.callF f l,none⟩:=hide rfl
def oT(d s g:Key):J:=⟨some d,.mov (.t s),some (g,true)⟩
@[simp] theorem aOY(d s g:Key):oT d s g=⟨some d,.mov (.t s),some (g,true)⟩:=hide rfl
def oQ(d s g:Key):J:=⟨some d,.mov (.t s),some (g,false)⟩
@[simp] theorem aOZ(d s g:Key):oQ d s g=⟨some d,.mov (.t s),some (g,false)⟩:=hide rfl
def oP(d a b:Key):J:=⟨some d,.pick (.t a) (.t b) (.v (.bool false)),none⟩
@[simp] theorem aO0(d a b:Key):oP d a b=⟨some d,.pick (.t a) (.t b) (.v (.bool false)),none⟩:=hide rfl
end Go.Sx
/-
 SX: closed runs as known calls; the machine's start. No condition.
-/
namespace Go.Sx
open Go.RowKit
mutual
def AV.kf:AV→Bool
 |.bool _|.int _ _|.str _ _|.nilp|.nils|.nilm|.nilf|.nili=>true
 |.iface _ v=>AV.kf v
 |.agg l=>AV.Iy l
 |.tuple l=>AV.Iy l
 |.sl l _ _ .any=>AV.Iy l
 |.cref l=>AV.Iy l
 |.fn _ a c=>AV.Iy a&&AV.Iy c
 |_=>false
def AV.Iy:List AV→Bool
 | []=>true
 |a ::l=>AV.kf a&&AV.Iy l
end
mutual
theorem aD.kf{ρ:Nat→Int}{μ μ':Mu}(hf:∀ c i v,μ.fz c i=some v→μ'.fz c i=some v):∀ {a:AV} {v:Value},aD ρ μ a v→a.kf=true→aD ρ μ' a v
 |_,_,.bool b,_=>.bool b
 |_,_,.int k s n h,_=>.int k s n h
 |_,_,.str n c s h h',_=>.str n c s h h'
 |_,_,.ptr b off l a h ha,hk=>by simp[AV.kf] at hk
 |_,_,.nilp,_=>.nilp
 |_,_,.slice b off len sz cap l a h hc hl ha,hk=>by simp[AV.kf] at hk
 |_,_,.nils,_=>.nils
 |_,_,.map b l r h hr,hk=>by simp[AV.kf] at hk
 |_,_,.nilm,_=>.nilm
 |_,_,.fn f first cap vs ws h h',hk=>by
  simp only[AV.kf,jj] at hk
  exact .fn f first cap vs ws (an.kf hf h hk.1) (an.kf hf h' hk.2)
 |_,_,.yld b l r h hr,hk=>by simp[AV.kf] at hk
 |_,_,.nilf,_=>.nilf
 |_,_,.iface t a v h,hk=>.iface t a v (aD.kf hf h (by simpa[AV.kf] using hk))
 |_,_,.nili,_=>.nili
 |_,_,.agg l vs h,hk=>.agg l vs (an.kf hf h (by simpa[AV.kf] using hk))
 |_,_,.tuple l vs h,hk=>.tuple l vs (an.kf hf h (by simpa[AV.kf] using hk))
 |_,_,.sl l len sz fl cap c o a vs h hn hl ha hff hg,hk=>by
  cases fl with
  |any=>exact .sl l len sz .any cap c o a vs (an.kf hf h (by simpa[AV.kf] using hk)) hn hl ha (fun i v e=>hf _ _ _ (hff i v e)) trivial
  |tok b=>simp[AV.kf] at hk
 |_,_,.cref l c o a vs h ha hff,hk=>.cref l c o a vs (an.kf hf h (by simpa[AV.kf] using hk)) ha (fun i v e=>hf _ _ _ (hff i v e))
theorem an.kf{ρ:Nat→Int}{μ μ':Mu}(hf:∀ c i v,μ.fz c i=some v→μ'.fz c i=some v):∀ {l:List AV} {vs:List Value},an ρ μ l vs→AV.Iy l=true→an ρ μ' l vs
 |_,_,.nil,_=>.nil
 |_,_,.cons a l v vs h h',hk=>by
  simp only[AV.Iy,jj] at hk
  exact .cons a l v vs (aD.kf hf h hk.1) (an.kf hf h' hk.2)
end
structure l9(P:Program)(aJ:T ag)(w0:W0):Prop where
 size:P.globals.size≤w0.heap.size
 at_:∀ b B,aa b aJ=some B→b.toNat<P.globals.size∧∃ L arr elem f,B=.cells L .ro∧w0.heap[b.toNat]?=some (.cells arr elem f)∧(∀ (ρ:Nat→Int) (μ:Mu),an ρ μ L arr.toList)∧∀ i v,arr[i]?=some v→w0.z b.toNat i=some v
section
variable{P:Program}{ρ:Nat→Int}{aJ:T ag}
noncomputable def NV(aJ:T ag)(b:Key):Nat:=match aa b aJ with
 |some (.cells L _)=>L.length
 |_=>0
noncomputable def gMu(P:Program)(aJ:T ag)(fz:Nat→Nat→Option Value):Mu:=⟨fun b=>if b.toNat<P.globals.size then some ⟨b.toNat,0,NV aJ b⟩ else none,fz⟩
theorem HO{fz:Nat→Nat→Option Value}{b:Key}{l:Loc}(h:(gMu P aJ fz) b=some l):b.toNat<P.globals.size∧l=⟨b.toNat,0,NV aJ b⟩:=by
 have h:(if b.toNat<P.globals.size then some (⟨b.toNat,0,NV aJ b⟩:Loc) else none)=some l:=h
 split at h
 ·rename_i hb;cases h;exact⟨hb,rfl⟩
 ·cases h
theorem Jb{w0:W0}(hL:l9 P aJ w0)(hz:∀ c i v,w0.z c i=some v→∃ arr elem f,w0.heap[c]?=some (.cells arr elem f)∧arr[i]?=some v){nx:Nat}(hn:P.globals.size≤nx) :
  aP P ρ w0 (gMu P aJ w0.z) (fun b=>aa b aJ) nx w0.toWorld:=by
 have aFf:∀ b:Key,b.toNat<P.globals.size→(gMu P aJ w0.z) b=some ⟨b.toNat,0,NV aJ b⟩:=by
  intro b hb
  show(if b.toNat<P.globals.size then some (⟨b.toNat,0,NV aJ b⟩:Loc) else none)=_
  rw[if_pos hb]
 refine⟨?_,?_,?_,?_,?_,?_,Below.refl _ _,hz,?_,fun _ _ _ h=>h,fun _ _ _ h=>.inr h,?_,fh _⟩
 ·intro b B hb
  obtain⟨h1,L,arr,elem,f,rfl,h3,h4,h5⟩:=hL.at_ b B hb
  have hlen:L.length=arr.size:=by simpa using(h4 ρ (gMu P aJ w0.z)).length
  refine⟨_,_,aFf b h1,h3,.cells L .ro _ arr elem f ?_ ?_ ?_ (fun h=>absurd rfl h) ?_⟩
  ·intro i a ha
   obtain⟨v,hv,hr⟩:=(h4 ρ (gMu P aJ w0.z)).get i a ha
   exact⟨v,by simpa using hv,hr⟩
  ·show 0+NV aJ b≤arr.size
   simp only[NV,hb];omega
  ·show L.length≤NV aJ b
   simp only[NV,hb];exact fh _
  ·intro _
   show L.length=NV aJ b
   simp only[NV,hb]
 ·intro b b' B B' l l' h1 h2 m1 m2 bU
  obtain⟨_,rfl⟩:=HO m1
  obtain⟨_,rfl⟩:=HO m2
  exact fun e=>bU (Key.toNat_inj e)
 ·intro b l m
  obtain⟨h1,rfl⟩:=HO m
  exact JJ h1 hL.size
 ·intro b B l hb m
  obtain⟨h1,L,arr,elem,f,rfl,_⟩:=hL.at_ b B hb
  exact .inl trivial
 ·intro k hk
  exact⟨_,aFf k hk⟩
 ·intro b l m
  obtain⟨h1,rfl⟩:=HO m
  omega
 ·intro b B l n hb m ta i hi
  obtain⟨h1,L,arr,elem,f,rfl,_⟩:=hL.at_ b B hb
  cases ta
 ·intro b L l hb m
  obtain⟨_,rfl⟩:=HO m
  obtain⟨h1,L',arr,elem,f,e,h3,h4,h5⟩:=hL.at_ b _ hb
  refine .inr fun Fh ee ff i v ha hv=>?_
  have ha:w0.heap[b.toNat]?=some (.cells Fh ee ff):=ha
  rw[h3] at ha;cases ha
  exact h5 i v hv
theorem l9.aza{w0:W0}{w:World}{fz:Nat→Nat→Option Value}(hL:l9 P aJ w0)(hb:Below w0.heap.size w0.toWorld w)(hz:∀ c i v,w0.z c i=some v→fz c i=some v):l9 P aJ ⟨w,fz⟩:=by
 refine⟨Nat.le_trans hL.size hb.size,fun b B h=>?_⟩
 obtain⟨h1,L,arr,elem,f,h2,h3,h4,h5⟩:=hL.at_ b B h
 refine⟨h1,L,arr,elem,f,h2,?_,h4,fun i v hv=>hz _ _ _ (h5 i v hv)⟩
 show w.heap[b.toNat]?=_
 rw[hb.block _ (JJ h1 hL.size)]
 exact h3
def aFg(tab:List (Nat×List AV×AV))(f:Nat)(l:List AV)(h:T ag)(nx:Key):Option (AV×T ag×Key):=match tab with
 | []=>none
 |(g,m,v) ::r=>bif Nat.beq f g&&AV.DI l m then some (v,h,nx) else aFg r f l h nx
theorem NW{C:cD}{w0:W0}{w:World}{μ0:Mu}{G0:Key→Option ag}{H:T ag}{nx:Key}(X:Ctx P ρ w0 C){f:Nat}{l:List AV}{args:Array Value}(hM:aP P ρ w0 μ0 G0 nx.toNat w)(hH:HSub H G0)(hl:an ρ μ0 l args.toList)
  {R:Out→T ag→Key→Prop} (hR:∀ o h nx,R o h nx→∃ v,o=.ret v) (hc:aI C f l H nx R) :
  Calls P f args w fun e w'=>∃ v h' nx' u μ G,R (.ret v) h' nx'∧e=.returned u∧aD ρ μ v u∧μ0.le μ∧aP P ρ w0 μ G nx'.toNat w'∧HSub h' G:=by
 rcases hc with⟨v,h',nx',hs,hr⟩|⟨hs,p,hp,dP⟩
 ·refine(X.sum f l H nx v h' nx' hs args w μ0 G0 hM hH hl).mono ?_
  rintro e w' ⟨u,μ',G',rfl,h1,h2,h3,h4,_⟩
  exact⟨v,h',nx',u,μ',G',hr,rfl,h1,h2,h3,h4⟩
 ·have hpf:iH P f=some p:=X.fns f p hp
  intro cs
  have hm:zo P ρ C.orc w0 μ0 ⟨ae f p l,[],H,nx⟩ (Frame.enter P f args .normal) [] w:=
   ⟨μ0,G0,μ0.le_refl,hM,hH,tY hpf hl false,trivial,by simp[br,pk,ae]⟩
  obtain⟨am',eY,zk,w',⟨o,h',nx',fr,h1,hr,hfn,hdf,⟨hd,hL⟩,rfl⟩,s1,s2⟩:=Ev.sound (rest:=cs) X (dP []) hm
  obtain⟨v,rfl⟩:=hR o h' nx' hr
  obtain⟨HH,l1,Rb,rfl,rfl⟩:=hL
  have AE:gC C ⟨fr,[],h1,nx'⟩=.done f (lT (ct (C.lS f) l1 h1).1) (ct (C.lS f) l1 h1).2 nx':=by
   unfold gC
   simp only[HH]
   unfold vZ
   simp only[hd,HH,Rb,hfn,ur]
   unfold GH
   simp only[hdf,cond_false,hfn]
  have hg:=vW (rest:=cs) X s2
  rw[AE] at hg
  obtain⟨Gb,w2,μ,G,u,t1,t2,t3,t4,t5,t6,t7⟩:=hg
  exact⟨.returned u,w2,Gb,⟨_,_,_,u,μ,G,hr,rfl,t4,t5,t6,t7⟩,s1.trans t1,t2,t3⟩
noncomputable def CJ:List (Nat×fK)→T fK
 | []=>.nil
 |(i,p) ::l=>au (Key.eH 12 i) (some p) (CJ l)
theorem NX:∀ {l:List (Nat×fK)} {k:Key} {p:fK},aa k (CJ l)=some p→∃ i,(i,p)∈l∧k=Key.eH 12 i
 | [],k,p,h=>by simp[CJ] at h
 |(i,q) ::l,k,p,h=>by
  simp only[CJ] at h
  by_cases e:k=Key.eH 12 i
  ·subst e;rw[gTSm] at h;cases h;exact⟨i,by simp,rfl⟩
  ·rw[bG _ _ _ _ e] at h
   obtain⟨j,h1,h2⟩:=NX h
   exact⟨j,List.mem_cons_of_mem _ h1,h2⟩
def HM(P:Program):List (Nat×fK)→Prop
 | []=>True
 |(i,p) ::l=>(Nat.blt i 8000=true∧iH P i=some p)∧HM P l
theorem HM.mem:∀ {l:List (Nat×fK)},HM P l→∀ {i:Nat} {p:fK},(i,p)∈l→i<8000∧iH P i=some p
 | [],_,_,_,h=>by cases h
 |(j,q) ::l,ha,i,p,h=>by
  rcases Ga.1 h with e|e
  ·cases e
   have:=ha.1.1
   rw[bltN_eq,decide_eq_true_eq] at this
   exact⟨this,ha.1.2⟩
  ·exact HM.mem ha.2 e
noncomputable def aFh(fns:T fK)(tab:List (Nat×List AV×AV)):cD:=⟨[],fns,aFg tab,fun _=>false,fun _=>false⟩
theorem VG{fns:T fK}{VF:List (Nat×fK)}(hb:fns=CJ VF)(ha:HM P VF){tab:List (Nat×List AV×AV)}{f:Nat}{p:fK}(h:CC (aFh fns tab) f=some p):iH P f=some p:=by
 unfold CC at h
 cases hk:Nat.beq (Key.eH 12 f).toNat f with
 |false=>rw[hk] at h;cases h
 |true=>
  rw[hk] at h
  have hk:=mU hk
  have h:aa (Key.eH 12 f) fns=some p:=h
  rw[hb] at h
  obtain⟨i,h1,h2⟩:=NX h
  obtain⟨h3,h4⟩:=ha.mem h1
  have:i=f:=by
   have e:=congrArg Key.toNat h2
   rw[hk,nT 12 i (by omega)] at e
   exact e.symm
  subst this
  exact h4
def anU(P:Program)(ρ:Nat→Int)(aJ:T ag):List (Nat×List AV×AV)→Prop
 | []=>True
 |(f,l,v) ::r=>((∃ p,iH P f=some p)∧∀ w0:W0,l9 P aJ w0→∀ H nx,Mi P ρ w0 f l H nx v H nx)∧anU P ρ aJ r
theorem anU.mem:∀ {tab:List (Nat×List AV×AV)},anU P ρ aJ tab→∀ {f:Nat} {l:List AV} {v:AV},(f,l,v)∈tab→(∃ p,iH P f=some p)∧∀ w0:W0,l9 P aJ w0→∀ H nx,Mi P ρ w0 f l H nx v H nx
 | [],_,_,_,_,h=>by cases h
 |(g,m,u) ::r,ht,f,l,v,h=>by
  rcases Ga.1 h with e|e
  ·cases e;exact ht.1
  ·exact anU.mem ht.2 e
end
end Go.Sx
