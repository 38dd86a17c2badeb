/- A part of the proof. No condition. -/
import Derived.Test.YtmdpbiocakjlkaaGreatDoorP4
set_option linter.unusedSimpArgs false
set_option linter.unusedVariables false
set_option linter.unusedSectionVars false
namespace Go.Sx
open Go Go.RowKit
noncomputable def ank(g:AM→Bool)(l:List AM):Bool:=List.rec true (fun m _ ih=>bif g m then ih else false) l
noncomputable def anl(C:cU)(f:Nat)(v:AV)(n d:Nat):AM→Bool:=
 Nat.rec (fun _=>false) (fun _ ih m=>match Tt C n m with
  |.done g u _ _=>bif Nat.beq g f then AV.beq u v else false
  |.alt l=>ank ih l
  |_=>false) d
theorem aec{g:AM→Bool}:∀ {l:List AM},ank g l=true→∀ m∈l,g m=true
 | [],_,m,h=>by cases h
 |a ::l,hh,m,h=>by
  have hh:(bif g a then ank g l else false)=true:=hh
  cases hg:g a with
  |false=>rw[hg] at hh;cases hh
  |true=>
   rw[hg] at hh
   rcases xH.1 h with rfl|h
   ·exact hg
   ·exact aec hh m h
section
variable{P:Program}{ρ:Nat→Int}{C:cU}{w0:W0}{w:World}{μ0:Mu}
theorem Zt(X:Ctx P ρ w0 C){f:Nat}{v:AV}{n:Nat}{rest:List Frame}:∀ (d:Nat) {am:AM} {fr:Frame} {cs:List Frame} {w:World},anl C f v n d am=true→Yp P ρ C.orc w0 μ0 am fr cs w→
  ∃ H nx,Good P ρ C w0 μ0 rest (lone fr (cs++rest) w) (.done f v H nx)
 |0,_,_,_,_,h,_=>by cases h
 |d+1,am,fr,cs,w,h,hm=>by
  have h:(match Tt C n am with
   |.done g u _ _=>bif Nat.beq g f then AV.beq u v else false
   |.alt l=>ank (anl C f v n d) l
   |_=>false)=true:=h
  have hg:=Tu (rest:=rest) X n hm
  cases hr:Tt C n am with
  |next m=>rw[hr] at h;cases h
  |pan a b c=>rw[hr] at h;cases h
  |bad a b=>rw[hr] at h;cases h
  |done g u H nx=>
   rw[hr] at h hg
   cases hb:Nat.beq g f with
   |false=>simp only[hb,cond_false] at h;cases h
   |true=>
    simp only[hb,cond_true] at h
    have e1:=yB hb
    have e2:=AV.eq_of_beq _ _ h
    subst e1 e2
    exact⟨H,nx,hg⟩
  |alt l=>
   rw[hr] at h hg
   obtain⟨am1,oR,ur,IN,w',s1,h2⟩:=hg
   obtain⟨H,nx,hg2⟩:=Zt X d (aec h am1 oR) h2
   exact⟨H,nx,Good.steps s1 hg2⟩
end
section
variable{P:Program}{ρ:Nat→Int}{heap0:T ab}
theorem anm{C:cU}(hX:∀ w0:W0,qE P heap0 w0→Ctx P ρ w0 C){f:Nat}{p:eG}(hp:pFn P f=some p){l:List AV}(hl:AV.kfs l=true){v:AV}(hv:v.kf=true){n d:Nat}{nx0:Key}(hn:P.globals.size≤nx0.toNat)
  (fe:anl C f v n d ⟨mn f p l,[],heap0,nx0⟩=true):∀ w0:W0,qE P heap0 w0→∀ H nx,Wp P ρ w0 f l H nx v H nx:=by
 intro w0 hL H nx args w μ G hM hH iv
 have Zo:qE P heap0 ⟨w,μ.fz⟩:=hL.later hM.below hM.zle
 have hM1:=Ru (ρ:=ρ) (w0:=⟨w,μ.fz⟩) Zo hM.fzw (nx:=nx0.toNat) hn
 have ha1:aB ρ (gMu P heap0 μ.fz) l args.toList:=aB.kf (μ:=μ) (μ':=gMu P heap0 μ.fz) (fun _ _ _ h=>h) iv hl
 have key:Calls P f args w fun e w'=>∃ u μ1 G1 aY,e=.returned u∧bn ρ μ1 v u∧(gMu P heap0 μ.fz).le μ1∧bG P ρ ⟨w,μ.fz⟩ μ1 G1 aY w':=by
  intro cs
  have hm:Yp P ρ C.orc ⟨w,μ.fz⟩ (gMu P heap0 μ.fz) ⟨mn f p l,[],heap0,nx0⟩ (Frame.enter P f args .normal) [] w:=
   ⟨gMu P heap0 μ.fz,fun b=>aa b heap0,Mu.le_refl _,hM1,fun _ _ h=>h,Eg hp ha1 false,trivial,by simp[bX,pk,mn]⟩
  obtain⟨H',nx',hg⟩:=Zt (rest:=cs) (hX _ Zo) d fe hm
  obtain⟨ur,w',μ,G,u,s1,s2,s3,s4,s5,s6,s7⟩:=hg
  exact⟨.returned u,w',ur,⟨u,μ,G,_,rfl,s4,s5,s6⟩,s1,s2,s3⟩
 refine key.mono ?_
 rintro e w' ⟨u,μ1,G1,aY,rfl,hvr,hle,hM2⟩
 have hb:Below w.heap.size w w':=hM2.below
 have hfz:∀ c i x,μ1.fz c i=some x→w.heap.size≤c∨μ.fz c i=some x:=hM2.fzo
 have WN:μ.le ⟨μ.loc,μ1.fz⟩:=⟨fun _ _ h=>h,fun c i x h=>hle.f c i x h⟩
 refine⟨u,⟨μ.loc,μ1.fz⟩,G,rfl,bn.kf (μ:=μ1) (μ':=⟨μ.loc,μ1.fz⟩) (fun _ _ _ h=>h) hvr hv,WN,?_,hH,⟨fun _ _ _=>rfl,fun _ _=>rfl,fun _ h _=>h,bS _⟩⟩
 have aed:∀ b l,μ b=some l→w'.heap[l.c]?=w.heap[l.c]?:=fun b l h=>hb.block _ (hM.Cs b l h)
 refine⟨?_,hM.sep,?_,hM.own,hM.Xk,hM.new,hM.below.trans (hb.mono hM.below.size),hM2.fzw,?_,?_,?_,?_,Nat.le_trans hM.dr hM2.dr⟩
 ·intro b B hg
  obtain⟨l,o,h1,h2,h3⟩:=hM.Vo b B hg
  exact⟨l,o,h1,by rw[aed b l h1];exact h2,h3.mono WN⟩
 ·intro b l h
  exact YK (hM.Cs b l h) hb.size
 ·intro b B l n hg hm vj i hi
  show μ1.fz l.c i=none
  cases h:μ1.fz l.c i with
  |none=>rfl
  |some x=>
   rcases hfz _ _ _ h with h'|h'
   ·exact absurd (hM.Cs b l hm) (Nat.not_lt.2 h')
   ·rw[hM.fzf b B l n hg hm vj i hi] at h';cases h'
 ·intro c i x h;exact hle.f c i x (hM.zle c i x h)
 ·intro c i x h
  rcases hfz c i x h with h'|h'
  ·exact .inl (Nat.le_trans hM.below.size h')
  ·exact hM.fzo c i x h'
 ·intro b L l hg hm
  rcases hM.rof b L l hg hm with h|h
  ·exact .inl h
  ·refine .inr fun arr e f i x ha hx=>hle.f _ _ _ (h arr e f i x ?_ hx)
   rw[← aed b l hm];exact ha
end
end Go.Sx
