/- A part of the proof. No condition. -/
import Derived.Test.YtmdpbiocakjlkaaGreatDoorP7
import Derived.Test.YtmdpbiocakjlkaaGreatDoorP5
set_option linter.unusedSimpArgs false
set_option linter.unusedVariables false
set_option linter.unusedSectionVars false
namespace Tb
open Go.Sx Go
variable{C:cU}(S:dd C)
include S
variable{f b:Key}{sn sc:Nat}{kd:Int}{c d e at':AV}{n a w:Nat}{Hb h h':T ab}{nb nx nx':Key}{tm:T AV}
theorem atr(oc:dg W0 (.sl 1) c)(hw:w=bP c)(sf:sn≤10000){P:T AV→T ab→Key→Prop}{Q:bp}(cont:∀ tm' hx aF,Xg f b [I kd,.str sn sc,c,d,e,at'] n a w Hb nb tm' hx aF→P tm' hx aF)(X:Xg f b [I kd,.str sn sc,c,d,e,at'] n a w Hb nb tm h' nx')(e20:aa (K 20) tm=some (I kd)) :
  bt C (U.block 0 ((U.ops jb).seq (U.cond (PX.t (K 23)) (U.ops dh) ((U.ops jd).seq (U.cond (PX.t (K 42)) (U.ops di) ((U.ops je).seq (U.cond (PX.t (K 61)) ((U.ops cQ).seq ((U.ops eR).seq ((U.ops eS).seq ((U.ops dD).seq (U.block 1 (U.loop dW)))))) ((U.ops iE).seq (U.cond (PX.t (K 99)) (U.ops cT) ((U.ops iF).seq (U.cond (PX.t (K 118)) ((U.ops eT).seq ((U.ops eU).seq (U.ops eW))) ((U.ops iG).seq (U.cond (PX.t (K 135)) ((U.ops dE).seq (U.ops eX)) ((U.ops iH).seq (U.cond (PX.t (K 153)) ((U.ops dG).seq (U.ops eY)) ((U.ops iI).seq (U.cond (PX.t (K 171)) ((U.ops eZ).seq ((U.ops fa).seq (U.ops fb))) (U.ops iJ)))))))))))))))))) (ak P Q) tm h' nx':=by
 simp
 rcases du kd 0 with⟨hk,cB⟩|⟨hk,cB⟩
 ·simp[jb,e20,hk]
  subst hk
  exact awu S oc hw sf cont (X.aQ)
 simp[jb,e20,cB]
 rcases du kd 1 with⟨hk,cB⟩|⟨hk,cB⟩
 ·simp[jd,e20,hk]
  subst hk
  exact awv S oc hw sf cont (X.aQ)
 simp[jd,e20,cB]
 rcases du kd 2 with⟨hk,cB⟩|⟨hk,cB⟩
 ·simp[je,e20,hk]
  subst hk
  exact awx S oc hw sf cont (X.aQ)
 simp[je,e20,cB]
 rcases du kd 3 with⟨hk,cB⟩|⟨hk,cB⟩
 ·simp[iE,e20,hk]
  subst hk
  exact aww S oc hw sf cont (X.aQ)
 simp[iE,e20,cB]
 rcases du kd 4 with⟨hk,cB⟩|⟨hk,cB⟩
 ·simp[iF,e20,hk]
  subst hk
  exact awy S oc hw sf cont (X.aQ)
 simp[iF,e20,cB]
 rcases du kd 5 with⟨hk,cB⟩|⟨hk,cB⟩
 ·simp[iG,e20,hk]
  subst hk
  exact awz S oc hw sf cont (X.aQ)
 simp[iG,e20,cB]
 rcases du kd 6 with⟨hk,cB⟩|⟨hk,cB⟩
 ·simp[iH,e20,hk]
  subst hk
  exact awA S oc hw sf cont (X.aQ)
 simp[iH,e20,cB]
 rcases du kd 7 with⟨hk,cB⟩|⟨hk,cB⟩
 ·simp[iI,e20,hk]
  subst hk
  exact awB S oc hw sf cont (X.aQ)
 simp[iI,e20,cB]
 exact awC S oc hw sf cont (X.aQ)
theorem aye:∀ (m:Nat) {l:List AV},sizeOf l=m→cJ W0 RZ l→∀ {f:Key} {h:T ab} {nx:Key},Fb f h nx→aO C gX [.ptr f 0,.agg l] h nx (yD f h nx):=by
 intro m
 induction m using Nat.strongRecOn with
 |ind m ih=>
 intro l hm ol f h nx F
 obtain⟨a0,b0,c,d,e,at',rfl,oa,ob,oc,od,oe,of⟩:=gn6 ol
 obtain⟨kd,rfl,_,_⟩:=sy oa
 obtain⟨sn,sc,rfl,sf⟩:=tK ob
 have s0:=kTSu nx
 have F0:=F.ext (E0 h nx (.cells [I kd,.str sn sc,c,d,e,at'] .fix))
 have K0:=(E0 h nx (.cells [I kd,.str sn sc,c,d,e,at'] .fix)).ks f
 have Ui:nx≠f:=aG (by have:=F.hi;omega)
 have g0:aa nx (aK nx (some (.cells [I kd,.str sn sc,c,d,e,at'] .fix)) h)=some (.cells [I kd,.str sn sc,c,d,e,at'] .fix):=by rw[gTSm]
 refine S.T5.call ?_
 simp[tq]
 simp[Dc]
 generalize aK nx (some (.cells [I kd,.str sn sc,c,d,e,at'] .fix)) h=Hb at F0 K0 g0 ⊢
 have go:∀ (tm':T AV),Xg f nx [I kd,.str sn sc,c,d,e,at'] (bP e) (bP d) (bP c) Hb nx.succ tm' Hb nx.succ→bt C (((U.ops tU).seq (U.block 0 ((U.ops jb).seq (U.cond (PX.t (K 23)) (U.ops dh) ((U.ops jd).seq (U.cond (PX.t (K 42)) (U.ops di) ((U.ops je).seq (U.cond (PX.t (K 61)) ((U.ops cQ).seq ((U.ops eR).seq ((U.ops eS).seq ((U.ops dD).seq (U.block 1 (U.loop dW)))))) ((U.ops iE).seq (U.cond (PX.t (K 99)) (U.ops cT) ((U.ops iF).seq (U.cond (PX.t (K 118)) ((U.ops eT).seq ((U.ops eU).seq (U.ops eW))) ((U.ops iG).seq (U.cond (PX.t (K 135)) ((U.ops dE).seq (U.ops eX)) ((U.ops iH).seq (U.cond (PX.t (K 153)) ((U.ops dG).seq (U.ops eY)) ((U.ops iI).seq (U.cond (PX.t (K 171)) ((U.ops eZ).seq ((U.ops fa).seq (U.ops fb))) (U.ops iJ))))))))))))))))))).seq (((U.ops iK).seq (U.block 3 (U.loop jf))).seq ((U.ops fc).seq (U.block 5 (U.loop fC))))) (aN [] (yD f h nx)) tm' Hb nx.succ:=by
  intro tm' X
  simp
  simp[tU,X.e3,X.g]
  refine atr S oc rfl sf (P:=fun tm hx aF=>bt C (((U.ops iK).seq (U.block 3 (U.loop jf))).seq ((U.ops fc).seq (U.block 5 (U.loop fC)))) (aN [] (yD f h nx)) tm hx aF) ?_ (X.aQ) (by simp)
  intro oW hx aF X4
  refine ano S od rfl (P:=fun tm hx aF=>bt C ((U.ops fc).seq (U.block 5 (U.loop fC))) (aN [] (yD f h nx)) tm hx aF) ?_ X4
  intro Wt hx5 aOb X5
  exact ann S oe (fun r lX tF {h} {nx} Fr=>ih _ (by rw[← hm];exact tF) rfl lX Fr) K0 rfl X5
 simp at go
 have aoj:∀ {k:Nat} {x:AV},dg W0 (.sl k) x→(x=.nils∧bP x=0)∨∃ L n z,x=.sl L n z .any∧bP x=n:=by
  intro k x hx
  rcases dU hx with rfl|⟨rs,rfl,_,_⟩
  ·exact .inl ⟨rfl,rfl⟩
  ·exact .inr ⟨_,_,_,rfl,rfl⟩
 have hc:=aoj oc
 have hd:=aoj od
 have he:=aoj oe
 clear ih hm ol oc od oe aoj
 rcases he with⟨rfl,he⟩|⟨L1,n1,z1,rfl,he⟩<;>rcases hd with⟨rfl,hd⟩|⟨L2,n2,z2,rfl,hd⟩<;>rcases hc with⟨rfl,hc⟩|⟨L3,n3,z3,rfl,hc⟩<;>
 (simp only[he,hd,hc] at go;simp[Dd,g0];simp[De,g0];simp[Df,g0];refine go _ ⟨?_,?_,?_,?_,?_,F0,Ks.refl _ _ _,g0,by omega,Ui⟩<;>simp)
theorem ahi{l:List AV}(ol:cJ W0 RZ l){f:Key}{h:T ab}{nx:Key}(F:Fb f h nx):aO C iw [.ptr f 0,.agg l] h nx (yD f h nx):=by
 have q1:=S.KU
 have q2:=S.Gj
 have hl:l.length=6:=ol.len
 have hc:l.all AV.aD=true:=mi.2 ol.aU
 have hz:∀ n H,az (ax n) l H=(l,H):=fun n H=>av ol.bY
 have s0:=kTSu nx
 have Ui:nx≠f:=aG (by have:=F.hi;omega)
 have F0:=F.ext (E0 h nx (.cells l .fix))
 have K0:=(E0 h nx (.cells l .fix)).ks f
 refine S.Rb.call ?_
 simp[nX]
 simp[yf]
 have g0:aa nx (aK nx (some (.cells l .fix)) h)=some (.cells l .fix):=by rw[gTSm]
 generalize aK nx (some (.cells l .fix)) h=Hb at F0 K0 g0 ⊢
 have rest:∀ (tm':T AV) (hx:T ab) (aF:Key),aa (K 0) tm'=some (.ptr f 0)→aa (K 3) tm'=some (.ptr nx 0)→Fb f hx aF→Ks f Hb nx.succ hx aF→
   eu C (aN [] (yD f h nx)) qi tm' hx aF:=by
  intro tm' hx aF e0 e3 Fx kx
  have gb:aa nx hx=some (.cells l .fix):=bH kx (by omega) Ui g0
  simp[qi,e0,e3,gb,hl,sh hl,hz,q2]
  refine(aye S _ rfl ol Fx).mono ?_
  rintro o h2 aH ⟨rfl,F2,k2⟩
  simp
  exact⟨rfl,F2,K0.trans (kx.trans k2)⟩
 obtain⟨b0,b1,b2,b3,gf⟩:=F0.g
 cases b0 with
 |true=>
  simp[qh,gf]
  exact rest _ _ _ (by simp) (by simp) (F0.put _ _ _ _) (tw _ _ _ _)
 |false=>
  simp[qh,gf,g0,hl,sh hl,hz,q1]
  refine(afQ S _ rfl ol _ _).mono ?_
  rintro o h2 aH ⟨⟨w,rfl,ow⟩,x2⟩
  have F2:=F0.ext x2
  have gf2:aa f h2=some (.cells [.bool false,.bool b1,.bool b2,.bool b3] .fix):=by rw[x2.g f F0.hi];exact gf
  simp[gf2]
  exact rest _ _ _ (by simp) (by simp) (F2.put _ _ _ _) ((x2.ks f).trans (tw _ _ _ _))
end Tb
/-
 SU: the reference's faults: draws. No condition.
-/
namespace Tb
open Go.Sx Go
theorem aF7{l:List AV}(h:cJ W0 drT l):∃ (sn sc:Nat) (t g:List AV) (b:Bool),l=.str sn sc ::(t++(g ++ [.bool b]))∧sn≤10000∧cJ W0 YG t∧t.length=3∧cJ W0 RZ g∧g.length=6:=by
 cases h with
 |cons _ _ c1 r h1 h=>
  obtain⟨sn,sc,rfl,hn⟩:=tK h1
  obtain⟨c2,c3,rfl,h2,h3⟩:=h.parts
  obtain⟨c4,c5,rfl,h4,h5⟩:=h2.parts
  obtain⟨b,rfl,hb⟩:=one_cell h3
  cases hb
  exact⟨sn,sc,c4,c5,_,by rw[List.append_assoc],hn,h4,h4.len,h5,h5.len⟩
variable{C:cU}(S:dd C)
include S
def akR(f:Key)(c:AV)(cm:Bool)(h:T ab)(nx:Key)(n:Nat)(k:Nat)(tm':T AV)(h':T ab)(nx':Key):Prop:=
 ∃ (i:Nat),k=n-i∧i≤n∧aa (K 0) tm'=some (.ptr f 0)∧aa (K 1) tm'=some c∧aa (K 2) tm'=some (.bool cm)∧aa (K 6) tm'=some (I i)∧Fb f h' nx'∧Ks f h nx h' nx'
theorem ahh{c:AV}(oc:dg W0 (.sl 7) c)(cm:Bool){f:Key}{h:T ab}{nx:Key}(F:Fb f h nx):aO C iy [.ptr f 0,c,.bool cm] h nx (yD f h nx):=by
 have q1:=S.aq
 have q2:=S.ar
 have q3:=S.eL
 have q4:=S.Bo
 have q5:=S.ay
 have q6:=S.dI
 have loop:∀ (tm':T AV) (hx:T ab) (aF:Key),aa (K 0) tm'=some (.ptr f 0)→aa (K 1) tm'=some c→aa (K 2) tm'=some (.bool cm)→Fb f hx aF→Ks f h nx hx aF→
   bt C ((U.ops qk).seq (U.block 0 (U.loop qv))) (aN [] (yD f h nx)) tm' hx aF:=by
  intro tm' hx aF e0 e1 e2 Fx kx
  simp
  simp[qk]
  refine W.bV (n:=bP c) (akR f c cm h nx (bP c)) ?_ ?_
  ·exact⟨0,by omega,by omega,by simp[e0],by simp[e1],by simp[e2],by simp,Fx,kx⟩
  clear e0 e1 e2
  rintro k jk h1 aY ⟨i,rfl,hi,f0,f1,f2,f6,F1,k1⟩
  refine W.of ?_
  simp[qv]
  rcases dU oc with rfl|⟨rs,rfl,kQ,jG⟩
  ·have BC:i=0:=by simp[bP] at hi;omega
   subst BC
   simp[kK,f1,f6]
   exact⟨rfl,F1,k1⟩
  ·simp[bP] at hi ⊢
   by_cases aM:i<rs.length
   ·have aX:(i:Int)<rs.length:=by omega
    have hw:=jH aM kQ
    obtain⟨r,hr,er,h3,lX,se,hz⟩:=kR (z:=11) rfl jG aM
    obtain⟨sn,sc,t,g,b,rfl,sf,ot,ht,og,hg⟩:=aF7 lX
    have ez:(W0 7).length=11:=rfl
    have hzt:∀ n H,az (ax n) t H=(t,H):=fun n H=>av ot.bY
    have hzg:∀ n H,az (ax n) g H=(g,H):=fun n H=>av og.bY
    have nxt:∀ (L:List AV) (tm':T AV) (hx:T ab) (aF:Key),aa (K 0) tm'=some (.ptr f 0)→aa (K 1) tm'=some (.sl L rs.length 11 .any)→aa (K 2) tm'=some (.bool cm)→aa (K 6) tm'=some (I i)→Fb f hx aF→Ks f h nx hx aF→
      eu C (ak (fun tm KT ns=>∃ m,m<rs.length-i∧akR f (.sl L rs.length 11 .any) cm h nx rs.length m tm KT ns) (ai 0 (aN [] (yD f h nx)))) qq tm' hx aF:=by
     intro L tm' hx aF e0 e1 e2 e6 Fx kx
     simp[qq,e6]
     refine⟨rs.length-(i+1),by omega,?_⟩
     unfold akR
     exact⟨i+1,rfl,by omega,by simp[e0],by simp[e1],by simp[e2],by simp[hw],Fx,kx⟩
    simp only[ez] at f1 ⊢
    generalize rs.flatten=L at f1 er h3 ⊢
    simp[kK,f1,f6,aX]
    simp[yg,f0,f1,f6,aM,h3,er,q2]
    refine(iS S F1 sf 0).mono ?_
    rintro o h2 aH ⟨rfl,F2,k2⟩
    simp
    simp[yh,f0,f1,f6,aM,h3,er,ht,hg,zqq,hzt,q3]
    refine(Zl S ot F2).mono ?_
    rintro o h4 jq ⟨rfl,F4,k4⟩
    have k4':=(k1.trans k2).trans k4
    simp
    simp[yi,f1,f6,aM,h3,er,ht,hg,dpn ht,zqq]
    cases b with
    |true=>
     cases cm with
     |false=>
      simp[qo,f0,f2,q5]
      refine(aC S F4 _).mono ?_
      rintro o h5 iW ⟨rfl,F5,k5⟩
      simp
      refine nxt L _ _ _ ?_ ?_ ?_ ?_ F5 (k4'.trans k5)<;>simp[f0,f1,f2,f6]
     |true=>
      simp[qo,f0,f1,f2,f6,aM,h3,er,ht,hg,zqq,hzg,q6]
      refine(abg S og _ _).mono ?_
      rintro o h5 iW ⟨⟨t5,rfl⟩,x5⟩
      have F5:=F4.ext x5
      simp[q5]
      refine(aC S F5 _).mono ?_
      rintro o h7 tZ ⟨rfl,F7,k7⟩
      simp
      refine nxt L _ _ _ ?_ ?_ ?_ ?_ F7 ((k4'.trans (x5.ks f)).trans k7)<;>simp[f0,f1,f2,f6]
    |false=>
     simp[yj,f0,f1,f6,aM,h3,er,ht,hg,zqq,hzg,q4]
     refine(ahi S og F4).mono ?_
     rintro o h5 iW ⟨rfl,F5,k5⟩
     simp
     refine nxt L _ _ _ ?_ ?_ ?_ ?_ F5 (k4'.trans k5)<;>simp[f0,f1,f2,f6]
   ·have aX:¬ (i:Int)<rs.length:=by omega
    generalize rs.flatten=L at f1
    simp[kK,f1,f6,aX]
    exact⟨rfl,F1,k1⟩
 simp at loop
 refine S.QU.call ?_
 simp[nY]
 rcases dU oc with rfl|⟨rs,rfl,kQ,jG⟩
 ·simp[qj,q1]
  refine(gV S F _).mono ?_
  rintro o h2 aH ⟨rfl,F2,k2⟩
  simp
  refine loop _ _ _ ?_ ?_ ?_ F2 k2<;>simp
 ·generalize rs.flatten=L at loop ⊢
  simp[qj,q1]
  refine(gV S F _).mono ?_
  rintro o h2 aH ⟨rfl,F2,k2⟩
  simp
  refine loop _ _ _ ?_ ?_ ?_ F2 k2<;>simp
end Tb
/-
 SU: the parts of a declaration's row. No condition.
-/
namespace Tb
open Go.Sx Go
structure Dl(l:List AV)(kd:Int)(sn sc:Nat)(ct pa:AV)(ty bo:List AV)(dp:Int)(ge:List AV)(dr ch cl cm:AV)(st mc:List AV)(co op:AV)(re:List AV):Prop where
 len:l.length=45
 a0:l[0]?=some (I kd)
 a1:l[1]?=some (.str sn sc)
 a3:l[3]?=some ct
 a4:l[4]?=some pa
 t5:List.take 3 (List.drop 5 l)=ty
 t8:List.take 7 (List.drop 8 l)=bo
 a15:l[15]?=some (I dp)
 t16:List.take 6 (List.drop 16 l)=ge
 a22:l[22]?=some dr
 a23:l[23]?=some ch
 a24:l[24]?=some cl
 a25:l[25]?=some cm
 t26:List.take 3 (List.drop 26 l)=st
 t29:List.take 7 (List.drop 29 l)=mc
 a36:l[36]?=some co
 a37:l[37]?=some op
 t38:List.take 7 (List.drop 38 l)=re
 sn_:sn≤10000
 ct_:dg W0 (.sl 8) ct
 pa_:dg W0 (.sl 6) pa
 ty_:cJ W0 YG ty
 bo_:cJ W0 sj bo
 ge_:cJ W0 RZ ge
 dr_:dg W0 (.sl 7) dr
 ch_:dg W0 (.sl 9) ch
 cl_:dg W0 (.sl 9) cl
 cm_:dg W0 (.sl 10) cm
 st_:cJ W0 YG st
 RA:cJ W0 sj mc
 co_:dg W0 (.sl 11) co
 op_:dg W0 (.sl 12) op
 re_:cJ W0 sj re
theorem gn:∀ (n:Nat) {ts:List CT} {cs:List AV},cJ W0 ts cs→cJ W0 (ts.drop n) (cs.drop n)
 |0,_,_,h=>h
 |_+1,_,_,.nil=>.nil
 |n+1,_,_,.cons _ _ _ _ _ h=>gn n h
theorem iu:∀ (n:Nat) {ts:List CT} {cs:List AV},cJ W0 ts cs→cJ W0 (ts.take n) (cs.take n)
 |0,_,_,_=>.nil
 |_+1,_,_,.nil=>.nil
 |n+1,_,_,.cons _ _ _ _ h1 h=>.cons _ _ _ _ h1 (iu n h)
theorem adG{l:List AV}(h:cJ W0 (W0 14) l):∃ kd sn sc ct pa ty bo dp ge dr ch cl cm st mc co op re,Dl l kd sn sc ct pa ty bo dp ge dr ch cl cm st mc co op re:=by
 obtain⟨c0,e0,o0⟩:=h.get (i:=0) rfl
 obtain⟨kd,rfl,_⟩:=sy o0
 obtain⟨c1,e1,o1⟩:=h.get (i:=1) rfl
 obtain⟨sn,sc,rfl,sf⟩:=tK o1
 obtain⟨c15,e15,o15⟩:=h.get (i:=15) rfl
 obtain⟨dp,rfl,_⟩:=sy o15
 obtain⟨ct,e3,o3⟩:=h.get (i:=3) rfl
 obtain⟨pa,e4,o4⟩:=h.get (i:=4) rfl
 obtain⟨dr,e22,o22⟩:=h.get (i:=22) rfl
 obtain⟨ch,e23,o23⟩:=h.get (i:=23) rfl
 obtain⟨cl,e24,o24⟩:=h.get (i:=24) rfl
 obtain⟨cm,e25,o25⟩:=h.get (i:=25) rfl
 obtain⟨co,e36,o36⟩:=h.get (i:=36) rfl
 obtain⟨op,e37,o37⟩:=h.get (i:=37) rfl
 exact⟨kd,sn,sc,ct,pa,_,_,dp,_,dr,ch,cl,cm,_,_,co,op,_,h.len,e0,e1,e3,e4,rfl,rfl,e15,rfl,e22,e23,e24,e25,rfl,rfl,e36,e37,rfl,sf,o3,o4,iu 3 (gn 5 h),iu 7 (gn 8 h),iu 6 (gn 16 h),o22,o23,o24,o25,iu 3 (gn 26 h),iu 7 (gn 29 h),o36,o37,iu 7 (gn 38 h)⟩
end Tb
/-
 SU: the reference's faults: fields that are not used. No condition.
-/
namespace Tb
open Go.Sx Go
structure Xd(f b:Key)(l:List AV)(kd:Int)(b5 b6 b7 b8:Bool)(Hb:T ab)(nb:Key)(tm:T AV)(h:T ab)(nx:Key):Prop where
 e0:aa (K 0) tm=some (.ptr f 0)
 e3:aa (K 3) tm=some (.ptr b 0)
 e4:aa (K 4) tm=some (I kd)
 e5:aa (K 5) tm=some (.bool b5)
 e6:aa (K 6) tm=some (.bool b6)
 e7:aa (K 7) tm=some (.bool b7)
 e8:aa (K 8) tm=some (.bool b8)
 F:Fb f h nx
 k:Ks f Hb nb h nx
 g:aa b h=some (.cells l .fix)
 hb:b.toNat<nx.toNat
 ne:b≠f
theorem Xd.call{f b:Key}{l:List AV}{kd:Int}{b5 b6 b7 b8:Bool}{Hb h h':T ab}{nb nx nx':Key}{tm tm':T AV}(X:Xd f b l kd b5 b6 b7 b8 Hb nb tm h nx)(F:Fb f h' nx')(k:Ks f h nx h' nx')(e0:aa (K 0) tm'=aa (K 0) tm:=by simp)(e3:aa (K 3) tm'=aa (K 3) tm:=by simp)(e4:aa (K 4) tm'=aa (K 4) tm:=by simp)(e5:aa (K 5) tm'=aa (K 5) tm:=by simp)(e6:aa (K 6) tm'=aa (K 6) tm:=by simp)(e7:aa (K 7) tm'=aa (K 7) tm:=by simp)(e8:aa (K 8) tm'=aa (K 8) tm:=by simp):Xd f b l kd b5 b6 b7 b8 Hb nb tm' h' nx':=
 ⟨e0.trans X.e0,e3.trans X.e3,e4.trans X.e4,e5.trans X.e5,e6.trans X.e6,e7.trans X.e7,e8.trans X.e8,F,X.k.trans k,bH k X.hb X.ne X.g,by have:=X.hb;have:=k.n;omega,X.ne⟩
theorem Dt{k:Nat}{c:AV}(h:dg W0 (.sl k) c):c=.nils∨∃ L n z,c=.sl L n z .any∧((n:Int)=0∧((n:Int)==0)=true∨¬ (n:Int)=0∧((n:Int)==0)=false):=by
 rcases Ty rfl h with h|⟨L,n,h,e⟩
 ·exact .inl h
 ·exact .inr ⟨L,n,_,h,e⟩
variable{C:cU}(S:dd C)
include S
variable{f b:Key}{l:List AV}{kd:Int}{sn sc:Nat}{ct pa:AV}{ty bo:List AV}{dp:Int}{ge:List AV}{dr ch cl cm:AV}{st mc:List AV}{co op:AV}{re:List AV}{b5 b6 b7 b8:Bool}{Hb h h':T ab}{nb nx nx':Key}{tm:T AV}
theorem aAN(D:Dl l kd sn sc ct pa ty bo dp ge dr ch cl cm st mc co op re){P:T AV→T ab→Key→Prop}{Q:bp}(cont:∀ tm' hx aF,Xd f b l kd b5 b6 b7 b8 Hb nb tm' hx aF→P tm' hx aF)(X:Xd f b l kd b5 b6 b7 b8 Hb nb tm h' nx'):eu C (ak P Q) fm tm h' nx':=by
 have qa:=S.ay
 have qt:=S.dP
 have qe:=S.dQ
 have qg:=S.dI
 have ll:=D.len
 by_cases hk:kd<0
 ·simp[fm,X.e0,X.e4,qa,hk]
  refine(aC S X.F _).mono ?_
  rintro o h2 aH ⟨rfl,F2,k2⟩
  simp
  exact cont _ _ _ (X.call F2 (k2))
 ·simp[fm,X.e0,X.e4,qa,hk]
  refine(aC S X.F _).mono ?_
  rintro o h2 aH ⟨rfl,F2,k2⟩
  simp
  exact cont _ _ _ (X.call F2 (k2))
theorem aAO(D:Dl l kd sn sc ct pa ty bo dp ge dr ch cl cm st mc co op re){P:T AV→T ab→Key→Prop}{Q:bp}(cont:∀ tm' hx aF,Xd f b l kd b5 b6 b7 b8 Hb nb tm' hx aF→P tm' hx aF)(X:Xd f b l kd b5 b6 b7 b8 Hb nb tm h' nx'):eu C (ak P Q) cj tm h' nx':=by
 have qa:=S.ay
 have qt:=S.dP
 have qe:=S.dQ
 have qg:=S.dI
 have ll:=D.len
 have f3:l[3]=ct:=by have:=(Af (by omega:3<l.length)).symm.trans D.a3;simpa using this
 rcases du kd 0 with⟨hk,cB⟩|⟨hk,cB⟩
 ·simp[cj,X.e0,X.e4,qa,hk]
  refine(aC S X.F _).mono ?_
  rintro o h2 aH ⟨rfl,F2,k2⟩
  simp
  exact cont _ _ _ (X.call F2 (k2))
 ·rcases Dt D.ct_ with hx3|⟨L3,n3,z3,hx3,⟨WT,hy3⟩|⟨WT,hy3⟩⟩
  ·simp[cj,X.e0,X.e3,X.e4,X.g,qa,ll,cB,f3,hx3]
   refine(aC S X.F _).mono ?_
   rintro o h2 aH ⟨rfl,F2,k2⟩
   simp
   exact cont _ _ _ (X.call F2 (k2))
  ·simp[cj,X.e0,X.e3,X.e4,X.g,qa,ll,cB,f3,hx3,WT]
   refine(aC S X.F _).mono ?_
   rintro o h2 aH ⟨rfl,F2,k2⟩
   simp
   exact cont _ _ _ (X.call F2 (k2))
  ·simp[cj,X.e0,X.e3,X.e4,X.g,qa,ll,cB,f3,hx3,hy3]
   refine(aC S X.F _).mono ?_
   rintro o h2 aH ⟨rfl,F2,k2⟩
   simp
   exact cont _ _ _ (X.call F2 (k2))
theorem avf(D:Dl l kd sn sc ct pa ty bo dp ge dr ch cl cm st mc co op re){P:T AV→T ab→Key→Prop}{Q:bp}(cont:∀ tm' hx aF,Xd f b l kd b5 b6 b7 b8 Hb nb tm' hx aF→P tm' hx aF)(X:Xd f b l kd b5 b6 b7 b8 Hb nb tm h' nx'):eu C (ak P Q) aV tm h' nx':=by
 have qa:=S.ay
 have qt:=S.dP
 have qe:=S.dQ
 have qg:=S.dI
 have ll:=D.len
 have f36:l[36]=co:=by have:=(Af (by omega:36<l.length)).symm.trans D.a36;simpa using this
 rcases du kd 4 with⟨hk,cB⟩|⟨hk,cB⟩
 ·simp[aV,X.e0,X.e4,qa,hk]
  refine(aC S X.F _).mono ?_
  rintro o h2 aH ⟨rfl,F2,k2⟩
  simp
  exact cont _ _ _ (X.call F2 (k2))
 ·rcases Dt D.co_ with aoo|⟨L36,n36,z36,aoo,⟨ay3,ay4⟩|⟨ay3,ay4⟩⟩
  ·simp[aV,X.e0,X.e3,X.e4,X.g,qa,ll,cB,f36,aoo]
   refine(aC S X.F _).mono ?_
   rintro o h2 aH ⟨rfl,F2,k2⟩
   simp
   exact cont _ _ _ (X.call F2 (k2))
  ·simp[aV,X.e0,X.e3,X.e4,X.g,qa,ll,cB,f36,aoo,ay3]
   refine(aC S X.F _).mono ?_
   rintro o h2 aH ⟨rfl,F2,k2⟩
   simp
   exact cont _ _ _ (X.call F2 (k2))
  ·simp[aV,X.e0,X.e3,X.e4,X.g,qa,ll,cB,f36,aoo,ay4]
   refine(aC S X.F _).mono ?_
   rintro o h2 aH ⟨rfl,F2,k2⟩
   simp
   exact cont _ _ _ (X.call F2 (k2))
theorem ave(D:Dl l kd sn sc ct pa ty bo dp ge dr ch cl cm st mc co op re){P:T AV→T ab→Key→Prop}{Q:bp}(cont:∀ tm' hx aF,Xd f b l kd b5 b6 b7 b8 Hb nb tm' hx aF→P tm' hx aF)(X:Xd f b l kd b5 b6 b7 b8 Hb nb tm h' nx'):eu C (ak P Q) ae tm h' nx':=by
 have qa:=S.ay
 have qt:=S.dP
 have qe:=S.dQ
 have qg:=S.dI
 have ll:=D.len
 have f22:l[22]=dr:=by have:=(Af (by omega:22<l.length)).symm.trans D.a22;simpa using this
 have f23:l[23]=ch:=by have:=(Af (by omega:23<l.length)).symm.trans D.a23;simpa using this
 have f24:l[24]=cl:=by have:=(Af (by omega:24<l.length)).symm.trans D.a24;simpa using this
 have f25:l[25]=cm:=by have:=(Af (by omega:25<l.length)).symm.trans D.a25;simpa using this
 cases b7 with
 |true=>
  simp[ae,X.e0,X.e7,qa]
  refine(aC S X.F _).mono ?_
  rintro o h2 aH ⟨rfl,F2,k2⟩
  simp
  exact cont _ _ _ (X.call F2 (k2))
 |false=>
  rcases Dt D.dr_ with uo|⟨L22,n22,z22,uo,⟨RU,ay5⟩|⟨RU,ay5⟩⟩
  ·rcases Dt D.ch_ with tY|⟨L23,n23,z23,tY,⟨Rc,alY⟩|⟨Rc,alY⟩⟩
   ·rcases Dt D.cl_ with r9|⟨L24,n24,z24,r9,⟨Ma,Z6⟩|⟨Ma,Z6⟩⟩
    ·rcases Dt D.cm_ with oG|⟨L25,n25,z25,oG,⟨Gq,Gr⟩|⟨Gq,Gr⟩⟩
     ·simp[ae,X.e0,X.e3,X.e7,X.g,qa,ll,f22,uo,f23,tY,f24,r9,f25,oG]
      refine(aC S X.F _).mono ?_
      rintro o h2 aH ⟨rfl,F2,k2⟩
      simp
      exact cont _ _ _ (X.call F2 (k2))
     ·simp[ae,X.e0,X.e3,X.e7,X.g,qa,ll,f22,uo,f23,tY,f24,r9,f25,oG,Gq]
      refine(aC S X.F _).mono ?_
      rintro o h2 aH ⟨rfl,F2,k2⟩
      simp
      exact cont _ _ _ (X.call F2 (k2))
     ·simp[ae,X.e0,X.e3,X.e7,X.g,qa,ll,f22,uo,f23,tY,f24,r9,f25,oG,Gr]
      refine(aC S X.F _).mono ?_
      rintro o h2 aH ⟨rfl,F2,k2⟩
      simp
      exact cont _ _ _ (X.call F2 (k2))
    ·rcases Dt D.cm_ with oG|⟨L25,n25,z25,oG,⟨Gq,Gr⟩|⟨Gq,Gr⟩⟩
     ·simp[ae,X.e0,X.e3,X.e7,X.g,qa,ll,f22,uo,f23,tY,f24,r9,Ma,f25,oG]
      refine(aC S X.F _).mono ?_
      rintro o h2 aH ⟨rfl,F2,k2⟩
      simp
      exact cont _ _ _ (X.call F2 (k2))
     ·simp[ae,X.e0,X.e3,X.e7,X.g,qa,ll,f22,uo,f23,tY,f24,r9,Ma,f25,oG,Gq]
      refine(aC S X.F _).mono ?_
      rintro o h2 aH ⟨rfl,F2,k2⟩
      simp
      exact cont _ _ _ (X.call F2 (k2))
     ·simp[ae,X.e0,X.e3,X.e7,X.g,qa,ll,f22,uo,f23,tY,f24,r9,Ma,f25,oG,Gr]
      refine(aC S X.F _).mono ?_
      rintro o h2 aH ⟨rfl,F2,k2⟩
      simp
      exact cont _ _ _ (X.call F2 (k2))
    ·simp[ae,X.e0,X.e3,X.e7,X.g,qa,ll,f22,uo,f23,tY,f24,r9,Z6]
     refine(aC S X.F _).mono ?_
     rintro o h2 aH ⟨rfl,F2,k2⟩
     simp
     exact cont _ _ _ (X.call F2 (k2))
   ·rcases Dt D.cl_ with r9|⟨L24,n24,z24,r9,⟨Ma,Z6⟩|⟨Ma,Z6⟩⟩
    ·rcases Dt D.cm_ with oG|⟨L25,n25,z25,oG,⟨Gq,Gr⟩|⟨Gq,Gr⟩⟩
     ·simp[ae,X.e0,X.e3,X.e7,X.g,qa,ll,f22,uo,f23,tY,Rc,f24,r9,f25,oG]
      refine(aC S X.F _).mono ?_
      rintro o h2 aH ⟨rfl,F2,k2⟩
      simp
      exact cont _ _ _ (X.call F2 (k2))
     ·simp[ae,X.e0,X.e3,X.e7,X.g,qa,ll,f22,uo,f23,tY,Rc,f24,r9,f25,oG,Gq]
      refine(aC S X.F _).mono ?_
      rintro o h2 aH ⟨rfl,F2,k2⟩
      simp
      exact cont _ _ _ (X.call F2 (k2))
     ·simp[ae,X.e0,X.e3,X.e7,X.g,qa,ll,f22,uo,f23,tY,Rc,f24,r9,f25,oG,Gr]
      refine(aC S X.F _).mono ?_
      rintro o h2 aH ⟨rfl,F2,k2⟩
      simp
      exact cont _ _ _ (X.call F2 (k2))
    ·rcases Dt D.cm_ with oG|⟨L25,n25,z25,oG,⟨Gq,Gr⟩|⟨Gq,Gr⟩⟩
     ·simp[ae,X.e0,X.e3,X.e7,X.g,qa,ll,f22,uo,f23,tY,Rc,f24,r9,Ma,f25,oG]
      refine(aC S X.F _).mono ?_
      rintro o h2 aH ⟨rfl,F2,k2⟩
      simp
      exact cont _ _ _ (X.call F2 (k2))
     ·simp[ae,X.e0,X.e3,X.e7,X.g,qa,ll,f22,uo,f23,tY,Rc,f24,r9,Ma,f25,oG,Gq]
      refine(aC S X.F _).mono ?_
      rintro o h2 aH ⟨rfl,F2,k2⟩
      simp
      exact cont _ _ _ (X.call F2 (k2))
     ·simp[ae,X.e0,X.e3,X.e7,X.g,qa,ll,f22,uo,f23,tY,Rc,f24,r9,Ma,f25,oG,Gr]
      refine(aC S X.F _).mono ?_
      rintro o h2 aH ⟨rfl,F2,k2⟩
      simp
      exact cont _ _ _ (X.call F2 (k2))
    ·simp[ae,X.e0,X.e3,X.e7,X.g,qa,ll,f22,uo,f23,tY,Rc,f24,r9,Z6]
     refine(aC S X.F _).mono ?_
     rintro o h2 aH ⟨rfl,F2,k2⟩
     simp
     exact cont _ _ _ (X.call F2 (k2))
   ·simp[ae,X.e0,X.e3,X.e7,X.g,qa,ll,f22,uo,f23,tY,alY]
    refine(aC S X.F _).mono ?_
    rintro o h2 aH ⟨rfl,F2,k2⟩
    simp
    exact cont _ _ _ (X.call F2 (k2))
  ·rcases Dt D.ch_ with tY|⟨L23,n23,z23,tY,⟨Rc,alY⟩|⟨Rc,alY⟩⟩
   ·rcases Dt D.cl_ with r9|⟨L24,n24,z24,r9,⟨Ma,Z6⟩|⟨Ma,Z6⟩⟩
    ·rcases Dt D.cm_ with oG|⟨L25,n25,z25,oG,⟨Gq,Gr⟩|⟨Gq,Gr⟩⟩
     ·simp[ae,X.e0,X.e3,X.e7,X.g,qa,ll,f22,uo,RU,f23,tY,f24,r9,f25,oG]
      refine(aC S X.F _).mono ?_
      rintro o h2 aH ⟨rfl,F2,k2⟩
      simp
      exact cont _ _ _ (X.call F2 (k2))
     ·simp[ae,X.e0,X.e3,X.e7,X.g,qa,ll,f22,uo,RU,f23,tY,f24,r9,f25,oG,Gq]
      refine(aC S X.F _).mono ?_
      rintro o h2 aH ⟨rfl,F2,k2⟩
      simp
      exact cont _ _ _ (X.call F2 (k2))
     ·simp[ae,X.e0,X.e3,X.e7,X.g,qa,ll,f22,uo,RU,f23,tY,f24,r9,f25,oG,Gr]
      refine(aC S X.F _).mono ?_
      rintro o h2 aH ⟨rfl,F2,k2⟩
      simp
      exact cont _ _ _ (X.call F2 (k2))
    ·rcases Dt D.cm_ with oG|⟨L25,n25,z25,oG,⟨Gq,Gr⟩|⟨Gq,Gr⟩⟩
     ·simp[ae,X.e0,X.e3,X.e7,X.g,qa,ll,f22,uo,RU,f23,tY,f24,r9,Ma,f25,oG]
      refine(aC S X.F _).mono ?_
      rintro o h2 aH ⟨rfl,F2,k2⟩
      simp
      exact cont _ _ _ (X.call F2 (k2))
     ·simp[ae,X.e0,X.e3,X.e7,X.g,qa,ll,f22,uo,RU,f23,tY,f24,r9,Ma,f25,oG,Gq]
      refine(aC S X.F _).mono ?_
      rintro o h2 aH ⟨rfl,F2,k2⟩
      simp
      exact cont _ _ _ (X.call F2 (k2))
     ·simp[ae,X.e0,X.e3,X.e7,X.g,qa,ll,f22,uo,RU,f23,tY,f24,r9,Ma,f25,oG,Gr]
      refine(aC S X.F _).mono ?_
      rintro o h2 aH ⟨rfl,F2,k2⟩
      simp
      exact cont _ _ _ (X.call F2 (k2))
    ·simp[ae,X.e0,X.e3,X.e7,X.g,qa,ll,f22,uo,RU,f23,tY,f24,r9,Z6]
     refine(aC S X.F _).mono ?_
     rintro o h2 aH ⟨rfl,F2,k2⟩
     simp
     exact cont _ _ _ (X.call F2 (k2))
   ·rcases Dt D.cl_ with r9|⟨L24,n24,z24,r9,⟨Ma,Z6⟩|⟨Ma,Z6⟩⟩
    ·rcases Dt D.cm_ with oG|⟨L25,n25,z25,oG,⟨Gq,Gr⟩|⟨Gq,Gr⟩⟩
     ·simp[ae,X.e0,X.e3,X.e7,X.g,qa,ll,f22,uo,RU,f23,tY,Rc,f24,r9,f25,oG]
      refine(aC S X.F _).mono ?_
      rintro o h2 aH ⟨rfl,F2,k2⟩
      simp
      exact cont _ _ _ (X.call F2 (k2))
     ·simp[ae,X.e0,X.e3,X.e7,X.g,qa,ll,f22,uo,RU,f23,tY,Rc,f24,r9,f25,oG,Gq]
      refine(aC S X.F _).mono ?_
      rintro o h2 aH ⟨rfl,F2,k2⟩
      simp
      exact cont _ _ _ (X.call F2 (k2))
     ·simp[ae,X.e0,X.e3,X.e7,X.g,qa,ll,f22,uo,RU,f23,tY,Rc,f24,r9,f25,oG,Gr]
      refine(aC S X.F _).mono ?_
      rintro o h2 aH ⟨rfl,F2,k2⟩
      simp
      exact cont _ _ _ (X.call F2 (k2))
    ·rcases Dt D.cm_ with oG|⟨L25,n25,z25,oG,⟨Gq,Gr⟩|⟨Gq,Gr⟩⟩
     ·simp[ae,X.e0,X.e3,X.e7,X.g,qa,ll,f22,uo,RU,f23,tY,Rc,f24,r9,Ma,f25,oG]
      refine(aC S X.F _).mono ?_
      rintro o h2 aH ⟨rfl,F2,k2⟩
      simp
      exact cont _ _ _ (X.call F2 (k2))
     ·simp[ae,X.e0,X.e3,X.e7,X.g,qa,ll,f22,uo,RU,f23,tY,Rc,f24,r9,Ma,f25,oG,Gq]
      refine(aC S X.F _).mono ?_
      rintro o h2 aH ⟨rfl,F2,k2⟩
      simp
      exact cont _ _ _ (X.call F2 (k2))
     ·simp[ae,X.e0,X.e3,X.e7,X.g,qa,ll,f22,uo,RU,f23,tY,Rc,f24,r9,Ma,f25,oG,Gr]
      refine(aC S X.F _).mono ?_
      rintro o h2 aH ⟨rfl,F2,k2⟩
      simp
      exact cont _ _ _ (X.call F2 (k2))
    ·simp[ae,X.e0,X.e3,X.e7,X.g,qa,ll,f22,uo,RU,f23,tY,Rc,f24,r9,Z6]
     refine(aC S X.F _).mono ?_
     rintro o h2 aH ⟨rfl,F2,k2⟩
     simp
     exact cont _ _ _ (X.call F2 (k2))
   ·simp[ae,X.e0,X.e3,X.e7,X.g,qa,ll,f22,uo,RU,f23,tY,alY]
    refine(aC S X.F _).mono ?_
    rintro o h2 aH ⟨rfl,F2,k2⟩
    simp
    exact cont _ _ _ (X.call F2 (k2))
  ·simp[ae,X.e0,X.e3,X.e7,X.g,qa,ll,f22,uo,ay5]
   refine(aC S X.F _).mono ?_
   rintro o h2 aH ⟨rfl,F2,k2⟩
   simp
   exact cont _ _ _ (X.call F2 (k2))
theorem aAQ(D:Dl l kd sn sc ct pa ty bo dp ge dr ch cl cm st mc co op re){P:T AV→T ab→Key→Prop}{Q:bp}(cont:∀ tm' hx aF,Xd f b l kd b5 b6 b7 b8 Hb nb tm' hx aF→P tm' hx aF)(X:Xd f b l kd b5 b6 b7 b8 Hb nb tm h' nx'):eu C (ak P Q) cp tm h' nx':=by
 have qa:=S.ay
 have qt:=S.dP
 have qe:=S.dQ
 have qg:=S.dI
 have ll:=D.len
 have aHX:∀ m H,az (ax m) bo H=(bo,H):=fun m H=>av D.bo_.bY
 cases b5 with
 |true=>
  simp[cp,X.e0,X.e5,qa]
  refine(aC S X.F _).mono ?_
  rintro o h2 aH ⟨rfl,F2,k2⟩
  simp
  exact cont _ _ _ (X.call F2 (k2))
 |false=>
  simp[cp,X.e0,X.e3,X.e5,X.g,ll,D.t8,qe,aHX]
  refine(Lu S D.bo_ _ _).mono ?_
  rintro o h7 tZ ⟨⟨t7,rfl⟩,x7⟩
  simp[qa]
  refine(aC S (X.F.ext x7) _).mono ?_
  rintro o h2 aH ⟨rfl,F2,k2⟩
  simp
  exact cont _ _ _ (X.call F2 ((x7.ks f).trans k2) (by simp) (by simp) (by simp) (by simp) (by simp) (by simp) (by simp))
theorem aAP(D:Dl l kd sn sc ct pa ty bo dp ge dr ch cl cm st mc co op re){P:T AV→T ab→Key→Prop}{Q:bp}(cont:∀ tm' hx aF,Xd f b l kd b5 b6 b7 b8 Hb nb tm' hx aF→P tm' hx aF)(X:Xd f b l kd b5 b6 b7 b8 Hb nb tm h' nx'):eu C (ak P Q) bN tm h' nx':=by
 have qa:=S.ay
 have qt:=S.dP
 have qe:=S.dQ
 have qg:=S.dI
 have ll:=D.len
 have f4:l[4]=pa:=by have:=(Af (by omega:4<l.length)).symm.trans D.a4;simpa using this
 have ay6:∀ m H,az (ax m) ty H=(ty,H):=fun m H=>av D.ty_.bY
 cases b5 with
 |true=>
  simp[bN,X.e0,X.e5,qa]
  refine(aC S X.F _).mono ?_
  rintro o h2 aH ⟨rfl,F2,k2⟩
  simp
  exact cont _ _ _ (X.call F2 (k2))
 |false=>
  cases b6 with
  |true=>
   simp[bN,X.e0,X.e5,X.e6,qa]
   refine(aC S X.F _).mono ?_
   rintro o h2 aH ⟨rfl,F2,k2⟩
   simp
   exact cont _ _ _ (X.call F2 (k2))
  |false=>
   rcases Dt D.pa_ with hx4|⟨L4,n4,z4,hx4,⟨Vu,hy4⟩|⟨Vu,hy4⟩⟩
   ·simp[bN,X.e0,X.e3,X.e5,X.e6,X.g,ll,f4,hx4,D.t5,qt,ay6]
    refine(Tx S D.ty_ _ _).mono ?_
    rintro o h7 tZ ⟨⟨t7,rfl⟩,x7⟩
    simp[qa]
    refine(aC S (X.F.ext x7) _).mono ?_
    rintro o h2 aH ⟨rfl,F2,k2⟩
    simp
    exact cont _ _ _ (X.call F2 ((x7.ks f).trans k2) (by simp) (by simp) (by simp) (by simp) (by simp) (by simp) (by simp))
   ·simp[bN,X.e0,X.e3,X.e5,X.e6,X.g,ll,f4,hx4,Vu,D.t5,qt,ay6]
    refine(Tx S D.ty_ _ _).mono ?_
    rintro o h7 tZ ⟨⟨t7,rfl⟩,x7⟩
    simp[qa]
    refine(aC S (X.F.ext x7) _).mono ?_
    rintro o h2 aH ⟨rfl,F2,k2⟩
    simp
    exact cont _ _ _ (X.call F2 ((x7.ks f).trans k2) (by simp) (by simp) (by simp) (by simp) (by simp) (by simp) (by simp))
   ·simp[bN,X.e0,X.e3,X.e5,X.e6,X.g,qa,ll,f4,hx4,hy4]
    refine(aC S X.F _).mono ?_
    rintro o h2 aH ⟨rfl,F2,k2⟩
    simp
    exact cont _ _ _ (X.call F2 (k2))
theorem avd(D:Dl l kd sn sc ct pa ty bo dp ge dr ch cl cm st mc co op re){P:T AV→T ab→Key→Prop}{Q:bp}(cont:∀ tm' hx aF,Xd f b l kd b5 b6 b7 b8 Hb nb tm' hx aF→P tm' hx aF)(X:Xd f b l kd b5 b6 b7 b8 Hb nb tm h' nx'):eu C (ak P Q) bK tm h' nx':=by
 have qa:=S.ay
 have qt:=S.dP
 have qe:=S.dQ
 have qg:=S.dI
 have ll:=D.len
 have f15:l[15]=I dp:=by have:=(Af (by omega:15<l.length)).symm.trans D.a15;simpa using this
 have ay7:∀ m H,az (ax m) ge H=(ge,H):=fun m H=>av D.ge_.bY
 cases b6 with
 |true=>
  simp[bK,X.e0,X.e6,qa]
  refine(aC S X.F _).mono ?_
  rintro o h2 aH ⟨rfl,F2,k2⟩
  simp
  exact cont _ _ _ (X.call F2 (k2))
 |false=>
  rcases du dp 0 with⟨hk,cB⟩|⟨hk,cB⟩
  ·simp[bK,X.e0,X.e3,X.e6,X.g,ll,f15,hk,D.t16,qg,ay7]
   refine(abg S D.ge_ _ _).mono ?_
   rintro o h7 tZ ⟨⟨t7,rfl⟩,x7⟩
   simp[qa]
   refine(aC S (X.F.ext x7) _).mono ?_
   rintro o h2 aH ⟨rfl,F2,k2⟩
   simp
   exact cont _ _ _ (X.call F2 ((x7.ks f).trans k2) (by simp) (by simp) (by simp) (by simp) (by simp) (by simp) (by simp))
  ·simp[bK,X.e0,X.e3,X.e6,X.g,qa,ll,f15,cB]
   refine(aC S X.F _).mono ?_
   rintro o h2 aH ⟨rfl,F2,k2⟩
   simp
   exact cont _ _ _ (X.call F2 (k2))
end Tb
/-
 SU: the reference's faults: fields that are not used, whole. No condition.
-/
namespace Tb
open Go.Sx Go
variable{C:cU}(S:dd C)
include S
variable{f b:Key}{l:List AV}{kd:Int}{sn sc:Nat}{ct pa:AV}{ty bo:List AV}{dp:Int}{ge:List AV}{dr ch cl cm:AV}{st mc:List AV}{co op:AV}{re:List AV}{b5 b6 b7 b8:Bool}{Hb h h':T ab}{nb nx nx':Key}{tm:T AV}
theorem ava(D:Dl l kd sn sc ct pa ty bo dp ge dr ch cl cm st mc co op re){P:T AV→T ab→Key→Prop}{Q:bp}(cont:∀ tm' hx aF,Xd f b l kd b5 b6 b7 b8 Hb nb tm' hx aF→P tm' hx aF)(X:Xd f b l kd b5 b6 b7 b8 Hb nb tm h' nx'):eu C (ak P Q) bz tm h' nx':=by
 have qa:=S.ay
 have qt:=S.dP
 have qe:=S.dQ
 have qg:=S.dI
 have ll:=D.len
 have aAL:∀ m H,az (ax m) st H=(st,H):=fun m H=>av D.st_.bY
 have aAM:∀ m H,az (ax m) mc H=(mc,H):=fun m H=>av D.RA.bY
 cases b8 with
 |true=>
  simp[bz,X.e0,X.e8,qa]
  refine(aC S X.F _).mono ?_
  rintro o h2 aH ⟨rfl,F2,k2⟩
  simp
  exact cont _ _ _ (X.call F2 (k2))
 |false=>
  simp[bz,X.e0,X.e3,X.e8,X.g,ll,D.t26,qt,aAL]
  refine(Tx S D.st_ _ _).mono ?_
  rintro o h6 IC ⟨⟨t6,rfl⟩,x6⟩
  have F6:=X.F.ext x6
  have g6:aa b h6=some (.cells l .fix):=by rw[x6.g b X.hb];exact X.g
  cases t6 with
  |false=>
   simp[qa]
   refine(aC S F6 _).mono ?_
   rintro o h2 aH ⟨rfl,F2,k2⟩
   simp
   exact cont _ _ _ (X.call F2 ((x6.ks f).trans k2) (by simp) (by simp) (by simp) (by simp) (by simp) (by simp) (by simp))
  |true=>
   simp[X.e3,g6,ll,D.t29,qe,aAM]
   refine(Lu S D.RA _ _).mono ?_
   rintro o h7 tZ ⟨⟨t7,rfl⟩,x7⟩
   simp[qa]
   refine(aC S (F6.ext x7) _).mono ?_
   rintro o h2 aH ⟨rfl,F2,k2⟩
   simp
   exact cont _ _ _ (X.call F2 (((x6.ks f).trans (x7.ks f)).trans k2) (by simp) (by simp) (by simp) (by simp) (by simp) (by simp) (by simp))
theorem aqv(D:Dl l kd sn sc ct pa ty bo dp ge dr ch cl cm st mc co op re){Q:bp}(cont:∀ tm' hx aF,Xd f b l kd b5 b6 b7 b8 Hb nb tm' hx aF→Q .norm tm' hx aF)(X:Xd f b l kd b5 b6 b7 b8 Hb nb tm h' nx'):eu C Q aR tm h' nx':=by
 have qa:=S.ay
 have qt:=S.dP
 have qe:=S.dQ
 have qg:=S.dI
 have ll:=D.len
 have f37:l[37]=op:=by have:=(Af (by omega:37<l.length)).symm.trans D.a37;simpa using this
 have aoD:∀ m H,az (ax m) re H=(re,H):=fun m H=>av D.re_.bY
 rcases du kd 5 with⟨hk,cB⟩|⟨hk,cB⟩
 ·simp[aR,X.e0,X.e4,qa,hk]
  refine(aC S X.F _).mono ?_
  rintro o h2 aH ⟨rfl,F2,k2⟩
  simp
  exact cont _ _ _ (X.call F2 (k2))
 ·rcases Dt D.op_ with amB|⟨L37,n37,z37,amB,⟨avb,avc⟩|⟨avb,avc⟩⟩
  ·simp[aR,X.e0,X.e3,X.e4,X.g,ll,cB,f37,amB,D.t38,qe,aoD]
   refine(Lu S D.re_ _ _).mono ?_
   rintro o h7 tZ ⟨⟨t7,rfl⟩,x7⟩
   simp[qa]
   refine(aC S (X.F.ext x7) _).mono ?_
   rintro o h2 aH ⟨rfl,F2,k2⟩
   simp
   exact cont _ _ _ (X.call F2 ((x7.ks f).trans k2) (by simp) (by simp) (by simp) (by simp) (by simp) (by simp) (by simp))
  ·simp[aR,X.e0,X.e3,X.e4,X.g,ll,cB,f37,amB,avb,D.t38,qe,aoD]
   refine(Lu S D.re_ _ _).mono ?_
   rintro o h7 tZ ⟨⟨t7,rfl⟩,x7⟩
   simp[qa]
   refine(aC S (X.F.ext x7) _).mono ?_
   rintro o h2 aH ⟨rfl,F2,k2⟩
   simp
   exact cont _ _ _ (X.call F2 ((x7.ks f).trans k2) (by simp) (by simp) (by simp) (by simp) (by simp) (by simp) (by simp))
  ·simp[aR,X.e0,X.e3,X.e4,X.g,qa,ll,cB,f37,amB,avc]
   refine(aC S X.F _).mono ?_
   rintro o h2 aH ⟨rfl,F2,k2⟩
   simp
   exact cont _ _ _ (X.call F2 (k2))
omit S in
theorem Xd.aQ{tm':T AV}(X:Xd f b l kd b5 b6 b7 b8 Hb nb tm h' nx')(e0:aa (K 0) tm'=aa (K 0) tm:=by simp)(e3:aa (K 3) tm'=aa (K 3) tm:=by simp)(e4:aa (K 4) tm'=aa (K 4) tm:=by simp)(e5:aa (K 5) tm'=aa (K 5) tm:=by simp)(e6:aa (K 6) tm'=aa (K 6) tm:=by simp)(e7:aa (K 7) tm'=aa (K 7) tm:=by simp)(e8:aa (K 8) tm'=aa (K 8) tm:=by simp):Xd f b l kd b5 b6 b7 b8 Hb nb tm' h' nx':=X.call X.F (Ks.refl _ _ _) e0 e3 e4 e5 e6 e7 e8
theorem aqw(D:Dl l kd sn sc ct pa ty bo dp ge dr ch cl cm st mc co op re)(kb:Ks f h nx Hb nb)(X:Xd f b l kd b5 b6 b7 b8 Hb nb tm h' nx'):bt C ((U.ops fm).seq ((U.ops cj).seq ((U.ops bN).seq ((U.ops cp).seq ((U.ops bK).seq ((U.ops ae).seq ((U.ops bz).seq ((U.ops aV).seq (U.ops aR))))))))) (aN [] (yD f h nx)) tm h' nx':=by
 refine aAN S D (P:=fun tm hx aF=>bt C ((U.ops cj).seq ((U.ops bN).seq ((U.ops cp).seq ((U.ops bK).seq ((U.ops ae).seq ((U.ops bz).seq ((U.ops aV).seq (U.ops aR)))))))) (aN [] (yD f h nx)) tm hx aF) ?_ X
 clear X
 intro tm hx aF X
 refine aAO S D (P:=fun tm hx aF=>bt C ((U.ops bN).seq ((U.ops cp).seq ((U.ops bK).seq ((U.ops ae).seq ((U.ops bz).seq ((U.ops aV).seq (U.ops aR))))))) (aN [] (yD f h nx)) tm hx aF) ?_ X
 clear X
 intro tm hx aF X
 refine aAP S D (P:=fun tm hx aF=>bt C ((U.ops cp).seq ((U.ops bK).seq ((U.ops ae).seq ((U.ops bz).seq ((U.ops aV).seq (U.ops aR)))))) (aN [] (yD f h nx)) tm hx aF) ?_ X
 clear X
 intro tm hx aF X
 refine aAQ S D (P:=fun tm hx aF=>bt C ((U.ops bK).seq ((U.ops ae).seq ((U.ops bz).seq ((U.ops aV).seq (U.ops aR))))) (aN [] (yD f h nx)) tm hx aF) ?_ X
 clear X
 intro tm hx aF X
 refine avd S D (P:=fun tm hx aF=>bt C ((U.ops ae).seq ((U.ops bz).seq ((U.ops aV).seq (U.ops aR)))) (aN [] (yD f h nx)) tm hx aF) ?_ X
 clear X
 intro tm hx aF X
 refine ave S D (P:=fun tm hx aF=>bt C ((U.ops bz).seq ((U.ops aV).seq (U.ops aR))) (aN [] (yD f h nx)) tm hx aF) ?_ X
 clear X
 intro tm hx aF X
 refine ava S D (P:=fun tm hx aF=>bt C ((U.ops aV).seq (U.ops aR)) (aN [] (yD f h nx)) tm hx aF) ?_ X
 clear X
 intro tm hx aF X
 refine avf S D (P:=fun tm hx aF=>bt C (U.ops aR) (aN [] (yD f h nx)) tm hx aF) ?_ X
 clear X
 intro tm hx aF X
 refine aqv S D (Q:=(aN [] (yD f h nx))) ?_ X
 intro tm hx aF X
 simp
 exact⟨rfl,X.F,kb.trans X.k⟩
end Tb
/-
 SU: the reference's faults: fields that are not used. No condition.
-/
namespace Tb
open Go.Sx Go
variable{C:cU}(S:dd C)
include S
theorem alc{l:List AV}(ol:cJ W0 (W0 14) l){f:Key}{h:T ab}{nx:Key}(F:Fb f h nx):aO C jQ [.ptr f 0,.agg l] h nx (yD f h nx):=by
 obtain⟨kd,sn,sc,ct,pa,ty,bo,dp,ge,dr,ch,cl,cm,st,mc,co,op,re,D⟩:=adG ol
 have hl:l.length=45:=ol.len
 have hc:l.all AV.aD=true:=mi.2 ol.aU
 have s0:=kTSu nx
 have Ui:nx≠f:=aG (by have:=F.hi;omega)
 have F0:=F.ext (E0 h nx (.cells l .fix))
 have K0:=(E0 h nx (.cells l .fix)).ks f
 have f0:l[0]=I kd:=by have:=(Af (by omega:0<l.length)).symm.trans D.a0;simpa using this
 refine S.Oi.call ?_
 simp[mz]
 simp[xa]
 have g0:aa nx (aK nx (some (.cells l .fix)) h)=some (.cells l .fix):=by rw[gTSm]
 generalize aK nx (some (.cells l .fix)) h=Hb at F0 K0 g0 ⊢
 simp[xb,g0,hl,f0]
 simp[xc]
 simp[xd]
 simp[xe]
 have go:=fun(b5 b6 b7 b8:Bool) (tm:T AV) X=>aqw (b:=nx) (tm:=tm) (b5:=b5) (b6:=b6) (b7:=b7) (b8:=b8) (h':=Hb) (nx':=nx.succ) S D K0 X
 rcases du kd 4 with⟨hk,cB⟩|⟨hk,cB⟩
 ·subst hk
  simp[nS]
  have key:=fun tm X=>go false false false true tm X
  simp at key
  refine key _ ⟨?_,?_,?_,?_,?_,?_,?_,F0,Ks.refl _ _ _,g0,by omega,Ui⟩<;>simp
 ·simp[nS,cB]
  have key:=fun tm X=>go (kd==1) (kd==2) (kd==3) (kd==5) tm X
  simp at key
  refine key _ ⟨?_,?_,?_,?_,?_,?_,?_,F0,Ks.refl _ _ _,g0,by omega,Ui⟩<;>simp
end Tb
/-
 SU: the reference's parser: the end. No condition.
-/
namespace Tb
open Go.Sx Go
variable{C:cU}(S:dd C)
include S
def aHG(h:T ab)(nx:Key)(o:Out)(h':T ab)(nx':Key):Prop:=(∃ (a e:Int),o=.ret (.tuple [I a,I e])∧dg W0 .int (I a)∧(e=0∨e=2∨e=4))∧Ext h nx h' nx'
theorem ayb{p:Key}{m:Nat}{h:T ab}{nx:Key}(P:PP p m h nx)(t:Bool):aO C An [.ptr p 0,.bool t] h nx (aHG h nx):=by
 have q1:=S.ji
 obtain⟨sn,sc,c,rs,i,bad,g,a2,a3,a4,a5,a6,hm⟩:=P.at_
 refine S.aaS.call ?_
 simp[G9]
 simp[PJ]
 cases bad with
 |true=>
  simp[jO,g]
  simp[Ft,q1]
  refine(amV S P).mono ?_
  rintro o h1 aY ⟨⟨n,rfl,hn⟩,x1⟩
  simp
  exact⟨⟨n,2,rfl,hn,by omega⟩,x1⟩
 |false=>
  by_cases hi:i<rs.length
  ·have IU:(i:Int)<rs.length:=by omega
   rcases a3 with⟨rfl,rfl⟩|rfl
   ·simp at hi
   ·generalize rs.flatten=L at g
    simp[jO,g,IU]
    simp[Ft,q1]
    refine(amV S P).mono ?_
    rintro o h1 aY ⟨⟨n,rfl,hn⟩,x1⟩
    simp
    exact⟨⟨n,2,rfl,hn,by omega⟩,x1⟩
  ·have IU:¬ (i:Int)<rs.length:=by omega
   rcases a3 with⟨rfl,rfl⟩|rfl
   ·simp at a6
    subst a6
    cases t with
    |true=>
     simp[jO,g]
     simp[rJ]
     simp[Fu]
     exact⟨⟨0,4,rfl,mM,by omega⟩,Ext.refl _ _⟩
    |false=>
     simp[jO,g]
     simp[rJ]
     simp[Fv]
     exact⟨⟨0,0,rfl,mM,by omega⟩,Ext.refl _ _⟩
   ·generalize rs.flatten=L at g
    cases t with
    |true=>
     simp[jO,g,IU]
     simp[rJ]
     simp[Fu]
     exact⟨⟨0,4,rfl,mM,by omega⟩,Ext.refl _ _⟩
    |false=>
     simp[jO,g,IU]
     simp[rJ]
     simp[Fv]
     exact⟨⟨0,0,rfl,mM,by omega⟩,Ext.refl _ _⟩
end Tb
/-
 SU: the reference's faults of a module, out of those of declarations. No condition.
-/
namespace Tb
open Go.Sx Go
def ab8(C:cU):Prop:=∀ {l:List AV},cJ W0 (W0 14) l→∀ {f:Key} {h:T ab} {nx:Key},Fb f h nx→aO C mw [.ptr f 0,.agg l] h nx (yD f h nx)
def FlR(h:T ab)(nx:Key)(o:Out)(h':T ab)(nx':Key):Prop:=(∃ a b c d:Bool,o=.ret (.agg [.bool a,.bool b,.bool c,.bool d]))∧Ext h nx h' nx'
def Ls(c:AV)(n:Nat)(h:T ab)(nx:Key):Prop:=(c=.nils∧n=0)∨∃ rs:List (List AV),rs.length=n∧n≤100000∧dy W0 14 rs∧((∃ fl,c=.sl rs.flatten n 45 fl)∨∃ (b:Key) (kk:CK),c=.slice b 0 n 45∧aa b h=some (.cells rs.flatten kk)∧b.toNat<nx.toNat)
theorem Ls.cell{c:AV}{n:Nat}{h:T ab}{nx:Key}(l:Ls c n h nx):c.aD=true:=by
 rcases l with⟨rfl,_⟩|⟨rs,_,_,_,⟨fl,rfl⟩|⟨b,kk,rfl,_⟩⟩<;>rfl
theorem Gx.ls{c:AV}{N:Nat}{h:T ab}{nx:Key}{A:Key→Prop}(g:Gx W0 14 c N h nx A)(hn:N≤100000):∃ n,Ls c n h nx:=by
 rcases g with rfl|⟨rs,hN,x,⟨b,rfl,hb,_,aM⟩|⟨t,rfl,_⟩⟩
 ·exact⟨0,.inl ⟨rfl,rfl⟩⟩
 all_goals have hn:rs.length≤100000:=by omega
 ·rcases hb with hb|⟨hb,_⟩
  ·exact⟨_,.inr ⟨rs,rfl,hn,x,.inr ⟨b,_,rfl,hb,aM⟩⟩⟩
  ·exact⟨_,.inr ⟨rs,rfl,hn,x,.inr ⟨b,_,rfl,hb,aM⟩⟩⟩
 ·exact⟨_,.inr ⟨rs,rfl,hn,x,.inl ⟨_,rfl⟩⟩⟩
variable{C:cU}(S:dd C)
include S
def ajO(c:AV)(nx:Key)(h3:T ab)(dw:Key)(n:Nat)(k:Nat)(tm':T AV)(h':T ab)(nx':Key):Prop:=
 ∃ (i:Nat),k=n-i∧i≤n∧aa (K 1) tm'=some (.ptr nx 0)∧aa (K 2) tm'=some (.ptr nx.succ 0)∧aa (K 3) tm'=some (.ptr nx.succ.succ 0)∧aa (K 4) tm'=some (I i)∧Fb nx.succ.succ h' nx'∧Ks nx.succ.succ h3 dw h' nx'
theorem ajP(hD:ab8 C){c:AV}{n:Nat}{h:T ab}{nx:Key}(oc:Ls c n h nx):aO C rH [.agg [c]] h nx (FlR h nx):=by
 have q1:=S.RI
 have s0:=kTSu nx
 have s1:=kTSu nx.succ
 have s2:=kTSu nx.succ.succ
 refine S.YR.call ?_
 simp[DI]
 simp[MK]
 have main:∀ (t:Bool) (tm':T AV),aa (K 1) tm'=some (.ptr nx 0)→aa (K 2) tm'=some (.ptr nx.succ 0)→aa (K 3) tm'=some (.ptr nx.succ.succ 0)→
   bt C (((U.ops BW).seq (U.block 0 (U.loop BX))).seq ((U.ops uO).seq U.ret)) (aN [RV.cell (K 2) true 4] (FlR h nx)) tm' (aK nx.succ.succ (some (.cells [.bool t,.bool false,.bool false,.bool false] .fix)) (aK nx.succ (some (.cells [.bool false,.bool false,.bool false,.bool false] .fix)) (aK nx (some (.cells [c] .fix)) h))) nx.succ.succ.succ:=by
  intro t tm' e1 e2 e3
  have x3:Ext h nx (aK nx.succ.succ (some (.cells [.bool t,.bool false,.bool false,.bool false] .fix)) (aK nx.succ (some (.cells [.bool false,.bool false,.bool false,.bool false] .fix)) (aK nx (some (.cells [c] .fix)) h))) nx.succ.succ.succ:=((E0 h nx _).trans (E0 _ _ _)).trans (E0 _ _ _)
  have F3:Fb nx.succ.succ (aK nx.succ.succ (some (.cells [.bool t,.bool false,.bool false,.bool false] .fix)) (aK nx.succ (some (.cells [.bool false,.bool false,.bool false,.bool false] .fix)) (aK nx (some (.cells [c] .fix)) h))) nx.succ.succ.succ:=⟨⟨t,false,false,false,by rw[gTSm]⟩,by omega⟩
  have g1:aa nx (aK nx.succ.succ (some (.cells [.bool t,.bool false,.bool false,.bool false] .fix)) (aK nx.succ (some (.cells [.bool false,.bool false,.bool false,.bool false] .fix)) (aK nx (some (.cells [c] .fix)) h)))=some (.cells [c] .fix):=by rw[bU _ _ _ _ (aG (by omega)),bU _ _ _ _ (aG (by omega)),gTSm]
  have g2:aa nx.succ (aK nx.succ.succ (some (.cells [.bool t,.bool false,.bool false,.bool false] .fix)) (aK nx.succ (some (.cells [.bool false,.bool false,.bool false,.bool false] .fix)) (aK nx (some (.cells [c] .fix)) h)))=some (.cells [.bool false,.bool false,.bool false,.bool false] .fix):=by rw[bU _ _ _ _ (aG (by omega)),gTSm]
  generalize (aK nx.succ.succ (some (.cells [.bool t,.bool false,.bool false,.bool false] .fix)) (aK nx.succ (some (.cells [.bool false,.bool false,.bool false,.bool false] .fix)) (aK nx (some (.cells [c] .fix)) h)))=H3 at x3 F3 g1 g2 ⊢
  simp
  simp[BW]
  refine W.bV (n:=n) (ajO c nx H3 nx.succ.succ.succ n) ?_ ?_
  ·exact⟨0,by omega,by omega,by simp[e1],by simp[e2],by simp[e3],by simp,F3,Ks.refl _ _ _⟩
  clear e1 e2 e3
  rintro k jk h1 aY ⟨i,rfl,hi,f1,f2,f3,f4,F1,k1⟩
  refine W.of ?_
  have gc:aa nx h1=some (.cells [c] .fix):=bH k1 (by omega) (aG (by omega)) g1
  have gr:aa nx.succ h1=some (.cells [.bool false,.bool false,.bool false,.bool false] .fix):=bH k1 (by omega) (aG (by omega)) g2
  have fin:∀ oW,aa (K 2) oW=some (.ptr nx.succ 0)→aa (K 3) oW=some (.ptr nx.succ.succ 0)→bt C ((U.ops uO).seq U.ret) (aN [RV.cell (K 2) true 4] (FlR h nx)) oW h1 aY:=by
   intro oW e2 e3
   obtain⟨a,b,c',d,gf⟩:=F1.g
   simp
   simp[uO,e2,e3,gf,gr]
   refine⟨⟨a,b,c',d,rfl⟩,by have:=x3.n;have:=k1.n;omega,fun q hq=>?_⟩
   rw[bU _ _ _ _ (aG (by omega)),k1.g q (by omega) (aG (by omega)),x3.g q hq]
  simp at fin
  simp[BX]
  rcases oc with⟨rfl,rfl⟩|⟨rs,rfl,kQ,jG,⟨fl,rfl⟩|⟨bb,kk,rfl,HX,hlb⟩⟩
  ·have BC:i=0:=by omega
   subst BC
   simp[kU,f1,f4,gc]
   refine fin _ ?_ ?_<;>simp[f2,f3]
  ·by_cases aM:i<rs.length
   ·have aX:(i:Int)<rs.length:=by omega
    have hw:=jH aM kQ
    obtain⟨r,hr,er,h3,lX,se,hz⟩:=kR (z:=45) rfl jG aM
    clear fin
    generalize rs.flatten=L at gc er h3 ⊢
    simp[kU,f1,f4,gc,aX]
    simp[BY,f1,f3,f4,gc,aM,h3,er,se,sh se,hz,q1]
    refine(hD lX F1).mono ?_
    rintro o h2 aH ⟨rfl,F2,k2⟩
    simp
    simp[BZ,f4]
    refine⟨rs.length-(i+1),by omega,?_⟩
    unfold ajO
    exact⟨i+1,rfl,by omega,by simp[f1],by simp[f2],by simp[f3],by simp[hw],F2,k1.trans k2⟩
   ·have aX:¬ (i:Int)<rs.length:=by omega
    generalize rs.flatten=L at gc
    simp[kU,f1,f4,gc,aX]
    refine fin _ ?_ ?_<;>simp[f2,f3]
  ·have gb:aa bb h1=some (.cells rs.flatten kk):=bH k1 (by have:=x3.n;omega) (aG (by omega)) (by rw[x3.g bb hlb];exact HX)
   by_cases aM:i<rs.length
   ·have aX:(i:Int)<rs.length:=by omega
    have hw:=jH aM kQ
    obtain⟨r,hr,er,h3,lX,se,hz⟩:=kR (z:=45) rfl jG aM
    clear fin
    generalize rs.flatten=L at gb er h3
    simp[kU,f1,f4,gc,aX]
    simp[BY,f1,f3,f4,gc,aM,h3,er,hz,gb,q1]
    refine(hD lX F1).mono ?_
    rintro o h2 aH ⟨rfl,F2,k2⟩
    simp
    simp[BZ,f4]
    refine⟨rs.length-(i+1),by omega,?_⟩
    unfold ajO
    exact⟨i+1,rfl,by omega,by simp[f1],by simp[f2],by simp[f3],by simp[hw],F2,k1.trans k2⟩
   ·have aX:¬ (i:Int)<rs.length:=by omega
    simp[kU,f1,f4,gc,aX]
    refine fin _ ?_ ?_<;>simp[f2,f3]
 rcases oc with⟨rfl,rfl⟩|⟨rs,rfl,kQ,jG,⟨fl,rfl⟩|⟨bb,kk,rfl,HX,hlb⟩⟩
 ·simp[uP]
  have key:=main false
  simp at key
  refine key _ ?_ ?_ ?_<;>simp
 ·have key:=main (decide (64<(rs.length:Int)))
  generalize rs.flatten=L at key ⊢
  simp[uP]
  simp at key
  refine key _ ?_ ?_ ?_<;>simp
 ·have key:=main (decide (64<(rs.length:Int)))
  simp[uP]
  simp at key
  refine key _ ?_ ?_ ?_<;>simp
end Tb
/-
 SU: the reference's faults of a declaration: rows. No condition.
-/
namespace Tb
open Go.Sx Go
structure Fq(f b:Key)(l:List AV)(Hb:T ab)(nb:Key)(tm:T AV)(h:T ab)(nx:Key):Prop where
 e0:aa (K 0) tm=some (.ptr f 0)
 e3:aa (K 3) tm=some (.ptr b 0)
 F:Fb f h nx
 k:Ks f Hb nb h nx
 g:aa b h=some (.cells l .fix)
 hb:b.toNat<nx.toNat
 ne:b≠f
theorem Fq.call{f b:Key}{l:List AV}{Hb h h':T ab}{nb nx nx':Key}{tm tm':T AV}(X:Fq f b l Hb nb tm h nx)(F:Fb f h' nx')(k:Ks f h nx h' nx')(e0:aa (K 0) tm'=aa (K 0) tm:=by simp)(e3:aa (K 3) tm'=aa (K 3) tm:=by simp):Fq f b l Hb nb tm' h' nx':=
 ⟨e0.trans X.e0,e3.trans X.e3,F,X.k.trans k,bH k X.hb X.ne X.g,by have:=X.hb;have:=k.n;omega,X.ne⟩
theorem Fq.aQ{f b:Key}{l:List AV}{Hb h:T ab}{nb nx:Key}{tm tm':T AV}(X:Fq f b l Hb nb tm h nx)(e0:aa (K 0) tm'=aa (K 0) tm:=by simp)(e3:aa (K 3) tm'=aa (K 3) tm:=by simp):Fq f b l Hb nb tm' h nx:=
 ⟨e0.trans X.e0,e3.trans X.e3,X.F,X.k,X.g,X.hb,X.ne⟩
variable{C:cU}(S:dd C)
include S
variable{f b:Key}{l:List AV}{kd:Int}{sn sc:Nat}{ct pa:AV}{ty bo:List AV}{dp:Int}{ge:List AV}{dr ch cl cm:AV}{st mc:List AV}{co op:AV}{re:List AV}{Hb h:T ab}{nb nx:Key}{tm:T AV}
theorem aGz(D:Dl l kd sn sc ct pa ty bo dp ge dr ch cl cm st mc co op re){Q:bp}(cont:∀ tm' hx aF,Fq f b l Hb nb tm' hx aF→Q .norm tm' hx aF)(X:Fq f b l Hb nb tm h nx):eu C Q rL tm h nx:=by
 have ll:=D.len
 have f1:l[1]=.str sn sc:=by have:=(Af (by omega:1<l.length)).symm.trans D.a1;simpa using this
 have q:=S.ar
 simp[rL,X.e0,X.e3,X.g,ll,q,f1]
 refine(iS S X.F D.sn_ 1).mono ?_
 rintro o h2 aH ⟨rfl,F2,k2⟩
 simp
 exact cont _ _ _ (X.call F2 k2)
theorem aGA(D:Dl l kd sn sc ct pa ty bo dp ge dr ch cl cm st mc co op re){Q:bp}(cont:∀ tm' hx aF,Fq f b l Hb nb tm' hx aF→Q .norm tm' hx aF)(X:Fq f b l Hb nb tm h nx):eu C Q rM tm h nx:=by
 have ll:=D.len
 have f1:l[1]=.str sn sc:=by have:=(Af (by omega:1<l.length)).symm.trans D.a1;simpa using this
 have q:=S.ar
 simp[rM,X.e0,X.e3,X.g,ll,q,f1]
 refine(iS S X.F D.sn_ 0).mono ?_
 rintro o h2 aH ⟨rfl,F2,k2⟩
 simp
 exact cont _ _ _ (X.call F2 k2)
theorem aGt(D:Dl l kd sn sc ct pa ty bo dp ge dr ch cl cm st mc co op re){Q:bp}(cont:∀ tm' hx aF,Fq f b l Hb nb tm' hx aF→Q .norm tm' hx aF)(X:Fq f b l Hb nb tm h nx):eu C Q iA tm h nx:=by
 have ll:=D.len
 have f3:l[3]=ct:=by have:=(Af (by omega:3<l.length)).symm.trans D.a3;simpa using this
 rcases Dt D.ct_ with hx|⟨L,n,z,hx,_⟩
 ·have _u:=0
  have q:=S.ay
  simp[iA,X.e0,X.e3,X.g,ll,q,f3,hx]
  refine(aC S X.F _).mono ?_
  rintro o h2 aH ⟨rfl,F2,k2⟩
  simp
  exact cont _ _ _ (X.call F2 k2)
 ·have _u:=0
  have q:=S.ay
  simp[iA,X.e0,X.e3,X.g,ll,q,f3,hx]
  refine(aC S X.F _).mono ?_
  rintro o h2 aH ⟨rfl,F2,k2⟩
  simp
  exact cont _ _ _ (X.call F2 k2)
theorem aGu(D:Dl l kd sn sc ct pa ty bo dp ge dr ch cl cm st mc co op re){Q:bp}(cont:∀ tm' hx aF,Fq f b l Hb nb tm' hx aF→Q .norm tm' hx aF)(X:Fq f b l Hb nb tm h nx):eu C Q iD tm h nx:=by
 have ll:=D.len
 have f3:l[3]=ct:=by have:=(Af (by omega:3<l.length)).symm.trans D.a3;simpa using this
 rcases Dt D.ct_ with hx|⟨L,n,z,hx,_⟩
 ·have _u:=0
  have q:=S.aq
  simp[iD,X.e0,X.e3,X.g,ll,q,f3,hx]
  refine(gV S X.F _).mono ?_
  rintro o h2 aH ⟨rfl,F2,k2⟩
  simp
  exact cont _ _ _ (X.call F2 k2)
 ·have _u:=0
  have q:=S.aq
  simp[iD,X.e0,X.e3,X.g,ll,q,f3,hx]
  refine(gV S X.F _).mono ?_
  rintro o h2 aH ⟨rfl,F2,k2⟩
  simp
  exact cont _ _ _ (X.call F2 k2)
theorem aw7(D:Dl l kd sn sc ct pa ty bo dp ge dr ch cl cm st mc co op re){Q:bp}(cont:∀ tm' hx aF,Fq f b l Hb nb tm' hx aF→Q .norm tm' hx aF)(X:Fq f b l Hb nb tm h nx):eu C Q jU tm h nx:=by
 have ll:=D.len
 have f4:l[4]=pa:=by have:=(Af (by omega:4<l.length)).symm.trans D.a4;simpa using this
 have hz:∀ n H,ax n pa H=(pa,H):=D.pa_.jh
 have q:=S.qA
 simp[jU,X.e0,X.e3,X.g,ll,q,f4,hz]
 refine(Zk S D.pa_ X.F).mono ?_
 rintro o h2 aH ⟨rfl,F2,k2⟩
 simp
 exact cont _ _ _ (X.call F2 k2)
theorem aw8(D:Dl l kd sn sc ct pa ty bo dp ge dr ch cl cm st mc co op re){Q:bp}(cont:∀ tm' hx aF,Fq f b l Hb nb tm' hx aF→Q .norm tm' hx aF)(X:Fq f b l Hb nb tm h nx):eu C Q jV tm h nx:=by
 have ll:=D.len
 have hz:∀ n H,az (ax n) ty H=(ty,H):=fun n H=>av D.ty_.bY
 have q:=S.eL
 simp[jV,X.e0,X.e3,X.g,ll,q,D.t5,hz]
 refine(Zl S D.ty_ X.F).mono ?_
 rintro o h2 aH ⟨rfl,F2,k2⟩
 simp
 exact cont _ _ _ (X.call F2 k2)
theorem aw9(D:Dl l kd sn sc ct pa ty bo dp ge dr ch cl cm st mc co op re){Q:bp}(cont:∀ tm' hx aF,Fq f b l Hb nb tm' hx aF→Q .norm tm' hx aF)(X:Fq f b l Hb nb tm h nx):eu C Q jW tm h nx:=by
 have ll:=D.len
 have hz:∀ n H,az (ax n) bo H=(bo,H):=fun n H=>av D.bo_.bY
 have q:=S.dT
 simp[jW,X.e0,X.e3,X.g,ll,q,D.t8,hz]
 refine(HZ S D.bo_ X.F).mono ?_
 rintro o h2 aH ⟨rfl,F2,k2⟩
 simp
 exact cont _ _ _ (X.call F2 k2)
theorem axa(D:Dl l kd sn sc ct pa ty bo dp ge dr ch cl cm st mc co op re){Q:bp}(cont:∀ tm' hx aF,Fq f b l Hb nb tm' hx aF→Q .norm tm' hx aF)(X:Fq f b l Hb nb tm h nx):eu C Q jX tm h nx:=by
 have ll:=D.len
 have f4:l[4]=pa:=by have:=(Af (by omega:4<l.length)).symm.trans D.a4;simpa using this
 have hz:∀ n H,ax n pa H=(pa,H):=D.pa_.jh
 have q:=S.qA
 simp[jX,X.e0,X.e3,X.g,ll,q,f4,hz]
 refine(Zk S D.pa_ X.F).mono ?_
 rintro o h2 aH ⟨rfl,F2,k2⟩
 simp
 exact cont _ _ _ (X.call F2 k2)
theorem axb(D:Dl l kd sn sc ct pa ty bo dp ge dr ch cl cm st mc co op re){Q:bp}(cont:∀ tm' hx aF,Fq f b l Hb nb tm' hx aF→Q .norm tm' hx aF)(X:Fq f b l Hb nb tm h nx):eu C Q jY tm h nx:=by
 have ll:=D.len
 have hz:∀ n H,az (ax n) ty H=(ty,H):=fun n H=>av D.ty_.bY
 have q:=S.eL
 simp[jY,X.e0,X.e3,X.g,ll,q,D.t5,hz]
 refine(Zl S D.ty_ X.F).mono ?_
 rintro o h2 aH ⟨rfl,F2,k2⟩
 simp
 exact cont _ _ _ (X.call F2 k2)
theorem axc(D:Dl l kd sn sc ct pa ty bo dp ge dr ch cl cm st mc co op re){Q:bp}(cont:∀ tm' hx aF,Fq f b l Hb nb tm' hx aF→Q .norm tm' hx aF)(X:Fq f b l Hb nb tm h nx):eu C Q jZ tm h nx:=by
 have ll:=D.len
 have f15:l[15]=I dp:=by have:=(Af (by omega:15<l.length)).symm.trans D.a15;simpa using this
 have q:=S.bl
 simp[jZ,X.e0,X.e3,X.g,ll,q,f15]
 refine(QP S X.F _ _).mono ?_
 rintro o h2 aH ⟨rfl,F2,k2⟩
 simp
 exact cont _ _ _ (X.call F2 k2)
theorem axd(D:Dl l kd sn sc ct pa ty bo dp ge dr ch cl cm st mc co op re){Q:bp}(cont:∀ tm' hx aF,Fq f b l Hb nb tm' hx aF→Q .norm tm' hx aF)(X:Fq f b l Hb nb tm h nx):eu C Q j7 tm h nx:=by
 have ll:=D.len
 have hz:∀ n H,az (ax n) ge H=(ge,H):=fun n H=>av D.ge_.bY
 have q:=S.Bo
 simp[j7,X.e0,X.e3,X.g,ll,q,D.t16,hz]
 refine(ahi S D.ge_ X.F).mono ?_
 rintro o h2 aH ⟨rfl,F2,k2⟩
 simp
 exact cont _ _ _ (X.call F2 k2)
theorem axe(D:Dl l kd sn sc ct pa ty bo dp ge dr ch cl cm st mc co op re){Q:bp}(cont:∀ tm' hx aF,Fq f b l Hb nb tm' hx aF→Q .norm tm' hx aF)(X:Fq f b l Hb nb tm h nx):eu C Q j8 tm h nx:=by
 have ll:=D.len
 have f22:l[22]=dr:=by have:=(Af (by omega:22<l.length)).symm.trans D.a22;simpa using this
 have hz:∀ n H,ax n dr H=(dr,H):=D.dr_.jh
 have q:=S.Bp
 simp[j8,X.e0,X.e3,X.g,ll,q,f22,hz]
 refine(ahh S D.dr_ _ X.F).mono ?_
 rintro o h2 aH ⟨rfl,F2,k2⟩
 simp
 exact cont _ _ _ (X.call F2 k2)
theorem axf(D:Dl l kd sn sc ct pa ty bo dp ge dr ch cl cm st mc co op re){Q:bp}(cont:∀ tm' hx aF,Fq f b l Hb nb tm' hx aF→Q .norm tm' hx aF)(X:Fq f b l Hb nb tm h nx):eu C Q j9 tm h nx:=by
 have ll:=D.len
 have f23:l[23]=ch:=by have:=(Af (by omega:23<l.length)).symm.trans D.a23;simpa using this
 have hz:∀ n H,ax n ch H=(ch,H):=D.ch_.jh
 have q:=S.yu
 simp[j9,X.e0,X.e3,X.g,ll,q,f23,hz]
 refine(adB S D.ch_ X.F).mono ?_
 rintro o h2 aH ⟨rfl,F2,k2⟩
 simp
 exact cont _ _ _ (X.call F2 k2)
theorem axg(D:Dl l kd sn sc ct pa ty bo dp ge dr ch cl cm st mc co op re){Q:bp}(cont:∀ tm' hx aF,Fq f b l Hb nb tm' hx aF→Q .norm tm' hx aF)(X:Fq f b l Hb nb tm h nx):eu C Q kc tm h nx:=by
 have ll:=D.len
 have f24:l[24]=cl:=by have:=(Af (by omega:24<l.length)).symm.trans D.a24;simpa using this
 have hz:∀ n H,ax n cl H=(cl,H):=D.cl_.jh
 have q:=S.yu
 simp[kc,X.e0,X.e3,X.g,ll,q,f24,hz]
 refine(adB S D.cl_ X.F).mono ?_
 rintro o h2 aH ⟨rfl,F2,k2⟩
 simp
 exact cont _ _ _ (X.call F2 k2)
theorem axh(D:Dl l kd sn sc ct pa ty bo dp ge dr ch cl cm st mc co op re){Q:bp}(cont:∀ tm' hx aF,Fq f b l Hb nb tm' hx aF→Q .norm tm' hx aF)(X:Fq f b l Hb nb tm h nx):eu C Q gL tm h nx:=by
 have ll:=D.len
 have f25:l[25]=cm:=by have:=(Af (by omega:25<l.length)).symm.trans D.a25;simpa using this
 rcases Dt D.cm_ with hx|⟨L,n,z,hx,_⟩
 ·have _u:=0
  have q:=S.aq
  simp[gL,X.e0,X.e3,X.g,ll,q,f25,hx]
  refine(gV S X.F _).mono ?_
  rintro o h2 aH ⟨rfl,F2,k2⟩
  simp
  exact cont _ _ _ (X.call F2 k2)
 ·have _u:=0
  have q:=S.aq
  simp[gL,X.e0,X.e3,X.g,ll,q,f25,hx]
  refine(gV S X.F _).mono ?_
  rintro o h2 aH ⟨rfl,F2,k2⟩
  simp
  exact cont _ _ _ (X.call F2 k2)
theorem axi(D:Dl l kd sn sc ct pa ty bo dp ge dr ch cl cm st mc co op re){Q:bp}(cont:∀ tm' hx aF,Fq f b l Hb nb tm' hx aF→Q .norm tm' hx aF)(X:Fq f b l Hb nb tm h nx):eu C Q kh tm h nx:=by
 have ll:=D.len
 have hz:∀ n H,az (ax n) st H=(st,H):=fun n H=>av D.st_.bY
 have q:=S.eL
 simp[kh,X.e0,X.e3,X.g,ll,q,D.t26,hz]
 refine(Zl S D.st_ X.F).mono ?_
 rintro o h2 aH ⟨rfl,F2,k2⟩
 simp
 exact cont _ _ _ (X.call F2 k2)
theorem axj(D:Dl l kd sn sc ct pa ty bo dp ge dr ch cl cm st mc co op re){Q:bp}(cont:∀ tm' hx aF,Fq f b l Hb nb tm' hx aF→Q .norm tm' hx aF)(X:Fq f b l Hb nb tm h nx):eu C Q ki tm h nx:=by
 have ll:=D.len
 have hz:∀ n H,az (ax n) mc H=(mc,H):=fun n H=>av D.RA.bY
 have q:=S.dT
 simp[ki,X.e0,X.e3,X.g,ll,q,D.t29,hz]
 refine(HZ S D.RA X.F).mono ?_
 rintro o h2 aH ⟨rfl,F2,k2⟩
 simp
 exact cont _ _ _ (X.call F2 k2)
theorem axk(D:Dl l kd sn sc ct pa ty bo dp ge dr ch cl cm st mc co op re){Q:bp}(cont:∀ tm' hx aF,Fq f b l Hb nb tm' hx aF→Q .norm tm' hx aF)(X:Fq f b l Hb nb tm h nx):eu C Q gO tm h nx:=by
 have ll:=D.len
 have f36:l[36]=co:=by have:=(Af (by omega:36<l.length)).symm.trans D.a36;simpa using this
 rcases Dt D.co_ with hx|⟨L,n,z,hx,_⟩
 ·have _u:=0
  have q:=S.aq
  simp[gO,X.e0,X.e3,X.g,ll,q,f36,hx]
  refine(gV S X.F _).mono ?_
  rintro o h2 aH ⟨rfl,F2,k2⟩
  simp
  exact cont _ _ _ (X.call F2 k2)
 ·have _u:=0
  have q:=S.aq
  simp[gO,X.e0,X.e3,X.g,ll,q,f36,hx]
  refine(gV S X.F _).mono ?_
  rintro o h2 aH ⟨rfl,F2,k2⟩
  simp
  exact cont _ _ _ (X.call F2 k2)
theorem axl(D:Dl l kd sn sc ct pa ty bo dp ge dr ch cl cm st mc co op re){Q:bp}(cont:∀ tm' hx aF,Fq f b l Hb nb tm' hx aF→Q .norm tm' hx aF)(X:Fq f b l Hb nb tm h nx):eu C Q ko tm h nx:=by
 have ll:=D.len
 have hz:∀ n H,az (ax n) st H=(st,H):=fun n H=>av D.st_.bY
 have q:=S.eL
 simp[ko,X.e0,X.e3,X.g,ll,q,D.t26,hz]
 refine(Zl S D.st_ X.F).mono ?_
 rintro o h2 aH ⟨rfl,F2,k2⟩
 simp
 exact cont _ _ _ (X.call F2 k2)
theorem axm(D:Dl l kd sn sc ct pa ty bo dp ge dr ch cl cm st mc co op re){Q:bp}(cont:∀ tm' hx aF,Fq f b l Hb nb tm' hx aF→Q .norm tm' hx aF)(X:Fq f b l Hb nb tm h nx):eu C Q kq tm h nx:=by
 have ll:=D.len
 have hz:∀ n H,az (ax n) mc H=(mc,H):=fun n H=>av D.RA.bY
 have q:=S.dT
 simp[kq,X.e0,X.e3,X.g,ll,q,D.t29,hz]
 refine(HZ S D.RA X.F).mono ?_
 rintro o h2 aH ⟨rfl,F2,k2⟩
 simp
 exact cont _ _ _ (X.call F2 k2)
theorem axn(D:Dl l kd sn sc ct pa ty bo dp ge dr ch cl cm st mc co op re){Q:bp}(cont:∀ tm' hx aF,Fq f b l Hb nb tm' hx aF→Q .norm tm' hx aF)(X:Fq f b l Hb nb tm h nx):eu C Q kr tm h nx:=by
 have ll:=D.len
 have hz:∀ n H,az (ax n) re H=(re,H):=fun n H=>av D.re_.bY
 have q:=S.dT
 simp[kr,X.e0,X.e3,X.g,ll,q,D.t38,hz]
 refine(HZ S D.re_ X.F).mono ?_
 rintro o h2 aH ⟨rfl,F2,k2⟩
 simp
 exact cont _ _ _ (X.call F2 k2)
theorem axo(D:Dl l kd sn sc ct pa ty bo dp ge dr ch cl cm st mc co op re){Q:bp}(cont:∀ tm' hx aF,Fq f b l Hb nb tm' hx aF→Q .norm tm' hx aF)(X:Fq f b l Hb nb tm h nx):eu C Q gQ tm h nx:=by
 have ll:=D.len
 have f37:l[37]=op:=by have:=(Af (by omega:37<l.length)).symm.trans D.a37;simpa using this
 rcases Dt D.op_ with hx|⟨L,n,z,hx,_⟩
 ·have _u:=0
  have q:=S.aq
  simp[gQ,X.e0,X.e3,X.g,ll,q,f37,hx]
  refine(gV S X.F _).mono ?_
  rintro o h2 aH ⟨rfl,F2,k2⟩
  simp
  exact cont _ _ _ (X.call F2 k2)
 ·have _u:=0
  have q:=S.aq
  simp[gQ,X.e0,X.e3,X.g,ll,q,f37,hx]
  refine(gV S X.F _).mono ?_
  rintro o h2 aH ⟨rfl,F2,k2⟩
  simp
  exact cont _ _ _ (X.call F2 k2)
end Tb
/-
 SU: the reference's faults of a declaration: loops over constructors, claims. No condition.
-/
namespace Tb
open Go.Sx Go
def FqI(i0:Nat)(f b:Key)(l:List AV)(Hb:T ab)(nb:Key)(n:Nat)(k:Nat)(tm:T AV)(h:T ab)(nx:Key):Prop:=
 ∃ i:Nat,k=n-i∧i≤n∧aa (K i0) tm=some (I i)∧Fq f b l Hb nb tm h nx
def FqJ(i0 i j0:Nat)(f b:Key)(l:List AV)(Hb:T ab)(nb:Key)(n:Nat)(k:Nat)(tm:T AV)(h:T ab)(nx:Key):Prop:=
 ∃ j:Nat,k=n-j∧j≤n∧aa (K i0) tm=some (I i)∧aa (K j0) tm=some (I j)∧Fq f b l Hb nb tm h nx
theorem cl3{l:List AV}(h:cJ W0 [.str,.int,.int] l):∃ sn sc a b,l=[.str sn sc,I a,I b]∧sn≤10000:=by
 cases h with
 |cons _ _ c1 _ h1 h=>
  cases h with
  |cons _ _ c2 _ h2 h=>
   cases h with
   |cons _ _ c3 _ h3 h=>
    cases h
    obtain⟨sn,sc,rfl,hn⟩:=tK h1
    obtain⟨a,rfl,_⟩:=sy h2
    obtain⟨b,rfl,_⟩:=sy h3
    exact⟨sn,sc,a,b,rfl,hn⟩
theorem ct2{l:List AV}(h:cJ W0 [.str,.sl 3] l):∃ sn sc a,l=[.str sn sc,a]∧sn≤10000∧dg W0 (.sl 3) a:=by
 cases h with
 |cons _ _ c1 _ h1 h=>
  cases h with
  |cons _ _ c2 _ h2 h=>
   cases h
   obtain⟨sn,sc,rfl,hn⟩:=tK h1
   exact⟨sn,sc,c2,rfl,hn,h2⟩
variable{C:cU}(S:dd C)
include S
variable{f b:Key}{l:List AV}{kd:Int}{sn sc:Nat}{ct pa:AV}{ty bo:List AV}{dp:Int}{ge:List AV}{dr ch cl cm:AV}{st mc:List AV}{co op:AV}{re:List AV}{Hb h:T ab}{nb nx:Key}{tm:T AV}
theorem aGw(D:Dl l kd sn sc ct pa ty bo dp ge dr ch cl cm st mc co op re){Q:bp}(cont:∀ tm' hx aF,Fq f b l Hb nb tm' hx aF→Q .norm tm' hx aF)(X:Fq f b l Hb nb tm h nx):bt C ((U.ops ke).seq (U.block 5 (U.loop lH))) Q tm h nx:=by
 have ll:=D.len
 have f25:l[25]=cm:=by have:=(Af (by omega:25<l.length)).symm.trans D.a25;simpa using this
 have q1:=S.ar
 have q2:=S.bl
 have oc:=D.cm_
 clear D
 simp
 simp[ke]
 refine W.bV (n:=bP cm) (FqI 6 f b l Hb nb (bP cm)) ?_ ?_
 ·exact⟨0,by omega,by omega,by simp,X.aQ (by simp) (by simp)⟩
 rintro k jk h1 aY ⟨i,rfl,hi,e6,X1⟩
 refine W.of ?_
 simp[lH]
 rcases dU oc with rfl|⟨rs,rfl,kQ,jG⟩
 ·have BC:i=0:=by simp[bP] at hi;omega
  subst BC
  simp[kg,X1.e3,X1.g,ll,f25,e6]
  exact cont _ _ _ (X1.aQ)
 ·simp[bP] at hi ⊢
  by_cases aM:i<rs.length
  ·have aX:(i:Int)<rs.length:=by omega
   have hw:=jH aM kQ
   obtain⟨r,hr,er,h3,lX,se,hz⟩:=kR (z:=3) rfl jG aM
   obtain⟨sn',sc',a,b',rfl,sf⟩:=cl3 lX
   have ez:(W0 10).length=3:=rfl
   rw[ez] at f25
   generalize rs.flatten=L at f25 er h3
   simp[kg,X1.e3,X1.g,ll,f25,e6,aX]
   simp[xU,X1.e0,X1.e3,X1.g,ll,f25,e6,aM,h3,er,q1]
   refine(iS S X1.F sf 0).mono ?_
   rintro o h2 aH ⟨rfl,F2,k2⟩
   have g2:=bH k2 X1.hb X1.ne X1.g
   simp
   simp[xV,X1.e0,X1.e3,g2,ll,f25,e6,aM,h3,er,q2]
   refine(QP S F2 _ _).mono ?_
   rintro o h4 jq ⟨rfl,F4,k4⟩
   have k4':=k2.trans k4
   have g4:=bH k4' X1.hb X1.ne X1.g
   simp
   simp[xW,X1.e0,X1.e3,g4,ll,f25,e6,aM,h3,er,q2]
   refine(QP S F4 _ _).mono ?_
   rintro o h5 iW ⟨rfl,F5,k5⟩
   simp
   simp[xX,e6]
   refine⟨rs.length-(i+1),by omega,?_⟩
   unfold FqI
   exact⟨i+1,rfl,by omega,by simp[hw],X1.call F5 (k4'.trans k5) (by simp) (by simp)⟩
  ·have aX:¬ (i:Int)<rs.length:=by omega
   generalize rs.flatten=L at f25
   simp[kg,X1.e3,X1.g,ll,f25,e6,aX]
   exact cont _ _ _ (X1.aQ)
theorem aHJ{rs:List (List AV)}{i:Nat}{sn' sc':Nat}{a:AV}{L:List AV}(ll:l.length=45)(f3:l[3]=.sl L rs.length 2 .any)(aM:i<rs.length)(h3:2≤L.length-i*2)(er:List.take 2 (List.drop (i*2) L)=[.str sn' sc',a])(oa:dg W0 (.sl 3) a)
  {Q:bp} (cont:∀ tm' hx aF,aa (K 4) tm'=some (I i)→Fq f b l Hb nb tm' hx aF→Q .norm tm' hx aF) (e4:aa (K 4) tm=some (I i)) (X:Fq f b l Hb nb tm h nx):bt C ((U.ops p6).seq (U.block 3 (U.loop rO))) Q tm h nx:=by
 have q1:=S.eL
 have aX:(i:Int)<rs.length:=by omega
 simp
 simp[p6]
 refine W.bV (n:=bP a) (FqJ 4 i 5 f b l Hb nb (bP a)) ?_ ?_
 ·exact⟨0,by omega,by omega,by simp[e4],by simp,X.aQ (by simp) (by simp)⟩
 clear e4
 rintro k jk h1 aY ⟨j,rfl,hj,e4,e5,X1⟩
 refine W.of ?_
 simp[rO]
 rcases dU oa with rfl|⟨qs,rfl,hqs,oqs⟩
 ·have BC:j=0:=by simp[bP] at hj;omega
  subst BC
  simp[jS,X1.e3,X1.g,ll,f3,e4,e5,aM,h3,er]
  exact cont _ _ _ (by simp[e4]) (X1.aQ)
 ·simp[bP] at hj ⊢
  by_cases hjt:j<qs.length
  ·have agz:(j:Int)<qs.length:=by omega
   have hw:=jH hjt hqs
   obtain⟨r,hr,er2,h32,lX,se,hz⟩:=kR (z:=3) rfl oqs hjt
   have ez:(W0 3).length=3:=rfl
   rw[ez] at er
   generalize qs.flatten=M at er er2 h32
   simp[jS,X1.e3,X1.g,ll,f3,e4,e5,aM,h3,er,agz]
   simp[xS,X1.e0,X1.e3,X1.g,ll,f3,e4,e5,aM,h3,er,hjt,h32,er2,se,sh se,hz,q1]
   refine(Zl S lX X1.F).mono ?_
   rintro o h2 aH ⟨rfl,F2,k2⟩
   simp
   simp[xT,e5]
   refine⟨qs.length-(j+1),by omega,?_⟩
   unfold FqJ
   exact⟨j+1,rfl,by omega,by simp[e4],by simp[hw],X1.call F2 k2 (by simp) (by simp)⟩
  ·have agz:¬ (j:Int)<qs.length:=by omega
   generalize qs.flatten=M at er
   simp[jS,X1.e3,X1.g,ll,f3,e4,e5,aM,h3,er,agz]
   exact cont _ _ _ (by simp[e4]) (X1.aQ)
theorem aGv(D:Dl l kd sn sc ct pa ty bo dp ge dr ch cl cm st mc co op re){Q:bp}(cont:∀ tm' hx aF,Fq f b l Hb nb tm' hx aF→Q .norm tm' hx aF)(X:Fq f b l Hb nb tm h nx):bt C ((U.ops lz).seq (U.block 1 (U.loop lG))) Q tm h nx:=by
 have ll:=D.len
 have f3:l[3]=ct:=by have:=(Af (by omega:3<l.length)).symm.trans D.a3;simpa using this
 have q1:=S.ar
 have q2:=S.aq
 have oc:=D.ct_
 clear D
 simp
 simp[lz]
 refine W.bV (n:=bP ct) (FqI 4 f b l Hb nb (bP ct)) ?_ ?_
 ·exact⟨0,by omega,by omega,by simp,X.aQ (by simp) (by simp)⟩
 rintro k jk h1 aY ⟨i,rfl,hi,e4,X1⟩
 refine W.of ?_
 simp[lG]
 rcases dU oc with rfl|⟨rs,rfl,kQ,jG⟩
 ·have BC:i=0:=by simp[bP] at hi;omega
  subst BC
  simp[jR,X1.e3,X1.g,ll,f3,e4]
  exact cont _ _ _ (X1.aQ)
 ·simp[bP] at hi ⊢
  by_cases aM:i<rs.length
  ·have aX:(i:Int)<rs.length:=by omega
   have hw:=jH aM kQ
   obtain⟨r,hr,er,h3,lX,se,hz⟩:=kR (z:=2) rfl jG aM
   obtain⟨sn',sc',a,rfl,sf,oa⟩:=ct2 lX
   have ez:(W0 8).length=2:=rfl
   rw[ez] at f3
   generalize rs.flatten=L at f3 er h3
   have nxt:∀ (tm':T AV) (hx:T ab) (aF:Key),aa (K 4) tm'=some (I i)→Fq f b l Hb nb tm' hx aF→
     eu C (ak (fun tm KT ns=>∃ m,m<rs.length-i∧FqI 4 f b l Hb nb rs.length m tm KT ns) (ai 1 Q)) jT tm' hx aF:=by
    intro tm' hx aF e4 X4
    simp[jT,e4]
    refine⟨rs.length-(i+1),by omega,?_⟩
    unfold FqI
    exact⟨i+1,rfl,by omega,by simp[hw],X4.aQ (by simp) (by simp)⟩
   simp[jR,X1.e3,X1.g,ll,f3,e4,aX]
   simp[xR,X1.e0,X1.e3,X1.g,ll,f3,e4,aM,h3,er,q1]
   refine(iS S X1.F sf 1).mono ?_
   rintro o h2 aH ⟨rfl,F2,k2⟩
   have g2:=bH k2 X1.hb X1.ne X1.g
   have inner:=fun(tm':T AV) (hx:T ab) (aF:Key) (e4:aa (K 4) tm'=some (I i)) (X4:Fq f b l Hb nb tm' hx aF)=>aHJ (C:=C) (Q:=ai 2 (ak (bt C (U.ops jT) (ak (fun tm KT ns=>∃ m,m<rs.length-i∧FqI 4 f b l Hb nb rs.length m tm KT ns) (ai 1 Q))) (ak (fun tm KT ns=>∃ m,m<rs.length-i∧FqI 4 f b l Hb nb rs.length m tm KT ns) (ai 1 Q)))) S ll f3 aM h3 er oa nxt e4 X4
   simp
   rcases dU oa with rfl|⟨qs,rfl,hqs,oqs⟩
   ·simp[pZ,X1.e0,X1.e3,g2,ll,f3,e4,aM,h3,er,q2]
    refine(gV S F2 _).mono ?_
    rintro o h4 jq ⟨rfl,F4,k4⟩
    simp
    exact inner _ _ _ (by simp[e4]) (X1.call F4 (k2.trans k4))
   ·generalize qs.flatten=M at er
    simp[pZ,X1.e0,X1.e3,g2,ll,f3,e4,aM,h3,er,q2]
    refine(gV S F2 _).mono ?_
    rintro o h4 jq ⟨rfl,F4,k4⟩
    simp
    exact inner _ _ _ (by simp[e4]) (X1.call F4 (k2.trans k4))
  ·have aX:¬ (i:Int)<rs.length:=by omega
   generalize rs.flatten=L at f3
   simp[jR,X1.e3,X1.g,ll,f3,e4,aX]
   exact cont _ _ _ (X1.aQ)
end Tb
/-
 SU: the reference's faults of a declaration: loops over commands, operations. No condition.
-/
namespace Tb
open Go.Sx Go
theorem av3{r:List AV}(h:cJ W0 (W0 11) r):∃ sn sc d x y z,r[0]?=some (.str sn sc)∧r[1]?=some d∧List.take 7 (List.drop 2 r)=x∧List.take 7 (List.drop 9 r)=y∧List.take 7 (List.drop 16 r)=z∧sn≤10000∧dg W0 (.sl 7) d∧cJ W0 sj x∧cJ W0 sj y∧cJ W0 sj z:=by
 obtain⟨c0,e0,o0⟩:=h.get (i:=0) rfl
 obtain⟨sn,sc,rfl,sf⟩:=tK o0
 obtain⟨c1,e1,o1⟩:=h.get (i:=1) rfl
 exact⟨sn,sc,c1,_,_,_,e0,e1,rfl,rfl,rfl,sf,o1,iu 7 (gn 2 h),iu 7 (gn 9 h),iu 7 (gn 16 h)⟩
theorem op3{l:List AV}(h:cJ W0 [.str,.sl 6,.sl 13] l):∃ sn sc p a,l=[.str sn sc,p,a]∧sn≤10000∧dg W0 (.sl 6) p∧dg W0 (.sl 13) a:=by
 cases h with
 |cons _ _ c1 _ h1 h=>
  cases h with
  |cons _ _ c2 _ h2 h=>
   cases h with
   |cons _ _ c3 _ h3 h=>
    cases h
    obtain⟨sn,sc,rfl,hn⟩:=tK h1
    exact⟨sn,sc,c2,c3,rfl,hn,h2,h3⟩
variable{C:cU}(S:dd C)
include S
variable{f b:Key}{l:List AV}{kd:Int}{sn sc:Nat}{ct pa:AV}{ty bo:List AV}{dp:Int}{ge:List AV}{dr ch cl cm:AV}{st mc:List AV}{co op:AV}{re:List AV}{Hb h:T ab}{nb nx:Key}{tm:T AV}
theorem ayf{e:Key}{r:List AV}(lX:cJ W0 (W0 11) r){i:Nat}{Q:bp}(cont:∀ tm' hx aF,aa (K 7) tm'=some (I i)→Fq f b l Hb nb tm' hx aF→Q .norm tm' hx aF)(e7:aa (K 7) tm=some (I i))(e8:aa (K 8) tm=some (.ptr e 0))(ge_:aa e h=some (.cells r .fix))(he:e.toNat<nx.toNat)(hef:e≠f)(X:Fq f b l Hb nb tm h nx) :
  bt C ((U.ops p7).seq ((U.ops p8).seq ((U.ops p9).seq ((U.ops qb).seq (U.ops qc))))) Q tm h nx:=by
 have q1:=S.ar
 have q2:=S.Bp
 have q3:=S.dT
 obtain⟨sn',sc',d,x,y,z,a0,a1,t2,t9,t16,sf,od,ox,oy,oz⟩:=av3 lX
 have lr:r.length=23:=lX.len
 have f0:r[0]=.str sn' sc':=by have:=(Af (by omega:0<r.length)).symm.trans a0;simpa using this
 have f1:r[1]=d:=by have:=(Af (by omega:1<r.length)).symm.trans a1;simpa using this
 have zd:∀ n H,ax n d H=(d,H):=od.jh
 have zx:∀ n H,az (ax n) x H=(x,H):=fun n H=>av ox.bY
 have zy:∀ n H,az (ax n) y H=(y,H):=fun n H=>av oy.bY
 have zz:∀ n H,az (ax n) z H=(z,H):=fun n H=>av oz.bY
 clear a0 a1
 simp
 simp[p7,X.e0,e8,ge_,lr,f0,q1]
 refine(iS S X.F sf 0).mono ?_
 rintro o h2 aH ⟨rfl,F2,k2⟩
 have g2:=bH k2 he hef ge_
 simp
 simp[p8,X.e0,e8,g2,lr,f1,zd,q2]
 refine(ahh S od true F2).mono ?_
 rintro o h3 dw ⟨rfl,F3,k3⟩
 have k3:=k2.trans k3
 have g3:=bH k3 he hef ge_
 simp
 simp[p9,X.e0,e8,g3,lr,t2,zx,q3]
 refine(HZ S ox F3).mono ?_
 rintro o h4 jq ⟨rfl,F4,k4⟩
 have k4:=k3.trans k4
 have g4:=bH k4 he hef ge_
 simp
 simp[qb,X.e0,e8,g4,lr,t9,zy,q3]
 refine(HZ S oy F4).mono ?_
 rintro o h5 iW ⟨rfl,F5,k5⟩
 have k5:=k4.trans k5
 have g5:=bH k5 he hef ge_
 simp
 simp[qc,X.e0,e8,g5,lr,t16,zz,q3]
 refine(HZ S oz F5).mono ?_
 rintro o h6 IC ⟨rfl,F6,k6⟩
 simp
 exact cont _ _ _ (by simp[e7]) (X.call F6 (k5.trans k6))
theorem aGx(D:Dl l kd sn sc ct pa ty bo dp ge dr ch cl cm st mc co op re){Q:bp}(cont:∀ tm' hx aF,Fq f b l Hb nb tm' hx aF→Q .norm tm' hx aF)(X:Fq f b l Hb nb tm h nx):bt C ((U.ops kj).seq (U.block 7 (U.loop lI))) Q tm h nx:=by
 have ll:=D.len
 have f36:l[36]=co:=by have:=(Af (by omega:36<l.length)).symm.trans D.a36;simpa using this
 have oc:=D.co_
 clear D
 simp
 simp[kj]
 refine W.bV (n:=bP co) (FqI 7 f b l Hb nb (bP co)) ?_ ?_
 ·exact⟨0,by omega,by omega,by simp,X.aQ (by simp) (by simp)⟩
 rintro k jk h1 aY ⟨i,rfl,hi,e7,X1⟩
 refine W.of ?_
 simp[lI]
 rcases dU oc with rfl|⟨rs,rfl,kQ,jG⟩
 ·have BC:i=0:=by simp[bP] at hi;omega
  subst BC
  simp[kl,X1.e3,X1.g,ll,f36,e7]
  exact cont _ _ _ (X1.aQ)
 ·simp[bP] at hi ⊢
  by_cases aM:i<rs.length
  ·have aX:(i:Int)<rs.length:=by omega
   have hw:=jH aM kQ
   obtain⟨r,hr,er,h3,lX,se,hz⟩:=kR (z:=23) rfl jG aM
   have hcr:r.all AV.aD=true:=mi.2 lX.aU
   have ez:(W0 11).length=23:=rfl
   rw[ez] at f36
   generalize rs.flatten=L at f36 er h3
   have nxt:∀ (tm':T AV) (hx:T ab) (aF:Key),aa (K 7) tm'=some (I i)→Fq f b l Hb nb tm' hx aF→
     eu C (ak (fun tm KT ns=>∃ m,m<rs.length-i∧FqI 7 f b l Hb nb rs.length m tm KT ns) (ai 7 Q)) km tm' hx aF:=by
    intro tm' hx aF e4 X4
    simp[km,e4]
    refine⟨rs.length-(i+1),by omega,?_⟩
    unfold FqI
    exact⟨i+1,rfl,by omega,by simp[hw],X4.aQ (by simp) (by simp)⟩
   simp[kl,X1.e3,X1.g,ll,f36,e7,aX]
   simp[xY,X1.e3,X1.g,ll,f36,e7,aM,h3,er,se,hcr,sh se]
   have s1:=kTSu aY
   have x1:=E0 h1 aY (.cells r .fix)
   refine ayf (e:=aY) S lX (Q:=ai 8 (ak (bt C (U.ops km) (ak (fun tm KT ns=>∃ m,m<rs.length-i∧FqI 7 f b l Hb nb rs.length m tm KT ns) (ai 7 Q))) (ak (fun tm KT ns=>∃ m,m<rs.length-i∧FqI 7 f b l Hb nb rs.length m tm KT ns) (ai 7 Q)))) nxt ?_ ?_ (by rw[gTSm]) (by omega) (aG (by have:=X1.F.hi;omega)) (X1.call (X1.F.ext x1) (x1.ks f) ?_ ?_)<;>simp[e7]
  ·have aX:¬ (i:Int)<rs.length:=by omega
   generalize rs.flatten=L at f36
   simp[kl,X1.e3,X1.g,ll,f36,e7,aX]
   exact cont _ _ _ (X1.aQ)
theorem aHt{rs:List (List AV)}{i:Nat}{sn' sc':Nat}{p a:AV}{L:List AV}(ll:l.length=45)(f37:l[37]=.sl L rs.length 3 .any)(aM:i<rs.length)(h3:3≤L.length-i*3)(er:List.take 3 (List.drop (i*3) L)=[.str sn' sc',p,a])(oa:dg W0 (.sl 13) a)
  {Q:bp} (cont:∀ tm' hx aF,aa (K 9) tm'=some (I i)→Fq f b l Hb nb tm' hx aF→Q .norm tm' hx aF) (e9:aa (K 9) tm=some (I i)) (X:Fq f b l Hb nb tm h nx):bt C ((U.ops qf).seq (U.block 11 (U.loop rP))) Q tm h nx:=by
 have q1:=S.dT
 have aX:(i:Int)<rs.length:=by omega
 simp
 simp[qf]
 refine W.bV (n:=bP a) (FqJ 9 i 10 f b l Hb nb (bP a)) ?_ ?_
 ·exact⟨0,by omega,by omega,by simp[e9],by simp,X.aQ (by simp) (by simp)⟩
 clear e9
 rintro k jk h1 aY ⟨j,rfl,hj,e9,Ld,X1⟩
 refine W.of ?_
 simp[rP]
 rcases dU oa with rfl|⟨qs,rfl,hqs,oqs⟩
 ·have BC:j=0:=by simp[bP] at hj;omega
  subst BC
  simp[kI,X1.e3,X1.g,ll,f37,e9,Ld,aM,h3,er]
  exact cont _ _ _ (by simp[e9]) (X1.aQ)
 ·simp[bP] at hj ⊢
  by_cases hjt:j<qs.length
  ·have agz:(j:Int)<qs.length:=by omega
   have hw:=jH hjt hqs
   obtain⟨r,hr,er2,h32,lX,se,hz⟩:=kR (z:=14) rfl oqs hjt
   have ez:(W0 13).length=14:=rfl
   rw[ez] at er
   obtain⟨x,y,rfl,ox,oy⟩:=cJ.parts (ts:=sj) (us:=sj) lX
   have lx:x.length=7:=ox.len
   have ly:y.length=7:=oy.len
   have zx:∀ n H,az (ax n) x H=(x,H):=fun n H=>av ox.bY
   have zy:∀ n H,az (ax n) y H=(y,H):=fun n H=>av oy.bY
   generalize qs.flatten=M at er er2 h32
   simp[kI,X1.e3,X1.g,ll,f37,e9,Ld,aM,h3,er,agz]
   simp[yb,X1.e0,X1.e3,X1.g,ll,f37,e9,Ld,aM,h3,er,hjt,h32,er2,lx,ly,zqq,zx,q1]
   refine(HZ S ox X1.F).mono ?_
   rintro o h2 aH ⟨rfl,F2,k2⟩
   have g2:=bH k2 X1.hb X1.ne X1.g
   simp
   simp[yc,X1.e0,X1.e3,g2,ll,f37,e9,Ld,aM,h3,er,hjt,h32,er2,lx,ly,sh ly,zy,q1]
   refine(HZ S oy F2).mono ?_
   rintro o h4 jq ⟨rfl,F4,k4⟩
   simp
   simp[yd,Ld]
   refine⟨qs.length-(j+1),by omega,?_⟩
   unfold FqJ
   exact⟨j+1,rfl,by omega,by simp[e9],by simp[hw],X1.call F4 (k2.trans k4) (by simp) (by simp)⟩
  ·have agz:¬ (j:Int)<qs.length:=by omega
   generalize qs.flatten=M at er
   simp[kI,X1.e3,X1.g,ll,f37,e9,Ld,aM,h3,er,agz]
   exact cont _ _ _ (by simp[e9]) (X1.aQ)
theorem aGy(D:Dl l kd sn sc ct pa ty bo dp ge dr ch cl cm st mc co op re){Q:bp}(cont:∀ tm' hx aF,Fq f b l Hb nb tm' hx aF→Q .norm tm' hx aF)(X:Fq f b l Hb nb tm h nx):bt C ((U.ops ku).seq (U.block 9 (U.loop lK))) Q tm h nx:=by
 have ll:=D.len
 have f37:l[37]=op:=by have:=(Af (by omega:37<l.length)).symm.trans D.a37;simpa using this
 have q1:=S.ar
 have q2:=S.aq
 have q3:=S.qA
 have oc:=D.op_
 clear D
 simp
 simp[ku]
 refine W.bV (n:=bP op) (FqI 9 f b l Hb nb (bP op)) ?_ ?_
 ·exact⟨0,by omega,by omega,by simp,X.aQ (by simp) (by simp)⟩
 rintro k jk h1 aY ⟨i,rfl,hi,e9,X1⟩
 refine W.of ?_
 simp[lK]
 rcases dU oc with rfl|⟨rs,rfl,kQ,jG⟩
 ·have BC:i=0:=by simp[bP] at hi;omega
  subst BC
  simp[kz,X1.e3,X1.g,ll,f37,e9]
  exact cont _ _ _ (X1.aQ)
 ·simp[bP] at hi ⊢
  by_cases aM:i<rs.length
  ·have aX:(i:Int)<rs.length:=by omega
   have hw:=jH aM kQ
   obtain⟨r,hr,er,h3,lX,se,hz⟩:=kR (z:=3) rfl jG aM
   obtain⟨sn',sc',p,a,rfl,sf,op',oa⟩:=op3 lX
   have zp:∀ n H,ax n p H=(p,H):=op'.jh
   have ez:(W0 12).length=3:=rfl
   rw[ez] at f37
   generalize rs.flatten=L at f37 er h3
   have nxt:∀ (tm':T AV) (hx:T ab) (aF:Key),aa (K 9) tm'=some (I i)→Fq f b l Hb nb tm' hx aF→
     eu C (ak (fun tm KT ns=>∃ m,m<rs.length-i∧FqI 9 f b l Hb nb rs.length m tm KT ns) (ai 9 Q)) kJ tm' hx aF:=by
    intro tm' hx aF e4 X4
    simp[kJ,e4]
    refine⟨rs.length-(i+1),by omega,?_⟩
    unfold FqI
    exact⟨i+1,rfl,by omega,by simp[hw],X4.aQ (by simp) (by simp)⟩
   have inner:=fun(tm':T AV) (hx:T ab) (aF:Key) (e4:aa (K 9) tm'=some (I i)) (X4:Fq f b l Hb nb tm' hx aF)=>aHt (C:=C) (Q:=ai 10 (ak (bt C (U.ops kJ) (ak (fun tm KT ns=>∃ m,m<rs.length-i∧FqI 9 f b l Hb nb rs.length m tm KT ns) (ai 9 Q))) (ak (fun tm KT ns=>∃ m,m<rs.length-i∧FqI 9 f b l Hb nb rs.length m tm KT ns) (ai 9 Q)))) S ll f37 aM h3 er oa nxt e4 X4
   simp[kz,X1.e3,X1.g,ll,f37,e9,aX]
   simp[xZ,X1.e0,X1.e3,X1.g,ll,f37,e9,aM,h3,er,q1]
   refine(iS S X1.F sf 0).mono ?_
   rintro o h2 aH ⟨rfl,F2,k2⟩
   have g2:=bH k2 X1.hb X1.ne X1.g
   simp
   simp[ya,X1.e0,X1.e3,g2,ll,f37,e9,aM,h3,er,zp,q3]
   refine(Zk S op' F2).mono ?_
   rintro o h4 jq ⟨rfl,F4,k4⟩
   have k4:=k2.trans k4
   have g4:=bH k4 X1.hb X1.ne X1.g
   simp
   rcases dU oa with rfl|⟨qs,rfl,hqs,oqs⟩
   ·simp[qd,X1.e0,X1.e3,g4,ll,f37,e9,aM,h3,er,q2]
    refine(gV S F4 _).mono ?_
    rintro o h5 iW ⟨rfl,F5,k5⟩
    simp
    exact inner _ _ _ (by simp[e9]) (X1.call F5 (k4.trans k5))
   ·generalize qs.flatten=M at er
    simp[qd,X1.e0,X1.e3,g4,ll,f37,e9,aM,h3,er,q2]
    refine(gV S F4 _).mono ?_
    rintro o h5 iW ⟨rfl,F5,k5⟩
    simp
    exact inner _ _ _ (by simp[e9]) (X1.call F5 (k4.trans k5))
  ·have aX:¬ (i:Int)<rs.length:=by omega
   generalize rs.flatten=L at f37
   simp[kz,X1.e3,X1.g,ll,f37,e9,aX]
   exact cont _ _ _ (X1.aQ)
end Tb
/-
 SU: the reference's faults of a declaration. No condition.
-/
namespace Tb
open Go.Sx Go
variable{C:cU}(S:dd C)
section
variable{f b:Key}{l:List AV}{kd:Int}{Hb h:T ab}{nb nx:Key}{tm:T AV}
theorem aGs{A B:U}{Q:bp}(ZB:aa (K 26) tm=some (I kd))(X:Fq f b l Hb nb tm h nx)(hA:∀ tm',Fq f b l Hb nb tm' h nx→bt C A Q tm' h nx)(hB:∀ tm',aa (K 26) tm'=some (I kd)→Fq f b l Hb nb tm' h nx→bt C B Q tm' h nx):bt C ((U.ops iz).seq (U.cond (.t hU) A B)) Q tm h nx:=by
 rcases du kd 0 with⟨hk,cB⟩|⟨hk,cB⟩
 ·subst hk
  simp[iz,ZB]
  exact hA _ (X.aQ)
 ·simp[iz,ZB,cB]
  exact hB _ (by simp[ZB]) (X.aQ)
theorem aw2{A B:U}{Q:bp}(ZB:aa (K 26) tm=some (I kd))(X:Fq f b l Hb nb tm h nx)(hA:∀ tm',Fq f b l Hb nb tm' h nx→bt C A Q tm' h nx)(hB:∀ tm',aa (K 26) tm'=some (I kd)→Fq f b l Hb nb tm' h nx→bt C B Q tm' h nx):bt C ((U.ops gv).seq (U.cond (.t Sh) A B)) Q tm h nx:=by
 rcases du kd 1 with⟨hk,cB⟩|⟨hk,cB⟩
 ·subst hk
  simp[gv,ZB]
  exact hA _ (X.aQ)
 ·simp[gv,ZB,cB]
  exact hB _ (by simp[ZB]) (X.aQ)
theorem aw3{A B:U}{Q:bp}(ZB:aa (K 26) tm=some (I kd))(X:Fq f b l Hb nb tm h nx)(hA:∀ tm',Fq f b l Hb nb tm' h nx→bt C A Q tm' h nx)(hB:∀ tm',aa (K 26) tm'=some (I kd)→Fq f b l Hb nb tm' h nx→bt C B Q tm' h nx):bt C ((U.ops gI).seq (U.cond (.t yK) A B)) Q tm h nx:=by
 rcases du kd 2 with⟨hk,cB⟩|⟨hk,cB⟩
 ·subst hk
  simp[gI,ZB]
  exact hA _ (X.aQ)
 ·simp[gI,ZB,cB]
  exact hB _ (by simp[ZB]) (X.aQ)
theorem aw4{A B:U}{Q:bp}(ZB:aa (K 26) tm=some (I kd))(X:Fq f b l Hb nb tm h nx)(hA:∀ tm',Fq f b l Hb nb tm' h nx→bt C A Q tm' h nx)(hB:∀ tm',aa (K 26) tm'=some (I kd)→Fq f b l Hb nb tm' h nx→bt C B Q tm' h nx):bt C ((U.ops gK).seq (U.cond (.t EX) A B)) Q tm h nx:=by
 rcases du kd 3 with⟨hk,cB⟩|⟨hk,cB⟩
 ·subst hk
  simp[gK,ZB]
  exact hA _ (X.aQ)
 ·simp[gK,ZB,cB]
  exact hB _ (by simp[ZB]) (X.aQ)
theorem aw5{A B:U}{Q:bp}(ZB:aa (K 26) tm=some (I kd))(X:Fq f b l Hb nb tm h nx)(hA:∀ tm',Fq f b l Hb nb tm' h nx→bt C A Q tm' h nx)(hB:∀ tm',aa (K 26) tm'=some (I kd)→Fq f b l Hb nb tm' h nx→bt C B Q tm' h nx):bt C ((U.ops gM).seq (U.cond (.t YX) A B)) Q tm h nx:=by
 rcases du kd 4 with⟨hk,cB⟩|⟨hk,cB⟩
 ·subst hk
  simp[gM,ZB]
  exact hA _ (X.aQ)
 ·simp[gM,ZB,cB]
  exact hB _ (by simp[ZB]) (X.aQ)
theorem aw6{A B:U}{Q:bp}(ZB:aa (K 26) tm=some (I kd))(X:Fq f b l Hb nb tm h nx)(hA:∀ tm',Fq f b l Hb nb tm' h nx→bt C A Q tm' h nx)(hB:∀ tm',aa (K 26) tm'=some (I kd)→Fq f b l Hb nb tm' h nx→bt C B Q tm' h nx):bt C ((U.ops gP).seq (U.cond (.t afF) A B)) Q tm h nx:=by
 rcases du kd 5 with⟨hk,cB⟩|⟨hk,cB⟩
 ·subst hk
  simp[gP,ZB]
  exact hA _ (X.aQ)
 ·simp[gP,ZB,cB]
  exact hB _ (by simp[ZB]) (X.aQ)
end
include S
variable{f b:Key}{l:List AV}{kd:Int}{sn sc:Nat}{ct pa:AV}{ty bo:List AV}{dp:Int}{ge:List AV}{dr ch cl cm:AV}{st mc:List AV}{co op:AV}{re:List AV}{Hb h:T ab}{nb nx:Key}{tm:T AV}
abbrev fdA:U:=((U.ops iA).seq ((U.ops iD).seq ((U.ops lz).seq (U.block 1 (U.loop lG)))))
theorem v_A(D:Dl l kd sn sc ct pa ty bo dp ge dr ch cl cm st mc co op re){Q:bp}(cont:∀ tm' hx aF,Fq f b l Hb nb tm' hx aF→Q .norm tm' hx aF)(Y0:Fq f b l Hb nb tm h nx):bt C fdA Q tm h nx:=
 aGt S D (fun _ _ _ Y1=>aGu S D (fun _ _ _ Y2=>aGv S D cont Y2) Y1) Y0
abbrev fdB:U:=((U.ops jU).seq ((U.ops jV).seq (U.ops jW)))
theorem v_B(D:Dl l kd sn sc ct pa ty bo dp ge dr ch cl cm st mc co op re){Q:bp}(cont:∀ tm' hx aF,Fq f b l Hb nb tm' hx aF→Q .norm tm' hx aF)(Y0:Fq f b l Hb nb tm h nx):bt C fdB Q tm h nx:=
 aw7 S D (fun _ _ _ Y1=>aw8 S D (fun _ _ _ Y2=>aw9 S D cont Y2) Y1) Y0
abbrev fdC:U:=((U.ops jX).seq ((U.ops jY).seq ((U.ops jZ).seq (U.ops j7))))
theorem v_C(D:Dl l kd sn sc ct pa ty bo dp ge dr ch cl cm st mc co op re){Q:bp}(cont:∀ tm' hx aF,Fq f b l Hb nb tm' hx aF→Q .norm tm' hx aF)(Y0:Fq f b l Hb nb tm h nx):bt C fdC Q tm h nx:=
 axa S D (fun _ _ _ Y1=>axb S D (fun _ _ _ Y2=>axc S D (fun _ _ _ Y3=>axd S D cont Y3) Y2) Y1) Y0
abbrev fdD:U:=((U.ops j8).seq ((U.ops j9).seq ((U.ops kc).seq ((U.ops gL).seq ((U.ops ke).seq (U.block 5 (U.loop lH)))))))
theorem v_D(D:Dl l kd sn sc ct pa ty bo dp ge dr ch cl cm st mc co op re){Q:bp}(cont:∀ tm' hx aF,Fq f b l Hb nb tm' hx aF→Q .norm tm' hx aF)(Y0:Fq f b l Hb nb tm h nx):bt C fdD Q tm h nx:=
 axe S D (fun _ _ _ Y1=>axf S D (fun _ _ _ Y2=>axg S D (fun _ _ _ Y3=>axh S D (fun _ _ _ Y4=>aGw S D cont Y4) Y3) Y2) Y1) Y0
abbrev fdE:U:=((U.ops kh).seq ((U.ops ki).seq ((U.ops gO).seq ((U.ops kj).seq (U.block 7 (U.loop lI))))))
theorem v_E(D:Dl l kd sn sc ct pa ty bo dp ge dr ch cl cm st mc co op re){Q:bp}(cont:∀ tm' hx aF,Fq f b l Hb nb tm' hx aF→Q .norm tm' hx aF)(Y0:Fq f b l Hb nb tm h nx):bt C fdE Q tm h nx:=
 axi S D (fun _ _ _ Y1=>axj S D (fun _ _ _ Y2=>axk S D (fun _ _ _ Y3=>aGx S D cont Y3) Y2) Y1) Y0
abbrev fdF:U:=((U.ops ko).seq ((U.ops kq).seq ((U.ops kr).seq ((U.ops gQ).seq ((U.ops ku).seq (U.block 9 (U.loop lK)))))))
theorem v_F(D:Dl l kd sn sc ct pa ty bo dp ge dr ch cl cm st mc co op re){Q:bp}(cont:∀ tm' hx aF,Fq f b l Hb nb tm' hx aF→Q .norm tm' hx aF)(Y0:Fq f b l Hb nb tm h nx):bt C fdF Q tm h nx:=
 axl S D (fun _ _ _ Y1=>axm S D (fun _ _ _ Y2=>axn S D (fun _ _ _ Y3=>axo S D (fun _ _ _ Y4=>aGy S D cont Y4) Y3) Y2) Y1) Y0
abbrev fdM:U:=((U.ops iz).seq (U.cond (.t hU) fdA ((U.ops gv).seq (U.cond (.t Sh) fdB ((U.ops gI).seq (U.cond (.t yK) fdC ((U.ops gK).seq (U.cond (.t EX) fdD ((U.ops gM).seq (U.cond (.t YX) fdE ((U.ops gP).seq (U.cond (.t afF) fdF .skip))))))))))))
theorem asT(D:Dl l kd sn sc ct pa ty bo dp ge dr ch cl cm st mc co op re){Q:bp}(cont:∀ tm' hx aF,Fq f b l Hb nb tm' hx aF→Q .norm tm' hx aF)(e:aa (K 26) tm=some (I kd))(X:Fq f b l Hb nb tm h nx):bt C fdM Q tm h nx:=
 aGs e X (fun _ Y=>v_A S D cont Y) (fun _ e1 X1=>aw2 e1 X1 (fun _ Y=>v_B S D cont Y) (fun _ e2 X2=>aw3 e2 X2 (fun _ Y=>v_C S D cont Y) (fun _ e3 X3=>aw4 e3 X3 (fun _ Y=>v_D S D cont Y) (fun _ e4 X4=>aw5 e4 X4 (fun _ Y=>v_E S D cont Y) (fun _ e5 X5=>aw6 e5 X5 (fun _ Y=>v_F S D cont Y) (fun _ _ X6=>cont _ _ _ X6))))))
theorem asU:ab8 C:=by
 intro l ol f h nx F
 obtain⟨kd,sn,sc,ct,pa,ty,bo,dp,ge,dr,ch,cl,cm,st,mc,co,op,re,D⟩:=adG ol
 have hl:l.length=45:=ol.len
 have hc:l.all AV.aD=true:=mi.2 ol.aU
 have hz:∀ n H,az (ax n) l H=(l,H):=fun n H=>av ol.bY
 have q1:=S.Oh
 have s0:=kTSu nx
 have Ui:nx≠f:=aG (by have:=F.hi;omega)
 have F0:=F.ext (E0 h nx (.cells l .fix))
 have K0:=(E0 h nx (.cells l .fix)).ks f
 have f0:l[0]=I kd:=by have:=(Af (by omega:0<l.length)).symm.trans D.a0;simpa using this
 have key:=fun(tm:T AV) (h':T ab) (nx':Key) (e:aa (K 26) tm=some (I kd)) (X:Fq f nx l h nx tm h' nx')=>asT (C:=C) (Q:=ai 0 (aN [] (yD f h nx))) S D (fun tm' hx aF X=>by simp;exact⟨rfl,X.F,X.k⟩) e X
 simp at key
 refine S.RP.call ?_
 simp[qO]
 simp[Bb]
 have g0:aa nx (aK nx (some (.cells l .fix)) h)=some (.cells l .fix):=by rw[gTSm]
 generalize aK nx (some (.cells l .fix)) h=Hb at F0 K0 g0 ⊢
 simp[Bc,g0,hl,sh hl,hz,q1]
 refine(alc S ol F0).mono ?_
 rintro o h2 aH ⟨rfl,F2,k2⟩
 have g2:=bH k2 (by omega) Ui g0
 have n2:=k2.n
 simp
 simp[Bd,g2,hl,f0]
 have go:∀ tm' h' nx',Fq f nx l h nx tm' h' nx'→bt C (U.seq (U.ops rN) (.block 0 fdM)) (aN [] (yD f h nx)) tm' h' nx':=by
  intro tm' h' nx' X
  simp
  simp[rN,X.e3,X.g,hl,f0]
  exact key _ _ _ (by simp) (X.aQ)
 simp at go
 have X2:∀ tm',aa (K 0) tm'=some (.ptr f 0)→aa (K 3) tm'=some (.ptr nx 0)→Fq f nx l h nx tm' h2 aH:=fun tm' e0 e3=>⟨e0,e3,F2,K0.trans k2,g2,by omega,Ui⟩
 rcases du kd 0 with⟨hk,cB⟩|⟨hk,cB⟩
 ·simp[hk]
  refine aGz (kd:=kd) S D (fun tm' hx aF X=>go _ _ _ X) (X2 _ ?_ ?_)<;>simp
 ·simp[hk,cB]
  refine aGA (kd:=kd) S D (fun tm' hx aF X=>go _ _ _ X) (X2 _ ?_ ?_)<;>simp
end Tb
/-
 SU: the reference's parser of modules, out of the faults of declarations. No condition.
-/
namespace Tb
open Go.Sx Go
def aya(h:T ab)(nx:Key)(o:Out)(h':T ab)(nx':Key):Prop:=(∃ (c:AV) (a e:Int),o=.ret (.tuple [.agg [c],I a,I e])∧dg W0 (.sl 14) c∧AV.wt c≤64000∧dg W0 .int (I a)∧(e=0∨e=2∨e=4))∧Ext h nx h' nx'
variable{C:cU}(S:dd C)
include S
def apK(p e r:Key)(M:Nat)(h0:T ab)(nx0:Key)(k:Nat)(tm':T AV)(h':T ab)(nx':Key):Prop:=
 ∃ (len:Nat) (cs:List AV),aa (K 2) tm'=some (.ptr r 0)∧aa (K 8) tm'=some (.ptr p 0)∧aa (K 9) tm'=some (.ptr e 0)∧Sr p e [.g 14 len] cs k (Al nx0 e) h0 nx0 h' nx'∧len+8*k≤8*M
theorem anK(hD:ab8 C){n c:Nat}(hn:n≤7999)(h:T ab)(nx:Key):aO C Am [.str n c] h nx (aya h nx):=by
 have q1:=S.QQ
 have q2:=S.Z0
 have q3:=S.Z1
 have q4:=S.aaQ
 have s0:=kTSu nx
 refine S.aaR.call ?_
 simp[G5]
 simp[Po]
 simp[Ps,q1]
 refine(adY S (by omega) _ _).mono ?_
 rintro o h1 aY ⟨⟨tk,a,e,rs,rfl,htk,kQ,jG,oa,he⟩,x1⟩
 have g1:aa nx h1=some (.cells [.nils] .fix):=by rw[x1.g nx (by omega),gTSm]
 have x1':=(E0 h nx (.cells [.nils] .fix)).trans x1
 have n1:=x1.n
 simp
 rcases du e 0 with⟨hk,cB⟩|⟨hk,cB⟩
 ·subst hk
  simp[Fm]
  obtain⟨tkc,tks⟩:tk.aD=true∧tk.cells=[tk]:=by rcases htk with⟨rfl,_⟩|rfl<;>exact⟨rfl,rfl⟩
  simp[Pu,tks]
  simp[Pv]
  have sn1:=kTSu aY
  have sn2:=kTSu aY.succ
  have P2:PP aY (rs.length+1) (aK aY (some (.cells [.str n c,tk,I 0,.bool false] .fix)) h1) aY.succ:=⟨by omega,n,c,tk,rs,0,false,by rw[gTSm];rfl,by omega,htk,by omega,jG,by omega,by simp⟩
  have g2:aa nx (aK aY (some (.cells [.str n c,tk,I 0,.bool false] .fix)) h1)=some (.cells [.nils] .fix):=by rw[bU _ _ _ _ (aG (by omega))];exact g1
  have x2:Ext h nx (aK aY (some (.cells [.str n c,tk,I 0,.bool false] .fix)) h1) aY.succ:=x1'.trans (E0 _ _ _)
  generalize aK aY (some (.cells [.str n c,tk,I 0,.bool false] .fix)) h1=Hb at P2 g2 x2 ⊢
  have O2:Sr aY aY.succ [.g 14 0] [.nils] (rs.length+1) (Al aY.succ aY.succ) Hb aY.succ (aK aY.succ (some (.cells [.nils] .fix)) Hb) aY.succ.succ:=
   ⟨P2.ext (E0 Hb aY.succ _),by rw[gTSm],.g _ _ _ _ _ (Gx.nil _ _ _ _) (fun b hb=>by rcases hb with⟨_,_,e⟩|⟨_,_,_,e⟩<;>cases e) .nil,(Ks.refl _ _ _).new,by omega,bS _,by omega,fun h2=>h2.2 rfl,fun b hb=>hb.1,fun b hb=>⟨by omega,aG (by omega)⟩⟩
  refine W.bV (n:=rs.length+1) (apK aY aY.succ nx (rs.length+1) Hb aY.succ) ?_ ?_
  ·exact⟨0,_,by simp,by simp,by simp,O2,by omega⟩
  rintro k Vp h3 dw ⟨len,cs,f2,f8,f9,O3,hlen⟩
  refine W.of ?_
  simp[Pz]
  have gm:aa aY.succ h3=some (.cells cs .fix):=O3.g
  have lc:cs.length=1:=O3.F.len
  obtain⟨cm,rfl⟩:∃ cm,cs=[cm]:=by
   match cs,lc with
   | [cm],_=>exact⟨cm,rfl⟩
  have fin:∀ oW,aa (K 2) oW=some (.ptr nx 0)→aa (K 8) oW=some (.ptr aY 0)→aa (K 9) oW=some (.ptr aY.succ 0)→bt C ((U.ops Fo).seq ((U.ops Fs).seq (((U.ops uX).seq (U.cond (PX.t (K 60)) ((U.ops B5).seq U.ret) U.skip)).seq ((U.ops B6).seq U.ret)))) (aN [RV.cell (K 2) true 1,RV.tmp (K 3),RV.tmp (K 4)] (aya h nx)) oW h3 dw:=by
   intro oW e2 e8 e9
   simp
   simp[Fo,e9,gm,q3]
   have G3:Gx W0 14 cm len h3 dw (Al aY.succ aY.succ):=by
    cases O3.F with
    |g _ _ _ _ _ hg _ _=>exact hg
   obtain⟨_,Ve⟩:=Gx.ls G3 (by omega)
   refine(ajP S hD Ve).mono ?_
   rintro o h4 jq ⟨⟨ba,bb,bc,bd,rfl⟩,x4⟩
   have O4:=O3.ext x4
   have n4:=x4.n
   have lo3:=O3.hi
   have s4:=kTSu jq
   have O5:=O4.xE (.cells [.bool ba,.bool bb,.bool bc,.bool bd] .fix)
   have g5:aa jq (aK jq (some (.cells [.bool ba,.bool bb,.bool bc,.bool bd] .fix)) h4)=some (.cells [.bool ba,.bool bb,.bool bc,.bool bd] .fix):=by rw[gTSm]
   simp
   generalize aK jq (some (.cells [.bool ba,.bool bb,.bool bc,.bool bd] .fix)) h4=H5 at O5 g5 ⊢
   simp[Fs,e8,g5,q4]
   refine(ayb S O5.P ba).mono ?_
   rintro o h6 IC ⟨⟨a6,e6,rfl,oa6,he6⟩,x6⟩
   have O6:=O5.ext x6
   have gx:aa nx h6=some (.cells [.nils] .fix):=by
    rw[O6.k.g nx (by omega) (aG (by omega))];exact g2
   have XE:∀ H:T ab,(∀ b:Key,b.toNat<nx.toNat→aa b H=aa b h6)→Ext h nx H IC:=fun H hH=>⟨by have:=x6.n;omega,fun b hb=>by rw[hH b hb,O6.k.g b (by omega) (aG (by omega))];exact x2.g b hb⟩
   simp
   rcases du e6 0 with⟨hk,cB⟩|⟨hk,cB⟩
   ·subst hk
    simp[uX]
    simp[B6,e2,e9,O6.g,gx,G3.cell.1]
    obtain⟨c1,cw,c2⟩:=O6.F.Uf (by simp;omega) 9997 (aK nx (some (.cells [cm] .fix)) h6) (fun c hc b hb=>by
     have:=(O6.F.own c hc hb).1.1
     rw[bU _ _ _ _ (aG (by omega))])
    simp at c1 c2 cw
    cases c1 with
    |cons _ _ _ _ c1 _=>exact⟨⟨_,0,0,rfl,c1,by omega,mM,by omega⟩,XE _ fun b hb=>by rw[c2 b (fun h2=>by have:=h2.1;omega)];exact bU _ _ _ _ (aG (by omega))⟩
   ·simp[uX,cB]
    simp[B5,e2,gx]
    exact⟨⟨_,a6,e6,rfl,.nil _,by simp,oa6,he6⟩,XE _ fun b hb=>bU _ _ _ _ (aG (by omega))⟩
  simp at fin
  obtain⟨sn,sc,c0,rs',i,bad,gp,b2,b3,b4,b5,b6,hm⟩:=O3.P.at_
  cases bad with
  |true=>
   by_cases hi:i<rs'.length
   ·have IU:(i:Int)<rs'.length:=by omega
    rcases b3 with⟨rfl,rfl⟩|rfl
    ·simp at hi
    ·generalize rs'.flatten=L at gp
     simp[jN,f8,gp,IU]
     refine fin _ ?_ ?_ ?_<;>simp[f2,f8,f9]
   ·have IU:¬ (i:Int)<rs'.length:=by omega
    rcases b3 with⟨rfl,rfl⟩|rfl
    ·simp at b6
     subst b6
     simp[jN,f8,gp]
     refine fin _ ?_ ?_ ?_<;>simp[f2,f8,f9]
    ·generalize rs'.flatten=L at gp
     simp[jN,f8,gp,IU]
     refine fin _ ?_ ?_ ?_<;>simp[f2,f8,f9]
  |false=>
   simp at hm
   by_cases hi:i<rs'.length
   ·have IU:(i:Int)<rs'.length:=by omega
    rcases b3 with⟨rfl,rfl⟩|rfl
    ·simp at hi
    ·generalize rs'.flatten=L at gp
     simp[jN,f8,gp,IU]
     simp[Pw,f8,f9,gm,q2]
     refine(as6 S O3.P (by omega)).mono ?_
     rintro o h4 jq ⟨⟨l4,m4,rfl,o4,P4,Oj⟩,k4⟩
     have e4:l4.length=45:=o4.len
     have z4:l4.all AV.aD=true:=mi.2 o4.aU
     have O4:=O3.call P4 k4
     have OI:=O4.xE (.cells l4 .fix)
     have hl1:len+1≤1048576:=by omega
     obtain⟨c9,d9,hJ,nxJ,e9,b9,a9,x9,y9,gJ,nJ,lJ,OJ⟩:=OI.app (i:=0) rfl (by decide) o4 hl1
     have a9:appendTo 45 c9 l4 1 _ _=_:=a9
     have e9:cm=c9:=by simpa using e9
     subst e9
     have Vu:∀ n H,az (ax n) l4 H=(l4,H):=fun n H=>av o4.bY
     simp[-appendTo,O4.g,b9,e4,sh e4,Vu,a9,x9,y9,gJ,f9]
     refine⟨m4,by omega,?_⟩
     unfold apK
     exact⟨_,[d9],by simp[f2],by simp[f8],by simp[f9],OJ,by omega⟩
   ·have IU:¬ (i:Int)<rs'.length:=by omega
    rcases b3 with⟨rfl,rfl⟩|rfl
    ·simp at b6
     subst b6
     simp[jN,f8,gp]
     refine fin _ ?_ ?_ ?_<;>simp[f2,f8,f9]
    ·generalize rs'.flatten=L at gp
     simp[jN,f8,gp,IU]
     refine fin _ ?_ ?_ ?_<;>simp[f2,f8,f9]
 ·simp[Fm,cB]
  simp[Pt,g1]
  exact⟨⟨_,a,e,rfl,.nil _,by simp,oa,by omega⟩,x1'.put (bS _)⟩
end Tb
/-
 SG: the reference's module of a program. No condition.
-/
namespace Tg
open Go.Sx Go Tb
variable{C:cU}(S:dd C)
include S
def MdR(h:T ab)(nx:Key)(o:Out)(h':T ab)(nx':Key):Prop:=(∃ c:AV,o=.ret (.agg [c])∧dg W0 (.sl 14) c∧AV.wt c≤64000)∧Ext h nx h' nx'
theorem g_module{c:AV}(hc:IL c)(h:T ab)(nx:Key):aO C vW [c] h nx (MdR h nx):=by
 have q1:=S.Xw
 have q2:=S.aaH
 have hz:∀ n H,ax n c H=(c,H):=hc.jh
 have s0:=kTSu nx
 refine S.ZF.call ?_
 simp[DN]
 simp[ML]
 simp[MM,hz,q1]
 refine(aiM S hc _ _).mono ?_
 rintro o h1 aY ⟨⟨n,c1,rfl,hn⟩,x1⟩
 simp[q2]
 refine(anK S (asU S) (by omega) _ _).mono ?_
 rintro o h2 aH ⟨⟨cm,a,e,rfl,ocm,wcm,oa,he⟩,x2⟩
 have x:=x1.trans x2
 have n2:=x.n
 have g0:aa nx h2=some (.cells [.nils] .fix):=by rw[x.g nx (by omega),gTSm]
 have hzc:∀ n H,ax n cm H=(cm,H):=ocm.jh
 have s2:=kTSu aH
 have ne:nx≠aH:=aG (by omega)
 simp[ocm.cell]
 simp[MN,g0,ocm.cell,hzc,bU _ _ _ _ ne]
 exact⟨⟨cm,rfl,ocm,wcm⟩,by omega,fun b hb=>by rw[bA (by omega),bA (by omega),x.g b (by omega),bA (by omega)]⟩
end Tg
/-
 SB: small functions. No condition.
-/
namespace Tb
open Go.Sx Go
attribute [simp] opS
variable{C:cU}(S:aGO C)
include S
theorem alA(n:Int):XR C pt [I n] (·=.ret (.bool false)):=by
 intro h nx
 refine S.XB.call ?_
 simp[cmp_isNaN_int]
 simp[Ji]
 simp[Jj]
 exact Ext.refl _ _
theorem ahK(a b:Nat):XR C jL [.str a b] (·=.ret (.bool false)):=by
 intro h nx
 refine S.T0.call ?_
 simp[cmp_isNaN_string]
 simp[CG]
 simp[CH]
 exact Ext.refl _ _
theorem abw(a b:Int):XR C lp [I a,I b] (·=.ret (I (ci a b))):=by
 intro h nx
 refine S.U6.call ?_
 have r1:C.raw pt=false:=S.raw _ (by decide)
 simp[uN]
 simp[Fg]
 simp[Fh,r1]
 refine(alA S a _ _).mono ?_
 rintro o h1 aY ⟨rfl,e1⟩
 simp
 simp[Fi,r1]
 refine(alA S b _ _).mono ?_
 rintro o h2 aH ⟨rfl,e2⟩
 have hE:=e1.trans e2
 simp
 simp[Fj,Fk]
 by_cases h1:a<b
 ·simp[nQ,CD,h1,ci];exact hE
 ·by_cases h2:b<a
  ·simp[nQ,tL,CE,h1,h2,ci];exact hE
  ·simp[nQ,tL,CF,h1,h2,ci];exact hE
theorem an9(a b a' b':Nat):XR C ln [.str a b,.str a' b'] (·=.ret (I (cs (a,b) (a',b')))):=by
 intro h nx
 refine S.Q5.call ?_
 have r1:C.raw jL=false:=S.raw _ (by decide)
 simp[nP]
 simp[xM]
 simp[xN,r1]
 refine(ahK S a b _ _).mono ?_
 rintro o h1 aY ⟨rfl,e1⟩
 simp
 simp[xO,r1]
 refine(ahK S a' b' _ _).mono ?_
 rintro o h2 aH ⟨rfl,e2⟩
 have hE:=e1.trans e2
 simp
 simp[xP,xQ]
 cases h1:Lk a b a' b' with
 |true=>simp[jP,we,h1,cs];exact hE
 |false=>
  cases h2:Lk a' b' a b with
  |true=>simp[jP,nO,wg,h1,h2,cs];exact hE
  |false=>simp[jP,nO,wh,h1,h2,cs];exact hE
theorem axP(a b c:Int):XR C nN [.sl [I a,I b,I c] 3 1 .any] (·=.ret (I (or3 a b c))):=by
 intro h nx
 have w1:aW .i64 1=1:=rfl
 have w2:aW .i64 2=2:=rfl
 have w3:aW .i64 3=3:=rfl
 refine S.U5.call ?_
 simp[EM]
 simp[H9]
 simp[Ia]
 simp[Ib]
 by_cases h1:a=0
 ·subst h1
  by_cases h2:b=0
  ·subst h2
   by_cases h3:c=0
   ·subst h3
    refine W.rn (W.of ?_)
    try simp[js]
    try simp[cd]
    try simp[cz]
    try simp[dJ]
    try simp[pM,w1]
    refine W.rn (W.of ?_)
    try simp
    try simp[cd]
    try simp[cz]
    try simp[dJ,decide_true]
    try simp[w2]
    refine W.rn (W.of ?_)
    try simp
    try simp[cd]
    try simp[cz]
    try simp[dJ,decide_true]
    try simp[w3]
    refine W.rn (W.of ?_)
    try simp
    try simp[cd]
    try simp[Ic,or3]
    exact Ext.refl _ _
   ·skip
    refine W.rn (W.of ?_)
    try simp[js]
    try simp[cd]
    try simp[cz]
    try simp[dJ]
    try simp[pM,w1]
    refine W.rn (W.of ?_)
    try simp
    try simp[cd]
    try simp[cz]
    try simp[dJ,decide_true]
    try simp[w2]
    refine W.rn (W.of ?_)
    try simp
    try simp[cd]
    try simp[cz]
    try simp[h3]
    try simp[pL,or3]
    exact Ext.refl _ _
  ·skip
   refine W.rn (W.of ?_)
   try simp[js]
   try simp[cd]
   try simp[cz]
   try simp[dJ]
   try simp[pM,w1]
   refine W.rn (W.of ?_)
   try simp
   try simp[cd]
   try simp[cz]
   try simp[h2]
   try simp[pL,or3,h2]
   exact Ext.refl _ _
 ·skip
  refine W.rn (W.of ?_)
  try simp[js]
  try simp[cd]
  try simp[cz]
  try simp[dJ,h1]
  try simp[pL,or3,h1]
  exact Ext.refl _ _
theorem ahL(x y:Br):XR C mU [.agg (eB x),.agg (eB y)] (·=.ret (I (Dj x y))):=by
 intro h nx
 have s1:=kTSu nx
 have s2:=kTSu nx.succ
 have r1:C.raw ln=false:=S.raw _ (by decide)
 have r2:C.raw lp=false:=S.raw _ (by decide)
 have r3:C.raw nN=false:=S.raw _ (by decide)
 refine S.Wi.call ?_
 simp[vY]
 simp[GV]
 have hq:=eqB x y
 simp only[pB,eB] at hq
 have h0:Ext h nx (aK nx.succ (some (.cells (eB y) .fix)) (aK nx (some (.cells (eB x) .fix)) h)) nx.succ.succ:=(E0 h nx _).trans (E0 _ _ _)
 simp[GW,eB,S.orc,hq]
 refine⟨fun e=>?_,fun e=>?_⟩
 ·simp[GX,Dj,e]
  simpa[eB,e] using h0
 ·simp[GY,r1]
  refine(an9 S _ _ _ _ _ _).mono ?_
  rintro o h1 aY ⟨rfl,e1⟩
  have q0:=e1.g nx (by omega)
  have q1:=e1.g nx.succ (by omega)
  simp at q0 q1
  have t1:=e1.n
  simp[q0,q1,r2,AV.beq,SI.beq]
  refine(abw S _ _ _ _).mono ?_
  rintro o h2 aH ⟨rfl,e2⟩
  have e12:=e1.trans e2
  have q0:=e12.g nx (by omega)
  have q1:=e12.g nx.succ (by omega)
  simp at q0 q1
  simp[q0,q1,r2,AV.beq,SI.beq]
  refine(abw S _ _ _ _).mono ?_
  rintro o h3 dw ⟨rfl,e3⟩
  have e13:=e12.trans e3
  simp[r3]
  have hz:=si (n:=9998) (b:=dw) (len:=3) (sz:=1) (l:=[I (cs (x.a,x.b) (y.a,y.b)),I (ci x.n y.n),I (ci x.m y.m)]) (H:=aK dw (some (.cells [I (cs (x.a,x.b) (y.a,y.b)),I (ci x.n y.n),I (ci x.m y.m)] .fix)) h3) (by simp) (by simp) (by intro z hz;simp at hz;rcases hz with rfl|rfl|rfl<;>exact Lt _ _)
  simp[hz]
  refine(axP S _ _ _ _ _).mono ?_
  rintro o h4 jq ⟨rfl,e4⟩
  simp[Dj,e]
  have e5:=E0 h3 dw (.cells [I (cs (x.a,x.b) (y.a,y.b)),I (ci x.n y.n),I (ci x.m y.m)] .ro)
  exact h0.trans (e13.trans (e5.trans e4))
theorem acX(b:Bool):XR C sE [.bool b] (·=.ret (I (if b then -1 else 1))):=by
 intro h nx
 refine S.acR.call ?_
 simp[LA]
 simp[Si]
 cases b
 ·simp[Ie,Sk];exact Ext.refl _ _
 ·simp[Ie,Sj];exact Ext.refl _ _
def Yl(x y:Br):Int:=if ¬ (x.a=y.a∧x.b=y.b) then(if Lk x.a x.b y.a y.b then -1 else 1) else if x.n≠y.n then(if x.n<y.n then -1 else 1) else if x.m≠y.m then(if x.m<y.m then -1 else 1) else 0
theorem Yc(x y:Br):XR C ph [.agg (eB x),.agg (eB y)] (·=.ret (I (Yl x y))):=by
 intro h nx
 have r1:C.raw sE=false:=S.raw _ (by decide)
 refine S.XA.call ?_
 simp[Ak]
 simp[I9]
 have h0:Ext h nx (aK nx.succ (some (.cells (eB y) .fix)) (aK nx (some (.cells (eB x) .fix)) h)) nx.succ.succ:=(E0 h nx _).trans (E0 _ _ _)
 by_cases c1:x.a=y.a∧x.b=y.b
 ·by_cases c2:x.n=y.n
  ·by_cases c3:x.m=y.m
   ·simp[mV,eB,c1]
    simp[sF,c2]
    simp[yJ,c3]
    simp[Jd,Yl,c1,c2,c3]
    simpa[eB,c1,c2,c3] using h0
   ·simp[mV,eB,c1]
    simp[sF,c2]
    simp[yJ,c3]
    simp[Jc,r1]
    refine(acX S _ _ _).mono ?_
    rintro o h1 aY ⟨rfl,e1⟩
    simp[Yl,c1,c2,c3]
    simpa[eB,c1,c2,c3] using(show Ext h nx _ nx.succ.succ by simpa[eB,c1,c2] using h0).trans e1
  ·simp[mV,eB,c1]
   simp[sF,c2]
   simp[Jb,r1]
   refine(acX S _ _ _).mono ?_
   rintro o h1 aY ⟨rfl,e1⟩
   simp[Yl,c1,c2]
   exact(show Ext h nx _ nx.succ.succ by simpa[eB,c1] using h0).trans e1
 ·have c1':¬ (x.a=y.a)∨¬ (x.b=y.b):=by
   by_cases h:x.a=y.a
   ·exact .inr fun h2=>c1 ⟨h,h2⟩
   ·exact .inl h
  simp[mV,eB]
  refine⟨fun _=>?_,fun hh=>?_⟩
  ·simp[Ja,r1]
   refine(acX S _ _ _).mono ?_
   rintro o h1 aY ⟨rfl,e1⟩
   simp[Yl,c1]
   exact(show Ext h nx _ nx.succ.succ by simpa[eB] using h0).trans e1
  ·intro hb;exact absurd ⟨by simpa using hh,hb⟩ c1
theorem aid(n m:Int)(hm:m≠0):XR C jI [I n,I m] (·=.ret (I (arF n m))):=by
 intro h nx
 refine S.QO.call ?_
 have hm':(m==0)=false:=by simpa using hm
 simp[wk]
 simp[B0]
 by_cases hn:n<0
 ·simp[pz,B3,pA,hn,hm',arF];exact Ext.refl _ _
 ·simp[pz,pA,hn,hm',arF];exact Ext.refl _ _
end Tb
/-
 SB: the order of branches. No condition.
-/
namespace Tb
open Go.Sx Go
theorem Vm(c m d:Nat):Lk 0 c m d=decide (m≠0):=by cases m<;>simp[Lk]
theorem Bq(n c m d:Nat):Lk (n+1) c m d=if m=0 then false else if c%256<d%256 then true else if c%256=d%256 then Lk n (c / 256) (m-1) (d / 256) else false:=by
 simp only[Lk,beqN_eq,bltN_eq]
 by_cases h1:m=0<;>by_cases h2:c%256<d%256<;>by_cases h3:c%256=d%256<;>simp[h1,h2,h3]
theorem Rx:∀ (n c m d:Nat),Lk n c m d=true→Lk m d n c=false
 |0,c,0,d,h=>by simp[Vm] at h
 |0,c,m+1,d,h=>by rw[Bq];simp
 |n+1,c,0,d,h=>by rw[Bq] at h;simp at h
 |n+1,c,m+1,d,h=>by
  rw[Bq] at h ⊢
  simp only[Nat.add_one_ne_zero,if_false,Nat.add_sub_cancel] at h ⊢
  by_cases h1:c%256<d%256
  ·rw[if_neg (by omega),if_neg (by omega)]
  ·rw[if_neg h1] at h
   by_cases h2:c%256=d%256
   ·rw[if_pos h2] at h
    rw[if_neg (by omega),if_pos h2.symm]
    exact Rx n _ m _ h
   ·rw[if_neg h2] at h;cases h
theorem abC:∀ (n c m d k e:Nat),Lk n c m d=true→Lk m d k e=true→Lk n c k e=true
 |0,c,m,d,k,e,h,h'=>by
  rw[Vm] at h ⊢
  have hm:m≠0:=by simpa using h
  obtain⟨m,rfl⟩:=Nat.exists_eq_succ_of_ne_zero hm
  rw[Bq] at h'
  by_cases hk:k=0
  ·rw[if_pos hk] at h';cases h'
  ·simpa using hk
 |n+1,c,0,d,k,e,h,_=>by rw[Bq] at h;simp at h
 |n+1,c,m+1,d,0,e,_,h'=>by rw[Bq] at h';simp at h'
 |n+1,c,m+1,d,k+1,e,h,h'=>by
  rw[Bq] at h h' ⊢
  simp only[Nat.add_one_ne_zero,if_false,Nat.add_sub_cancel] at h h' ⊢
  by_cases h1:c%256<d%256
  ·by_cases h2:d%256<e%256
   ·rw[if_pos (by omega)]
   ·rw[if_neg h2] at h'
    by_cases h3:d%256=e%256
    ·rw[if_pos (by omega)]
    ·rw[if_neg h3] at h';cases h'
  ·rw[if_neg h1] at h
   by_cases h2:c%256=d%256
   ·rw[if_pos h2] at h
    by_cases h3:d%256<e%256
    ·rw[if_pos (by omega)]
    ·rw[if_neg h3] at h'
     by_cases h4:d%256=e%256
     ·rw[if_pos h4] at h'
      rw[if_neg (by omega),if_pos (by omega)]
      exact abC n _ m _ k _ h h'
     ·rw[if_neg h4] at h';cases h'
   ·rw[if_neg h2] at h;cases h
theorem XN:∀ (n c m d:Nat),c<256^n→d<256^m→Lk n c m d=false→Lk m d n c=false→n=m∧c=d
 |0,c,0,d,hc,hd,_,_=>by simp at hc hd;omega
 |0,c,m+1,d,_,_,h,_=>by rw[Vm] at h;simp at h
 |n+1,c,0,d,_,_,_,h=>by rw[Vm] at h;simp at h
 |n+1,c,m+1,d,hc,hd,h,h'=>by
  rw[Bq] at h h'
  simp only[Nat.add_one_ne_zero,if_false,Nat.add_sub_cancel] at h h'
  by_cases h1:c%256<d%256
  ·rw[if_pos h1] at h;cases h
  ·rw[if_neg h1] at h
   by_cases h2:d%256<c%256
   ·rw[if_pos h2] at h';cases h'
   ·rw[if_neg h2] at h'
    have e:c%256=d%256:=by omega
    rw[if_pos e] at h
    rw[if_pos e.symm] at h'
    have:=XN n (c / 256) m (d / 256) (by rw[Nat.pow_succ] at hc;omega) (by rw[Nat.pow_succ] at hd;omega) h h'
    omega
def lt(x y:Br):Prop:=Dj x y<0
theorem aaW{x y:Br}(hx:Ta x)(hy:Ta y):(cs (x.a,x.b) (y.a,y.b)=0↔x.a=y.a∧x.b=y.b):=by
 unfold cs
 constructor
 ·intro h
  split at h
  ·omega
  ·split at h
   ·omega
   ·rename_i h1 h2
    exact XN _ _ _ _ hx hy (by simpa using h1) (by simpa using h2)
 ·rintro⟨h1,h2⟩
  have hi:Lk y.a y.b y.a y.b=false:=by
   cases h:Lk y.a y.b y.a y.b with
   |false=>rfl
   |true=>have:=Rx _ _ _ _ h;rw[h] at this;cases this
  simp[h1,h2,hi]
theorem att{a b:S}(h:cs a b<0):Lk a.1 a.2 b.1 b.2=true:=by
 unfold cs at h
 split at h
 ·assumption
 ·split at h<;>omega
theorem ap4{a b:S}(h:Lk a.1 a.2 b.1 b.2=true):cs a b=-1∧cs b a=1:=by
 have:=Rx _ _ _ _ h
 simp[cs,h,this]
theorem GF{a b:Int}:ci a b=0↔a=b:=by unfold ci;split<;>(try split)<;>omega
theorem alV{a b:Int}:ci a b<0↔a<b:=by unfold ci;split<;>(try split)<;>omega
theorem aeZ{x y:Br}(hx:Ta x)(hy:Ta y):Dj x y=or3 (cs (x.a,x.b) (y.a,y.b)) (ci x.n y.n) (ci x.m y.m):=by
 unfold Dj
 split
 ·rename_i e
  subst e
  have h1:=(aaW hx hx).2 ⟨rfl,rfl⟩
  have h2:=(@GF x.n x.n).2 rfl
  have h3:=(@GF x.m x.m).2 rfl
  simp[or3,h1,h2,h3]
 ·rfl
theorem lt_iff{x y:Br}(hx:Ta x)(hy:Ta y):lt x y↔Lk x.a x.b y.a y.b=true∨(x.a=y.a∧x.b=y.b)∧(x.n<y.n∨x.n=y.n∧x.m<y.m):=by
 unfold lt
 rw[aeZ hx hy]
 unfold or3
 by_cases h1:cs (x.a,x.b) (y.a,y.b)=0
 ·have e:=(aaW hx hy).1 h1
  have hi:Lk x.a x.b y.a y.b=false:=by
   cases h:Lk x.a x.b y.a y.b with
   |false=>rfl
   |true=>have:=(ap4 (a:=(x.a,x.b)) (b:=(y.a,y.b)) h).1;omega
  rw[if_pos h1]
  by_cases h2:ci x.n y.n=0
  ·have e2:=GF.1 h2
   rw[if_pos h2,alV,hi]
   simp[e,e2]
  ·rw[if_neg h2,alV,hi]
   have e2:x.n≠y.n:=fun h=>h2 (GF.2 h)
   simp[e,e2]
 ·rw[if_neg h1]
  have e:¬ (x.a=y.a∧x.b=y.b):=fun h=>h1 ((aaW hx hy).2 h)
  constructor
  ·intro h;exact .inl (att h)
  ·rintro(h|h)
   ·have:=(ap4 (a:=(x.a,x.b)) (b:=(y.a,y.b)) h).1;omega
   ·exact absurd h.1 e
theorem lt_irrefl{x:Br}(hx:Ta x):¬ lt x x:=by
 unfold lt Dj;simp
theorem lt_trans{x y z:Br}(hx:Ta x)(hy:Ta y)(hz:Ta z)(h1:lt x y)(h2:lt y z):lt x z:=by
 rw[lt_iff hx hy] at h1
 rw[lt_iff hy hz] at h2
 rw[lt_iff hx hz]
 rcases h1 with h1|⟨⟨a1,b1⟩,c1⟩
 ·rcases h2 with h2|⟨⟨a2,b2⟩,c2⟩
  ·exact .inl (abC _ _ _ _ _ _ h1 h2)
  ·rw[a2,b2] at h1;exact .inl h1
 ·rcases h2 with h2|⟨⟨a2,b2⟩,c2⟩
  ·rw[← a1,← b1] at h2;exact .inl h2
  ·exact .inr ⟨⟨a1.trans a2,b1.trans b2⟩,by omega⟩
theorem Ym{x y:Br}(hx:Ta x)(hy:Ta y)(h1:¬ lt x y)(h2:¬ lt y x):x=y:=by
 rw[lt_iff hx hy] at h1
 rw[lt_iff hy hx] at h2
 have h3:Lk x.a x.b y.a y.b=false:=by simpa using fun h=>h1 (.inl h)
 have h4:Lk y.a y.b x.a x.b=false:=by simpa using fun h=>h2 (.inl h)
 have e:=XN _ _ _ _ hx hy h3 h4
 have h5:¬ (x.n<y.n∨x.n=y.n∧x.m<y.m):=fun h=>h1 (.inr ⟨e,h⟩)
 have h6:¬ (y.n<x.n∨y.n=x.n∧y.m<x.m):=fun h=>h2 (.inr ⟨⟨e.1.symm,e.2.symm⟩,h⟩)
 obtain⟨a,b,n,m⟩:=x
 obtain⟨a',b',n',m'⟩:=y
 simp only[Br.mk.injEq] at *
 exact⟨e.1,e.2,by omega,by omega⟩
theorem lt_asymm{x y:Br}(hx:Ta x)(hy:Ta y)(h1:lt x y):¬ lt y x:=fun h=>lt_irrefl hx (lt_trans hx hy hx h1 h)
theorem ajc{x y:Br}(hx:Ta x)(hy:Ta y):Dj x y≤0↔¬ lt y x:=by
 constructor
 ·intro h h2
  by_cases e:Dj x y<0
  ·exact lt_asymm hx hy e h2
  ·have e0:Dj x y=0:=by omega
   have:¬ lt x y:=by unfold lt;omega
   rw[lt_iff hy hx] at h2
   rw[aeZ hx hy] at e0
   unfold or3 at e0
   split at e0
   ·rename_i h0
    have e1:=(aaW hx hy).1 h0
    split at e0
    ·rename_i h3
     have e2:=GF.1 h3
     have e3:=GF.1 e0
     have hi:Lk y.a y.b x.a x.b=false:=by
      cases h:Lk y.a y.b x.a x.b with
      |false=>rfl
      |true=>rw[e1.1,e1.2] at h;have:=Rx _ _ _ _ h;rw[h] at this;cases this
     rw[hi] at h2
     rcases h2 with h2|h2
     ·cases h2
     ·omega
    ·omega
   ·omega
 ·intro h
  by_cases e:lt x y
  ·unfold lt at e;omega
  ·have:=Ym hx hy e h
   subst this
   simp[Dj]
theorem an4{x y:Br}(hx:Ta x)(hy:Ta y):0<Dj x y↔lt y x:=by
 have:=ajc hx hy
 by_cases h:lt y x
 ·exact⟨fun _=>h,fun _=>by have:¬ Dj x y≤0:=fun h2=>this.1 h2 h;omega⟩
 ·exact⟨fun h2=>by have:=this.2 h;omega,fun h2=>absurd h2 h⟩
def SrB(l:List Br):Prop:=l.Pairwise lt
theorem SrB.uniq:∀ {l m:List Br},SrB l→SrB m→(∀ y∈l,Ta y)→(∀ y,y∈l↔y∈m)→l=m
 | [],[],_,_,_,_=>rfl
 | [],b ::m,_,_,_,h=>by have:=(h b).2 (by simp);cases this
 |a ::l,[],_,_,_,h=>by have:=(h a).1 (by simp);cases this
 |a ::l,b ::m,hl,hm,ho,h=>by
  have SO:=List.pairwise_cons.1 hl
  have hm':=List.pairwise_cons.1 hm
  have oa:=ho a (by simp)
  have ob:=ho b ((h b).2 (by simp))
  have e:a=b:=by
   have h1:=(h a).1 (by simp)
   have h2:=(h b).2 (by simp)
   rcases xH.1 h1 with e|h1
   ·exact e
   ·rcases xH.1 h2 with e|h2
    ·exact e.symm
    ·exact absurd (SO.1 b h2) (lt_asymm ob oa (hm'.1 a h1))
  subst e
  have:=SrB.uniq (l:=l) (m:=m) SO.2 hm'.2 (fun y hy=>ho y (by simp[hy])) fun y=>by
   constructor
   ·intro hy
    rcases xH.1 ((h y).1 (by simp[hy])) with e|h1
    ·subst e;exact absurd (SO.1 y hy) (lt_irrefl oa)
    ·exact h1
   ·intro hy
    rcases xH.1 ((h y).2 (by simp[hy])) with e|h1
    ·subst e;exact absurd (hm'.1 y hy) (lt_irrefl oa)
    ·exact h1
  rw[this]
end Tb
/-
 SM: a list's rows, the branches of an expression, in the plain. No condition.
-/
namespace Tb
open Go.Sx Go
def chunk(z:Nat):Nat→List AV→List (List AV)
 |0,_=>[]
 |n+1,l=>l.take z ::chunk z n (l.drop z)
def ju:AV→List (List AV)
 |.sl l n z _=>chunk z n l
 |_=>[]
@[simp] theorem asv:ju .nils=[]:=rfl
theorem Zz{k:Nat}:∀ {rs:List (List AV)},dy W0 k rs→chunk (W0 k).length rs.length rs.flatten=rs
 |_,.nil _=>rfl
 |_,.cons k r rs hr h=>by
  have hl:=hr.len
  rw[Tj,chunk,Xh,List.take_append_of_le_length (by omega),XO (by omega),zqq,List.drop_eq_nil_of_le (by omega),List.nil_append,hl,Nat.sub_self,List.drop_zero,Zz h]
theorem jg{k z:Nat}{c:AV}(hz:(W0 k).length=z)(h:dg W0 (.sl k) c):(c=.nils∧ju c=[]∨c=.sl (ju c).flatten (ju c).length z .any)∧dy W0 k (ju c)∧(ju c).length≤100000∧AV.wt c=(ju c).length+AV.iN (ju c).flatten:=by
 subst hz
 cases h with
 |nil=>exact⟨.inl ⟨rfl,rfl⟩,.nil _,by simp,by simp⟩
 |sl _ rs a b=>
  have e:ju (.sl rs.flatten rs.length (W0 k).length .any)=rs:=Zz b
  rw[e]
  exact⟨.inr rfl,b,a,by simp⟩
theorem anv(z:Nat):∀ l:List AV,sizeOf (l.take z)≤sizeOf l:=by
 induction z with
 |zero=>intro l;cases l<;>simp<;>omega
 |succ z ih=>
  intro l
  cases l with
  |nil=>simp
  |cons x l=>have:=ih l;simp;omega
theorem anw(z:Nat):∀ l:List AV,sizeOf (l.drop z)≤sizeOf l:=by
 induction z with
 |zero=>intro l;simp
 |succ z ih=>
  intro l
  cases l with
  |nil=>simp
  |cons x l=>have:=ih l;simp;omega
theorem ael{z:Nat}:∀ {n:Nat} {l r:List AV},r∈chunk z n l→sizeOf r≤sizeOf l
 |0,_,_,h=>by simp[chunk] at h
 |n+1,l,r,h=>by
  rcases xH.1 h with rfl|h
  ·exact anv z l
  ·exact Nat.le_trans (ael h) (anw z l)
theorem anx{c:AV}{r:List AV}(h:r∈ju c):sizeOf r<sizeOf c:=by
 cases c with
 |sl l n z f=>
  have:=ael h
  simp;omega
 |_=>simp[ju] at h
def intOf:AV→Int
 |.int _ (.lit n)=>n
 |_=>0
@[simp] theorem am5(n:Int):intOf (I n)=n:=rfl
def tB(k:Int)(names:AV):Nat:=if k=8 then bP names else if k=6 then 2 else 0
def KV(dn dc:Nat)(a:Int)(n:Nat):List Br:=(List.range n).map fun(i:Nat)=>(⟨dn,dc,a,(i:Int)⟩:Br)
def WM(l:List AV):List (List AV):=ju (l.getD 5 .nils)
theorem Ya{l r:List AV}(h:r∈WM l):sizeOf r<sizeOf l:=by
 have h1:=anx h
 unfold WM at h
 by_cases hl:5<l.length
 ·rw[List.getD_eq_getElem?_getD,Af hl] at h1
  have:=List.sizeOf_lt_of_mem (XV hl)
  simp at h1;omega
 ·rw[List.getD_eq_getElem?_getD,zqo (by omega)] at h
  simp at h
def xy(dn dc:Nat)(l:List AV):List Br:=
 KV dn dc (intOf (l.getD 6 .nils)) (tB (intOf (l.getD 0 .nils)) (l.getD 3 .nils))++((WM l).attach.map fun r=>xy dn dc r.1).flatten
termination_by sizeOf l
decreasing_by exact Ya r.2
theorem acx(dn dc:Nat)(l:List AV):xy dn dc l=KV dn dc (intOf (l.getD 6 .nils)) (tB (intOf (l.getD 0 .nils)) (l.getD 3 .nils))++((WM l).map (xy dn dc)).flatten:=by
 rw[xy,List.attach_map_val (f:=xy dn dc)]
def NQ(l:List Br):Prop:=∀ y∈l,Ta y
theorem UR(dn dc:Nat)(a:Int)(n:Nat):(KV dn dc a n).length=n:=by simp[KV]
theorem NQ.app{a b:List Br}(h:NQ a)(k:NQ b):NQ (a++b):=fun y hy=>(List.mem_append.1 hy).elim (h y) (k y)
theorem asw{dn dc:Nat}(hd:dc<256^dn):∀ (m:Nat) {l:List AV},sizeOf l=m→NQ (xy dn dc l):=by
 intro m
 induction m using Nat.strongRecOn with
 |ind m ih=>
 intro l hm
 rw[acx]
 refine NQ.app (fun y hy=>?_) (fun y hy=>?_)
 ·obtain⟨i,_,rfl⟩:=Vn.1 hy
  exact hd
 ·obtain⟨us,hu,hy⟩:=List.mem_flatten.1 hy
  obtain⟨r,hr,rfl⟩:=Vn.1 hu
  exact ih _ (by rw[← hm];exact Ya hr) rfl y hy
theorem ahb{k:Int}{names:AV}:tB k names≤2+bP names:=by unfold tB;split;omega;split<;>omega
theorem anz(c:AV):bP c≤AV.wt c:=by
 cases c with
 |sl=>simp[bP]
 |_=>simp[bP]
theorem anA{rs:List (List AV)}(f:List AV→List Br)(hf:∀ r∈rs,(f r).length≤2+3*AV.iN r):(rs.map f).flatten.length≤2*rs.length+3*AV.iN rs.flatten:=by
 induction rs with
 |nil=>simp
 |cons r rs ih=>
  have h1:=hf r (by simp)
  have h2:=ih fun q hq=>hf q (by simp[hq])
  simp only[XW,Xh,Lc,Tj,vg]
  omega
theorem aha(dn dc:Nat):∀ (m:Nat) {l:List AV},sizeOf l=m→cJ W0 sj l→(xy dn dc l).length≤2+3*AV.iN l:=by
 intro m
 induction m using Nat.strongRecOn with
 |ind m ih=>
 intro l hm ol
 have hk:∀ r∈WM l,sizeOf r<sizeOf l:=fun r hr=>Ya hr
 obtain⟨a,b,c,d,e,f,g,rfl,oa,ob,oc,od,oe,of,og⟩:=ex7 ol
 rw[acx]
 have e1:WM [a,b,c,d,e,f,g]=ju f:=rfl
 rw[e1] at hk ⊢
 obtain⟨_,jG,_,hw⟩:=jg (z:=7) rfl of
 have h1:=anA (rs:=ju f) (xy dn dc) fun r hr=>ih _ (by rw[← hm];exact hk r hr) rfl (jG.mem r hr)
 have h2:=ahb (k:=intOf a) (names:=d)
 have h3:=anz d
 simp only[Lc,UR,List.getD_cons_zero,List.getD_cons_succ,Y7,agZ]
 omega
end Tb
/-
 SM: lists in a strict order, in the plain. No condition.
-/
namespace Tp
open Go.Sx Go Tb
section
variable{α:Type}{lt:α→α→Prop}{Ok:α→Prop}
structure Ord(lt:α→α→Prop)(Ok:α→Prop):Prop where
 irr:∀ x,Ok x→¬ lt x x
 trans:∀ x y z,Ok x→Ok y→Ok z→lt x y→lt y z→lt x z
 tri:∀ x y,Ok x→Ok y→¬ lt x y→¬ lt y x→x=y
def af5[DecidableEq α](lt:α→α→Prop)(l:List α)(x:α)(r:List α):Prop:=∃ i,i≤l.length∧(∀ y∈l.drop i,¬ lt y x)∧(∀ k,i=k+1→∃ z,l[k]?=some z∧lt z x)∧r=if l[i]?=some x then l else l.take i++x ::l.drop i
theorem aej[DecidableEq α](o:Ord lt Ok){l r:List α}{x:α}(hs:l.Pairwise lt)(ho:∀ y∈l,Ok y)(hx:Ok x)(h:af5 lt l x r):r.Pairwise lt∧(∀ y,y∈r↔y=x∨y∈l)∧r.length≤l.length+1:=by
 obtain⟨i,hi,hd,hp,rfl⟩:=h
 have alw:l.take i++l.drop i=l:=List.take_append_drop i l
 have hpw:(l.take i++l.drop i).Pairwise lt:=by rw[alw];exact hs
 obtain⟨p1,p2,p3⟩:=List.pairwise_append.1 hpw
 have aGU:∀ {y},y∈l.take i→y∈l:=fun h=>List.mem_of_mem_take h
 have aGV:∀ {y},y∈l.drop i→y∈l:=fun h=>List.mem_of_mem_drop h
 have as8:∀ y∈l.take i,lt y x:=by
  intro y hy
  cases i with
  |zero=>simp at hy
  |succ k=>
   obtain⟨z,hz,hzx⟩:=hp k rfl
   obtain⟨hk,hze⟩:=List.getElem?_eq_some_iff.1 hz
   have oz:Ok z:=ho z (List.mem_of_getElem? hz)
   have oy:Ok y:=ho y (aGU hy)
   obtain⟨j,hj,rfl⟩:=List.mem_iff_getElem.1 hy
   rw[zqy] at hj
   rw[List.getElem_take] at oy ⊢
   by_cases e:j=k
   ·subst e;rw[hze];exact hzx
   ·have:=List.pairwise_iff_getElem.1 hs j k (by omega) hk (by omega)
    rw[hze] at this
    exact o.trans _ _ _ oy oz hx this hzx
 split
 ·rename_i h
  have hm:x∈l:=List.mem_of_getElem? h
  exact⟨hs,fun y=>⟨fun h=>.inr h,fun h=>h.elim (fun e=>e ▸ hm) id⟩,by omega⟩
 ·rename_i eM
  have hhi:∀ y∈l.drop i,lt x y:=by
   intro y hy
   have oy:Ok y:=ho y (aGV hy)
   have h1:=hd y hy
   by_cases h2:lt x y
   ·exact h2
   ·have e:=o.tri x y hx oy h2 h1
    subst e
    exfalso
    obtain⟨j,hj,UM⟩:=List.mem_iff_getElem.1 hy
    rw[List.length_drop] at hj
    rw[List.getElem_drop] at UM
    cases j with
    |zero=>exact eM (List.getElem?_eq_some_iff.2 ⟨by omega,by simpa using UM⟩)
    |succ j=>
     have hil:i<l.length:=by omega
     have h3:=List.pairwise_iff_getElem.1 hs i (i+(j+1)) hil (by omega) (by omega)
     rw[UM] at h3
     exact hd l[i] (by rw[zqt hil];exact List.mem_cons_self) h3
  refine⟨List.pairwise_append.2 ⟨p1,List.pairwise_cons.2 ⟨hhi,p2⟩,?_⟩,fun y=>?_,?_⟩
  ·intro a ha b hb
   rcases xH.1 hb with rfl|hb
   ·exact as8 a ha
   ·exact p3 a ha b hb
  ·rw[List.mem_append,xH]
   conv=>rhs;rw[← alw,List.mem_append]
   constructor
   ·rintro(h|h|h)
    ·exact .inr (.inl h)
    ·exact .inl h
    ·exact .inr (.inr h)
   ·rintro(h|h|h)
    ·exact .inr (.inl h)
    ·exact .inl h
    ·exact .inr (.inr h)
  ·rw[Lc,Tj,zqy,List.length_drop];omega
theorem apD(o:Ord lt Ok):∀ {r s:List α},r.Pairwise lt→s.Pairwise lt→(∀ y∈r,Ok y)→(∀ y,y∈r↔y∈s)→r=s
 | [],[],_,_,_,_=>rfl
 | [],y ::s,_,_,_,h=>absurd ((h y).2 (by simp)) (by simp)
 |x ::r,[],_,_,_,h=>absurd ((h x).1 (by simp)) (by simp)
 |x ::r,y ::s,hr,hs,ho,h=>by
  obtain⟨h1,h2⟩:=List.pairwise_cons.1 hr
  obtain⟨k1,k2⟩:=List.pairwise_cons.1 hs
  have ox:=ho x (by simp)
  have oy:Ok y:=ho y ((h y).2 (by simp))
  have e:x=y:=by
   rcases xH.1 ((h x).1 (by simp)) with e|hx
   ·exact e
   ·rcases xH.1 ((h y).2 (by simp)) with e|hy
    ·exact e.symm
    ·exact absurd (o.trans _ _ _ ox oy ox (h1 y hy) (k1 x hx)) (o.irr x ox)
  subst e
  rw[apD o h2 k2 (fun y hy=>ho y (by simp[hy])) fun z=>?_]
  have hz:=h z
  constructor
  ·intro Zg
   rcases xH.1 (hz.1 (by simp[Zg])) with e|h3
   ·subst e;exact absurd (h1 z Zg) (o.irr z ox)
   ·exact h3
  ·intro hzs
   rcases xH.1 (hz.2 (by simp[hzs])) with e|h3
   ·subst e;exact absurd (k1 z hzs) (o.irr z ox)
   ·exact h3
end
abbrev Pr:=Br×Br
def eP(p:Pr):List AV:=eB p.1++eB p.2
theorem rh:Flat 6 eP where
 len _:=rfl
 jh x y hy:=by
  rcases List.mem_append.1 hy with hy|hy
  ·exact jr.jh _ y hy
  ·exact jr.jh _ y hy
 cell x y hy:=by
  rcases List.mem_append.1 hy with hy|hy
  ·exact jr.cell _ y hy
  ·exact jr.cell _ y hy
 lits x:=rfl
abbrev pP:Bu:=.parts [(0,.str),(1,.int),(2,.int),(3,.str),(4,.int),(5,.int)]
theorem XJ(x y:Pr):nw [] pP (.agg (eP x)) (.agg (eP y))=some (decide (x=y)):=by
 obtain⟨⟨a,b,n,m⟩,⟨c,d,i,j⟩⟩:=x
 obtain⟨⟨a',b',n',m'⟩,⟨c',d',i',j'⟩⟩:=y
 rw[pP,nw,Eb _ _ _ _ _ (.str a b) (.str a' b') rfl rfl _ (agk _ _ _ _),Eb _ _ _ _ _ (I n) (I n') rfl rfl _ (Wh _ _),Eb _ _ _ _ _ (I m) (I m') rfl rfl _ (Wh _ _),Eb _ _ _ _ _ (.str c d) (.str c' d') rfl rfl _ (agk _ _ _ _),Eb _ _ _ _ _ (I i) (I i') rfl rfl _ (Wh _ _),Eb _ _ _ _ _ (I j) (I j') rfl rfl _ (Wh _ _),dq]
 by_cases h1:a=a'<;>by_cases h2:b=b'<;>by_cases h3:n=n'<;>by_cases h4:m=m'<;>by_cases k1:c=c'<;>by_cases k2:d=d'<;>by_cases k3:i=i'<;>by_cases k4:j=j'<;>simp[h1,h2,h3,h4,k1,k2,k3,k4]
def Mb(p:Pr):Prop:=Ta p.1∧Ta p.2
def adt(p q:Pr):Int:=if Dj p.1 q.1=0 then Dj p.2 q.2 else Dj p.1 q.1
def Vx(p q:Pr):Prop:=adt p q<0
theorem alx{x y:Br}(hx:Ta x)(hy:Ta y):Dj x y=0↔x=y:=by
 constructor
 ·intro h
  exact Ym hx hy (by unfold lt;omega) (fun h2=>by have:=(an4 hx hy).2 h2;omega)
 ·rintro rfl;unfold Dj;simp
theorem Ll{p q:Pr}(hp:Mb p)(hq:Mb q):Vx p q↔lt p.1 q.1∨(p.1=q.1∧lt p.2 q.2):=by
 unfold Vx adt
 have h0:=alx hp.1 hq.1
 by_cases h:Dj p.1 q.1=0
 ·rw[if_pos h]
  have e:=h0.1 h
  constructor
  ·exact fun h2=>.inr ⟨e,h2⟩
  ·rintro(h2|h2)
   ·unfold lt at h2;omega
   ·exact h2.2
 ·rw[if_neg h]
  constructor
  ·exact fun h2=>.inl h2
  ·rintro(h2|h2)
   ·exact h2
   ·exact absurd (h0.2 h2.1) h
theorem VC:Ord Vx Mb where
 irr x hx h:=by
  rw[Ll hx hx] at h
  rcases h with h|h
  ·exact lt_irrefl hx.1 h
  ·exact lt_irrefl hx.2 h.2
 trans x y z hx hy hz h1 h2:=by
  rw[Ll hx hy] at h1
  rw[Ll hy hz] at h2
  rw[Ll hx hz]
  rcases h1 with h1|⟨e1,h1⟩<;>rcases h2 with h2|⟨e2,h2⟩
  ·exact .inl (lt_trans hx.1 hy.1 hz.1 h1 h2)
  ·rw[← e2];exact .inl h1
  ·rw[e1];exact .inl h2
  ·exact .inr ⟨e1.trans e2,lt_trans hx.2 hy.2 hz.2 h1 h2⟩
 tri x y hx hy h1 h2:=by
  rw[Ll hx hy] at h1
  rw[Ll hy hx] at h2
  have e1:=Ym hx.1 hy.1 (fun h=>h1 (.inl h)) (fun h=>h2 (.inl h))
  have e2:=Ym hx.2 hy.2 (fun h=>h1 (.inr ⟨e1,h⟩)) (fun h=>h2 (.inr ⟨e1.symm,h⟩))
  exact Prod.ext e1 e2
def GH(us:List Pr):List Pr:=us.mergeSort fun x y=>!(decide (adt y x<0))
def dH:List Br→List Pr
 |x ::y ::l=>(x,y) ::dH (y ::l)
 |_=>[]
theorem QZ:∀ l:List Br,(dH l).length=l.length-1
 | []=>rfl
 | [_]=>rfl
 |x ::y ::l=>by rw[dH,Tj,QZ (y ::l)];simp
theorem KY:∀ (l:List Br) (i:Nat) (h:i+1<l.length),(dH l)[i]?=some (l[i],l[i+1])
 | [],_,h=>by simp at h
 | [_],_,h=>by simp at h
 |x ::y ::l,0,_=>rfl
 |x ::y ::l,i+1,h=>by
  rw[dH,List.getElem?_cons_succ,KY (y ::l) i (by simpa using h)]
  simp
theorem acJ{l:List Br}(h:NQ l):∀ p∈dH l,Mb p:=by
 intro p hp
 obtain⟨i,hi⟩:=List.getElem?_of_mem hp
 have aM:i<(dH l).length:=(List.getElem?_eq_some_iff.1 hi).1
 rw[QZ] at aM
 rw[KY l i (by omega)] at hi
 cases hi
 exact⟨h _ (XV _),h _ (XV _)⟩
structure acI(p:Pr→Prop)(r:List Pr):Prop where
 sr:r.Pairwise Vx
 mem:∀ y,y∈r↔p y
theorem acI.uniq{p:Pr→Prop}{r s:List Pr}(hr:acI p r)(hs:acI p s)(ho:∀ y,p y→Mb y):r=s:=
 apD VC hr.sr hs.sr (fun y hy=>ho y ((hr.mem y).1 hy)) fun y=>(hr.mem y).trans (hs.mem y).symm
end Tp
/-
 SM: pairs of branches as the keys of a map. No condition.
-/
namespace Tp
open Go.Sx Go Tb
@[simp] theorem aGE(x:Pr):(eP x).all AV.aD=true:=rfl
def kv(x:Pr):AV×AV:=(.agg (eP x),.bool true)
def mp(r:List Pr):List (AV×AV):=r.map kv
def add(r:List Pr)(x:Pr):List Pr:=if x∈r then r else r ++ [x]
@[simp] theorem as0(x y:Pr):aih [] pP (.agg (eP x)) (.agg (eP y))=some (decide (x=y)):=by
 unfold aih
 rw[show nw [] pP (.agg (eP x)) (.agg (eP y))=some (decide (x=y)) from XJ x y]
 by_cases h:x=y
 ·subst h
  have:AV.beq (.agg (eP x)) (.agg (eP x))=true:=beq_refl _ rfl
  simp[this]
 ·simp[h]
theorem acN(x:Pr):∀ r:List Pr,Wv [] pP (.agg (eP x)) (.bool true) (mp r)=some (mp (add r x))
 | []=>by simp[mp,Wv,add,kv]
 |y ::r=>by
  have ih:=acN x r
  simp only[mp,XW,kv,Wv,as0] at ih ⊢
  by_cases h:x=y
  ·subst h;simp[add,kv]
  ·simp only[h,decide_false]
   rw[ih]
   by_cases hx:x∈r<;>simp[add,h,hx,kv]
@[simp] theorem ahw(x:Pr):Sd pP (.agg (eP x))=true:=by
 simp[Sd,eP,eB,Mo,agU,YL]
theorem anO(r:List Pr)(x y:Pr):y∈add r x↔y∈r∨y=x:=by
 unfold add;split
 ·exact⟨.inl,fun h=>h.elim id fun e=>by subst e;assumption⟩
 ·simp
theorem aiN{r:List Pr}(hr:r.Nodup)(x:Pr):(add r x).Nodup:=by
 unfold add;split
 ·exact hr
 ·rename_i h;exact List.nodup_append.2 ⟨hr,by simp,fun a ha b hb e=>by simp at hb;subst hb;subst e;exact h ha⟩
theorem aer:∀ (l r:List Pr) (y:Pr),y∈l.foldl add r↔y∈r∨y∈l
 | [],r,y=>by simp
 |x ::l,r,y=>by rw[List.foldl_cons,aer l,anO,xH,or_assoc]
theorem ZH:∀ (l:List Pr) {r:List Pr},r.Nodup→(l.foldl add r).Nodup
 | [],_,h=>h
 |x ::l,_,h=>by rw[List.foldl_cons];exact ZH l (aiN h x)
theorem aes:∀ (l r:List Pr),(l.foldl add r).length≤r.length+l.length
 | [],r=>by simp
 |x ::l,r=>by
  have:=aes l (add r x)
  have h2:(add r x).length≤r.length+1:=by unfold add;split<;>simp
  rw[List.foldl_cons,Tj];omega
abbrev En:=Nat×Pr
def LZ(rs:List En):List (Nat×AV×AV):=rs.map fun e=>(e.1,.agg (eP e.2),.bool true)
def num:Nat→List Pr→List En
 |_,[]=>[]
 |i,x ::r=>(i,x) ::num (i+1) r
theorem abo:∀ (r:List Pr) (i:Nat),YM i (mp r)=LZ (num i r)
 | [],_=>rfl
 |x ::r,i=>by
  show(i,AV.agg (eP x),AV.bool true) ::YM (i+1) (mp r)=_
  rw[abo r];rfl
theorem L0:∀ (r:List Pr) (i:Nat),(num i r).map Prod.snd=r
 | [],_=>rfl
 |x ::r,i=>by rw[num,XW,L0 r]
theorem age:∀ (r:List Pr) (i:Nat),∀ e∈num i r,i≤e.1∧e.1<i+r.length
 | [],_,e,h=>by cases h
 |x ::r,i,e,h=>by
  rcases xH.1 h with rfl|h
  ·simp
  ·have:=age r (i+1) e h
   rw[Tj];omega
theorem alg:∀ (r:List Pr) (i:Nat),((num i r).map Prod.fst).Nodup
 | [],_=>by simp[num]
 |x ::r,i=>by
  rw[num,XW,List.nodup_cons]
  refine⟨fun h=>?_,alg r (i+1)⟩
  obtain⟨e,h1,h2⟩:=Vn.1 h
  have h3:=(age r (i+1) e h1).1
  have h2:e.1=i:=h2
  omega
theorem ahx(r:List Pr)(i:Nat):(num i r).length=r.length:=by
 have:=congrArg List.length (L0 r i);simpa using this
structure U2(b:Key)(h:T ab)(rs:List En)(c:Nat):Prop where
 at_:aa b h=some (.map (mp (rs.map Prod.snd)))∧rs=num 0 (rs.map Prod.snd)∧c=rs.length∨aa b h=some (.mapD (LZ rs) c)
 nd:(rs.map Prod.fst).Nodup
 lt:∀ e∈rs,e.1<c
 nk:(rs.map Prod.snd).Nodup
theorem U2.st{b:Key}{h:T ab}{rs:List En}{c:Nat}(M:U2 b h rs c):stamped b h=some (LZ rs,c):=by
 rcases M.at_ with⟨h1,h2,h3⟩|h1
 ·unfold stamped
  rw[h1]
  simp only
  rw[abo,← h2,lenL_eq,h3]
  simp[mp]
 ·unfold stamped;rw[h1]
theorem U2.Bx{b:Key}{h h':T ab}{rs:List En}{c:Nat}(M:U2 b h rs c)(he:aa b h'=aa b h):U2 b h' rs c:=
 ⟨by rw[he];exact M.at_,M.nd,M.lt,M.nk⟩
theorem U2.of{b:Key}{h:T ab}{r:List Pr}(hb:aa b h=some (.map (mp r)))(hr:r.Nodup):U2 b h (num 0 r) r.length:=
 ⟨.inl ⟨by rw[L0];exact hb,by rw[L0],by rw[ahx]⟩,alg r 0,fun e he=>by have:=(age r 0 e he).2;omega,by rw[L0];exact hr⟩
theorem aet{c:Nat}:∀ {rs:List En},(∀ e∈rs,e.1<c)→OM c (LZ rs)=true
 | [],_=>rfl
 |e ::rs,h=>by
  show(Nat.blt e.1 c&&OM c (LZ rs))=true
  rw[aet fun e he=>h e (by simp[he]),bltN_eq]
  simp[h e (by simp)]
theorem ZI(i:Nat):∀ l:List Nat,Ul i l=true↔i∈l
 | []=>by simp[Ul]
 |j ::l=>by
  rw[Ul]
  by_cases h:i=j
  ·simp[h]
  ·simp[h,ZI i l]
theorem ahy(seen:List Nat):∀ rs:List En,GI seen (LZ rs)=LZ (rs.filter fun e=>!(Ul e.1 seen))
 | []=>rfl
 |e ::rs=>by
  show(bif Ul e.1 seen then GI seen (LZ rs) else(e.1,.agg (eP e.2),.bool true) ::GI seen (LZ rs))=_
  rw[ahy seen rs]
  cases h:Ul e.1 seen<;>simp[h,LZ]
theorem aeu{b m:Key}{n:Nat}{seen:List Nat}{h:T ab}:∀ {L:List (Nat×AV×AV)} {v:AV} {h2:T ab},(v,h2)∈Wr b m n seen h L→∃ s k w,(s,k,w)∈L∧v=.tuple [.bool true,k,w]∧h2=aK b (some (.iter m n (seen ++ [s]))) h
 | [],_,_,hm=>by simp[Wr] at hm
 |(s,k,w) ::L,v,h2,hm=>by
  simp only[Wr,sTCe,xH] at hm
  rcases hm with hm|hm
  ·cases hm;exact⟨s,k,w,by simp,rfl,rfl⟩
  ·obtain⟨s',k',w',h1,W9,h3⟩:=aeu hm
   exact⟨s',k',w',by simp[h1],W9,h3⟩
theorem abp:∀ (l:List Nat) (s:Nat),YN (l ++ [s])=some s
 | [],s=>rfl
 | [a],s=>rfl
 |a ::b ::l,s=>by
  show YN (b ::l ++ [s])=some s
  exact abp (b ::l) s
theorem ahz:∀ {rs:List En} {e:En},(rs.map Prod.fst).Nodup→e∈rs→aa5 e.1 (LZ rs)=some (.tuple [.agg (eP e.2),.bool true])
 | [],_,_,h=>by cases h
 |d ::rs,e,hn,h=>by
  rw[XW,List.nodup_cons] at hn
  show(bif Nat.beq d.1 e.1 then some (AV.tuple [.agg (eP d.2),.bool true]) else aa5 e.1 (LZ rs))=_
  rcases xH.1 h with rfl|h
  ·simp
  ·have eM:d.1≠e.1:=fun h2=>hn.1 (by rw[h2];exact List.mem_map_of_mem h)
   simp[eM,ahz hn.2 h]
theorem anP{rs:List En}(hn:(rs.map Prod.fst).Nodup):∀ {e d:En},e∈rs→d∈rs→e.1=d.1→e=d:=by
 induction rs with
 |nil=>intro e d h;cases h
 |cons a rs ih=>
  intro e d he hd heq
  rw[XW,List.nodup_cons] at hn
  rcases xH.1 he with e1|he2<;>rcases xH.1 hd with e2|hd2
  ·rw[e1,e2]
  ·exact absurd (by rw[← e1,heq];exact List.mem_map_of_mem hd2) hn.1
  ·exact absurd (by rw[← e2,← heq];exact List.mem_map_of_mem he2) hn.1
  ·exact ih hn.2 he2 hd2 heq
theorem anQ{rs:List En}(hn:(rs.map Prod.snd).Nodup):∀ {e d:En},e∈rs→d∈rs→e.2=d.2→e=d:=by
 induction rs with
 |nil=>intro e d h;cases h
 |cons a rs ih=>
  intro e d he hd heq
  rw[XW,List.nodup_cons] at hn
  rcases xH.1 he with e1|he2<;>rcases xH.1 hd with e2|hd2
  ·rw[e1,e2]
  ·exact absurd (by rw[← e1,heq];exact List.mem_map_of_mem hd2) hn.1
  ·exact absurd (by rw[← e2,← heq];exact List.mem_map_of_mem he2) hn.1
  ·exact ih hn.2 he2 hd2 heq
theorem alh{r us:List Pr}(hu:us.Nodup)(hm:∀ y,y∈us↔y∈r)(ho:∀ y∈r,Mb y):acI (·∈r) (GH us):=by
 have hou:∀ y∈us,Mb y:=fun y hy=>ho y ((hm y).1 hy)
 have apv:(GH us).Perm us:=List.mergeSort_perm _ _
 have oR:∀ y,y∈GH us↔y∈us:=fun y=>apv.mem_iff
 have VA:(GH us).Nodup:=apv.nodup_iff.2 hu
 refine⟨?_,fun y=>(oR y).trans (hm y)⟩
 have anR:(GH us).Pairwise fun x y=>Mb x∧Mb y∧¬ Vx y x:=by
  let f:{x:Pr // Mb x}→Pr:=Subtype.val
  let le:{x:Pr // Mb x}→{x:Pr // Mb x}→Bool:=fun x y=>!(decide (adt y.1 x.1<0))
  have hl:(us.attachWith Mb hou).map f=us:=List.attachWith_map_subtype_val hou
  have hle:∀ x y:{x:Pr // Mb x},le x y=true↔¬ Vx y.1 x.1:=fun x y=>by simp[le,Vx]
  have hs:=List.pairwise_mergeSort (le:=le)
   (fun x y z h1 h2=>by
    rw[hle] at h1 h2 ⊢
    intro h3
    by_cases h4:Vx y.1 z.1
    ·exact h1 (VC.trans _ _ _ y.2 z.2 x.2 h4 h3)
    ·have:=VC.tri _ _ y.2 z.2 h4 h2
     rw[this] at h1;exact h1 h3)
   (fun x y=>by
    rw[Bool.or_eq_true,hle,hle]
    by_cases h:Vx y.1 x.1
    ·exact .inr (fun h2=>VC.irr _ x.2 (VC.trans _ _ _ x.2 y.2 x.2 h2 h))
    ·exact .inl h) (us.attachWith Mb hou)
  have Yx:((us.attachWith Mb hou).mergeSort le).map f=GH us:=by
   rw[List.map_mergeSort (s:=fun x y=>!(decide (adt y x<0))) (fun a _ b _=>rfl),hl];rfl
  rw[← Yx,List.pairwise_map]
  exact hs.imp fun {x y} h=>⟨x.2,y.2,(hle x y).1 h⟩
 exact(List.Pairwise.and anR VA).imp fun {x y} ⟨⟨ox,oy,h⟩,eM⟩=>by
  by_cases h2:Vx x y
  ·exact h2
  ·exact absurd (VC.tri _ _ ox oy h2 h) eM
end Tp
/-
 SM: the pairs of neighbors, by a map: its keys in order. No condition.
-/
namespace Tp
open Go.Sx Go Tb
structure abT(C:cU):Prop extends Std C where
 aG9:C.raw cM=true
 aoe:∀ (us:List Pr) (b:Key) (h:T ab) (nx:Key),(∀ x∈us,Mb x)→us.length≤1000000→aa b h=some (.cells (aI eP us) .fix)→
  C.sum cM [.slice b 0 us.length 6,.fn qJ [] []] h nx=some (.tuple [],aK b (some (.cells (aI eP (GH us)) .fix)) h,nx)
instance {C:cU}:Coe (abT C) (Std C):=⟨abT.toStd⟩
abbrev aiT(c:AV)(l:List Pr):Prop:=IsR 6 eP c l
@[simp] theorem asp(x:Pr):(eP x).length=6:=rfl
@[simp] theorem azY(x:Pr):List.take 6 (eP x)=eP x:=rfl
def Wa(p:Pr→Prop)(n:Nat)(o:Out):Prop:=∃ c',o=.ret c'∧∃ r,aiT c' r∧acI p r∧r.length≤n
theorem acI.congr{p q:Pr→Prop}{r:List Pr}(hr:acI p r)(h:∀ y,p y↔q y):acI q r:=⟨hr.sr,fun y=>(hr.mem y).trans (h y)⟩
@[simp] theorem aK5(x:Pr)(l:List AV):(eP x++l).take 6=eP x:=rfl
variable{C:cU}(S:abT C)
include S
def alG(b:Key)(rs:List En)(c:Nat)(h:T ab)(nx:Key)(k:Nat)(tm':T AV)(h':T ab)(nx':Key):Prop:=
 ∃ (vs:List En) (pad:List AV),k=rs.length-vs.length∧(∀ e∈vs,e∈rs)∧(vs.map Prod.fst).Nodup∧aa (K 5) tm'=some (.slice nx 0 vs.length 6)∧aa (K 29) tm'=some (.ptr nx.succ 0)∧
  aa nx h'=some (.cells (aI eP (vs.map Prod.snd)++pad) .fix)∧vs.length*6+pad.length=rs.length*6∧aa nx.succ h'=some (.iter b c (vs.map Prod.fst))∧Ext h nx h' nx'∧nx.succ.toNat<nx'.toNat
theorem alH{R:Out→T ab→Key→Prop}{b:Key}{h h1:T ab}{nx:Key}{rs:List En}{c:Nat}(M:U2 b h rs c)(hb:b.toNat<nx.toNat)(hl:rs.length≤1000000)(ho:∀ y∈rs.map Prod.snd,Mb y){tm:T AV}(f0:aa (K 3) tm=some (.map b))(f3:aa (K 5) tm=some (.slice nx 0 0 6)){pad:List AV}
  (hq:aa nx h1=some (.cells pad .fix)) (aHa:pad.length=rs.length*6) (e:Ext h nx h1 nx.succ) (hR:∀ o h' nx',Wa (·∈rs.map Prod.snd) rs.length o→Ext h nx h' nx'→R o h' nx') :
  bt C (.seq (.seq (.ops uE) (.block 2 (.loop uF))) (.seq (.ops sB) (.seq (.ops sD) .ret))) (aN [.tmp (K 2)] R) tm h1 nx.succ:=by
 have s1:=kTSu nx
 have s2:=kTSu nx.succ
 have aHb:stamped b h1=some (LZ rs,c):=(M.Bx (e.g b hb)).st
 simp
 simp[uE,f0,aHb]
 refine W.bV (n:=rs.length) (alG b rs c h nx) ?_ ?_
 ·refine⟨[],pad,by simp,by simp,by simp,?_,?_,?_,by simpa using aHa,?_,e.trans (E0 _ _ _),by omega⟩
  ·simp[f3]
  ·simp
  ·rw[bA (by omega),hq];simp
  ·rw[gTSm];simp
 ·rintro k jk h2 aH ⟨vs,pad,rfl,ac1,VA,g3,g9,hq,vL,hit,e1,aM⟩
  have axT:stamped b h2=some (LZ rs,c):=(M.Bx (e1.g b hb)).st
  have axU:=aet M.lt
  have GJ:=ahy (vs.map Prod.fst) rs
  have axV:(vs.map Prod.snd).Nodup:=by
   have:∀ (ws:List En),(∀ e∈ws,e∈rs)→(ws.map Prod.fst).Nodup→(ws.map Prod.snd).Nodup:=by
    intro ws
    induction ws with
    |nil=>intro _ _;simp
    |cons a ws ih=>
     intro h1 h2
     rw[XW,List.nodup_cons] at h2 ⊢
     refine⟨fun h3=>?_,ih (fun e he=>h1 e (by simp[he])) h2.2⟩
     obtain⟨d,hd1,hd2⟩:=Vn.1 h3
     have:=anQ M.nk (h1 d (by simp[hd1])) (h1 a (by simp)) hd2
     subst this
     exact h2.1 (List.mem_map_of_mem hd1)
   exact this vs ac1 VA
  have hvl:vs.length≤rs.length:=by
   have:=List.Nodup.length_le_of_subset axV (l₂:=rs.map Prod.snd) (fun y hy=>by
    obtain⟨d,hd1,rfl⟩:=Vn.1 hy
    exact List.mem_map_of_mem (ac1 d hd1))
   simpa using this
  have Wq:(aI eP (vs.map Prod.snd)).length=vs.length*6:=by rw[rh.rows,List.length_map]
  refine W.of ?_
  simp[uF]
  cases hf:rs.filter (fun e=>!(Ul e.1 (vs.map Prod.fst))) with
  |nil=>
   rw[hf] at GJ
   have GJ:GI (vs.map Prod.fst) (LZ rs)=[]:=GJ
   have V8:∀ e∈rs,e∈vs:=by
    intro e he
    have h3:Ul e.1 (vs.map Prod.fst)=true:=by
     cases h4:Ul e.1 (vs.map Prod.fst) with
     |true=>rfl
     |false=>
      have:e∈rs.filter (fun e=>!(Ul e.1 (vs.map Prod.fst))):=List.mem_filter.2 ⟨he,by simp[h4]⟩
      rw[hf] at this;cases this
    rw[ZI] at h3
    obtain⟨d,hd1,hd2⟩:=Vn.1 h3
    have:=anP M.nd (ac1 d hd1) he hd2
    subst this;exact hd1
   have hlen:vs.length=rs.length:=by
    have:=List.Nodup.length_le_of_subset M.nk (l₂:=vs.map Prod.snd) (fun y hy=>by
     obtain⟨d,hd1,rfl⟩:=Vn.1 hy
     exact List.mem_map_of_mem (V8 d hd1))
    simp at this;omega
   have hp0:pad=[]:=zqr (by omega)
   subst hp0
   rw[List.append_nil] at hq
   have oR:∀ y,y∈vs.map Prod.snd↔y∈rs.map Prod.snd:=fun y=>
    ⟨fun hy=>by obtain⟨d,hd1,rfl⟩:=Vn.1 hy;exact List.mem_map_of_mem (ac1 d hd1),fun hy=>by obtain⟨d,hd1,rfl⟩:=Vn.1 hy;exact List.mem_map_of_mem (V8 d hd1)⟩
   have hou:∀ y∈vs.map Prod.snd,Mb y:=fun y hy=>ho y ((oR y).1 hy)
   have TU:=alh axV oR ho
   simp[BH,g9,hit,axT,axU,GJ]
   have adp:=S.aoe (vs.map Prod.snd) nx h2 aH hou (by rw[List.length_map];omega) hq
   rw[List.length_map] at adp
   simp[sB,g3,S.aG9]
   refine .inl ⟨_,_,_,adp,?_⟩
   simp
   have hsl:(GH (vs.map Prod.snd)).length=vs.length:=by rw[GH,List.length_mergeSort,List.length_map]
   have hz:=si (n:=9998) (b:=nx) (len:=vs.length) (sz:=6) (l:=aI eP (GH (vs.map Prod.snd))) (H:=aK nx (some (.cells (aI eP (GH (vs.map Prod.snd))) .fix)) h2) (by rw[gTSm]) (by rw[rh.rows,hsl]) (rh.bY _)
   simp[sD,g3,hz]
   refine hR _ _ _ ⟨_,rfl,_,.inr (by rw[hsl]),TU.congr (by simp),by omega⟩ ?_
   first|exact e1.put (bS _)|exact(e1.put (bS _)).put (bS _)
  |cons d r=>
   rw[hf] at GJ
   have GJ:GI (vs.map Prod.fst) (LZ rs)=(d.1,.agg (eP d.2),.bool true) ::LZ r:=GJ
   simp[BH,g9,hit,axT,axU,GJ]
   intro v W9 hm
   obtain⟨s,k,w,UE,rfl,rfl⟩:=aeu hm
   have UE:(s,k,w)∈LZ (d ::r):=UE
   rw[← hf] at UE
   obtain⟨e,he,hee⟩:=Vn.1 UE
   cases hee
   obtain⟨he,hes⟩:=List.mem_filter.1 he
   have hns:e.1∉vs.map Prod.fst:=fun h=>by rw[(ZI e.1 _).2 h] at hes;cases hes
   have alI:((vs ++ [e]).map Prod.fst).Nodup:=by
    rw[List.map_append,List.nodup_append]
    refine⟨VA,by simp,fun a ha b hb hab=>?_⟩
    simp at hb
    subst hb;subst hab
    exact hns ha
   have apG:∀ x∈vs ++ [e],x∈rs:=fun x hx=>by
    rcases List.mem_append.1 hx with hx|hx
    ·exact ac1 x hx
    ·rw[List.mem_singleton.1 hx];exact he
   have aNS:vs.length+1≤rs.length:=by
    have:=List.Nodup.length_le_of_subset alI (l₂:=rs.map Prod.fst) (fun y hy=>by
     obtain⟨d,hd1,rfl⟩:=Vn.1 hy
     exact List.mem_map_of_mem (apG d hd1))
    simpa using this
   have t2:=kTSu aH
   have t3:=kTSu aH.succ
   have aHc:stamped b (aK nx.succ (some (.iter b c (vs.map Prod.fst ++ [e.1]))) h2)=some (LZ rs,c):=(M.Bx (by rw[bA (by omega)];exact e1.g b hb)).st
   have ajz:=abp (vs.map Prod.fst) e.1
   have ak2:=ahz M.nd he
   have hz:∀ H,az (ax 9999) (eP e.2) H=(eP e.2,H):=fun H=>av (rh.jh _)
   simp
   simp[Mt,g9,aHc,ajz,ak2]
   have hq2:aa nx (aK aH.succ (some (.cells (eP e.2) .fix)) (aK aH (some (.cells (eP e.2) .fix)) (aK nx.succ (some (.iter b c (vs.map Prod.fst ++ [e.1]))) h2)))=some (.cells (aI eP (vs.map Prod.snd)++pad) .fix):=by
    rw[bA (by omega),bA (by omega),bA (by omega)];exact hq
   have aHd:(vs.length+1)*6≤(aI eP (vs.map Prod.snd)).length+pad.length:=by rw[Wq];omega
   have axW:vs.length*6+6≤(aI eP (vs.map Prod.snd)).length+pad.length:=by rw[Wq];omega
   have aHe:vs.length+1≤1048576:=by omega
   have ad8:List.take (vs.length*6) (aI eP (vs.map Prod.snd)++pad)++(eP e.2++List.drop (vs.length*6+6) (aI eP (vs.map Prod.snd)++pad))=aI eP ((vs ++ [e]).map Prod.snd)++pad.drop 6:=by
    rw[List.take_append_of_le_length (by omega),XO (by omega),zqq,List.drop_eq_nil_of_le (by omega),Wq,List.map_append,IB]
    simp[abf,show vs.length*6+6-vs.length*6=6 by omega]
   simp[I8,g3,hz,hq2,aHd,axW,aHe,ad8]
   refine⟨rs.length-(vs.length+1),by omega,?_⟩
   unfold alG
   refine⟨vs ++ [e],pad.drop 6,by simp,apG,alI,?_,?_,?_,?_,?_,?_,by omega⟩
   ·simp
   ·simp[g9]
   ·rw[gTSm];simp
   ·rw[Lc,List.length_drop,List.length_singleton];omega
   ·rw[bU _ _ _ _ (aG (by omega)),bA (by omega),bA (by omega),gTSm];simp
   ·exact((((e1.put (k:=nx.succ) (by omega)).trans (E0 _ aH _)).trans (E0 _ aH.succ _)).put (bS _))
end Tp
/-
 SM: the reference's branches of an expression: the walk. No condition.
-/
namespace Tb
open Go.Sx Go
abbrev afR(c:AV)(us:List Br):Prop:=IsR 3 eB c us
def Zp(us:List Br)(h:T ab)(nx:Key)(o:Out)(h':T ab)(nx':Key):Prop:=(∃ c',o=.ret c'∧afR c' us)∧Ext h nx h' nx'
theorem afR.cell{c:AV}{us:List Br}(h:afR c us):c.aD=true∧c.cells=[c]∧∀ n H,ax n c H=(c,H):=by
 rcases h with⟨rfl,_⟩|rfl
 ·exact⟨rfl,rfl,QS⟩
 ·exact⟨rfl,rfl,fun n H=>VH _ _ _ n H⟩
theorem ag8{orc:pF}{k k':Key}{c x:AV}{us vs:List Br}{tm:T AV}{h:T ab}{nx n0:Key}(hk:aa k tm=some c)(Ed:aa k' tm=some x)(hc:App c (aI eB us) us.length 3 h nx n0)(hx:afR x vs)(hn:n0.toNat≤nx.toNat)(hl:us.length+vs.length≤1048576) :
  ∃ c' h' nx',aOp orc (.append 3 (.t k) (.t k')) tm h nx=.val c' h' nx'∧App c' (aI eB (us++vs)) (us++vs).length 3 h' nx' n0∧nx.toNat≤nx'.toNat∧∀ b:Key,b.toNat<n0.toNat→aa b h'=aa b h:=by
 rcases hx with⟨rfl,rfl⟩|rfl
 ·obtain⟨c2,h2,aH,g,A2,x1,x2,_⟩:=hc.ae0 (new:=[]) (m:=0) hn (by simp) (by omega) (by simp)
  refine⟨c2,h2,aH,?_,by simpa using A2,x1,x2⟩
  simp[-appendTo,hk,Ed,g]
 ·obtain⟨c2,h2,aH,g,A2,x1,x2,_⟩:=hc.ae0 (new:=aI eB vs) (m:=vs.length) hn (by rw[jr.rows]) hl (mi.2 fun y hy=>by
   obtain⟨r,hr,hy⟩:=List.mem_flatten.1 (show y∈(vs.map eB).flatten from hy)
   obtain⟨b,_,rfl⟩:=Vn.1 hr
   exact jr.cell b y hy)
  rw[← IB] at A2
  exact⟨c2,h2,aH,by simp[-appendTo,hk,Ed,g],by rw[Lc];exact A2,x1,x2⟩
theorem ag9{C:cU}{Q:bp}{dst k k':Key}{l:List J}{c x:AV}{us vs:List Br}{tm:T AV}{h:T ab}{nx n0:Key}(hk:aa k tm=some c)(Ed:aa k' tm=some x)(hc:App c (aI eB us) us.length 3 h nx n0)(hx:afR x vs)(hn:n0.toNat≤nx.toNat)(hl:us.length+vs.length≤1048576)
  (hQ:∀ c' h' nx',App c' (aI eB (us++vs)) (us++vs).length 3 h' nx' n0→nx.toNat≤nx'.toNat→(∀ b:Key,b.toNat<n0.toNat→aa b h'=aa b h)→eu C Q l (aK dst (some c') tm) h' nx'):eu C Q (⟨some dst,.append 3 (.t k) (.t k'),none⟩ ::l) tm h nx:=by
 obtain⟨c',h',nx',g,A,VE,hf⟩:=ag8 (orc:=C.orc) hk Ed hc hx hn hl
 rw[KP,wants_none,Ej,g]
 exact hQ c' h' nx' A VE hf
theorem akB{C:cU}{Q:bp}{d:SD}{i:Nat}{dst k k':Key}{l:List bx}{c x:AV}{us vs:List Br}{tm:T AV}{h:T ab}{nx n0:Key}(hk:aa k tm=some c)(Ed:aa k' tm=some x)(hc:App c (aI eB us) us.length 3 h nx n0)(hx:afR x vs)(hn:n0.toNat≤nx.toNat)(hl:us.length+vs.length≤1048576)
  (hQ:∀ c' h' nx',App c' (aI eB (us++vs)) (us++vs).length 3 h' nx' n0→nx.toNat≤nx'.toNat→(∀ b:Key,b.toNat<n0.toNat→aa b h'=aa b h)→wpS C Q d l [] (aK dst (some c') tm) h' nx'):wpS C Q d (.H i ⟨some dst,.append 3 (.t k) (.t k'),none⟩ [] ::l) [] tm h nx:=by
 obtain⟨c',h',nx',g,A,VE,hf⟩:=ag8 (orc:=C.orc) hk Ed hc hx hn hl
 rw[av1,wants_none,aiy]
 simp only[List.filter_nil,afS]
 rw[g]
 exact hQ c' h' nx' A VE hf
theorem aiz(dn dc:Nat)(a:Int)(i:Nat):KV dn dc a (i+1)=KV dn dc a i ++ [⟨dn,dc,a,(i:Int)⟩]:=by
 unfold KV
 rw[List.range_succ,List.map_append];rfl
theorem V1{f:List AV→List Br}{rs:List (List AV)}{i:Nat}(h:i<rs.length):((rs.take (i+1)).map f).flatten=((rs.take i).map f).flatten++f rs[i]:=by
 rw[zqu h,List.map_append,List.flatten_append];simp
theorem X9(f:List AV→List Br)(rs:List (List AV))(i:Nat):((rs.take i).map f).flatten.length≤(rs.map f).flatten.length:=by
 have:rs.map f=(rs.take i).map f++(rs.drop i).map f:=by rw[← List.map_append,List.take_append_drop]
 rw[this,List.flatten_append,Lc];omega
variable{C:cU}(S:Std C)
include S
def InA(dn dc:Nat)(a:Int)(n:Nat)(b:Key)(h:T ab)(nx:Key)(k:Nat)(tm':T AV)(h':T ab)(nx':Key):Prop:=
 ∃ (i:Nat) (c:AV),k=n-i∧i≤n∧aa (K 1) tm'=some (.str dn dc)∧aa (K 2) tm'=some (.ptr b 0)∧aa (K 5) tm'=some c∧aa (K 6) tm'=some (I n)∧aa (K 7) tm'=some (I i)∧App c (aI eB (KV dn dc a i)) (KV dn dc a i).length 3 h' nx' nx∧Ext h nx h' nx'
def InK(dn dc:Nat)(p:List Br)(rs:List (List AV))(b:Key)(h:T ab)(nx:Key)(k:Nat)(tm':T AV)(h':T ab)(nx':Key):Prop:=
 ∃ (i:Nat) (c:AV),k=rs.length-i∧i≤rs.length∧aa (K 1) tm'=some (.str dn dc)∧aa (K 2) tm'=some (.ptr b 0)∧aa (K 5) tm'=some c∧aa (K 8) tm'=some (I i)∧App c (aI eB (p++((rs.take i).map (xy dn dc)).flatten)) (p++((rs.take i).map (xy dn dc)).flatten).length 3 h' nx' nx∧Ext h nx h' nx'
abbrev inE:U:=((U.ops Fa).seq (.block 0 (.loop Fe))).seq (((U.ops BV).seq (.block 2 (.loop Ff))).seq ((U.ops uM).seq .ret))
theorem afT{dn dc:Nat}:∀ (m:Nat) {l:List AV},sizeOf l=m→cJ W0 sj l→AV.iN l≤300000→∀ (h:T ab) (nx:Key),aO C pK [.agg l,.str dn dc] h nx (Zp (xy dn dc l) h nx):=by
 intro m
 induction m using Nat.strongRecOn with
 |ind m ih=>
 intro l hm ol hw h nx
 have q1:C.raw pK=false:=S.raw _ (by decide)
 have hlen:=aha dn dc m hm ol
 have Rz:∀ r∈WM l,sizeOf r<sizeOf l:=fun r hr=>Ya hr
 obtain⟨a,b,c,d,e,f,g,rfl,oa,ob,oc,od,oe,of,og⟩:=ex7 ol
 have ek:WM [a,b,c,d,e,f,g]=ju f:=rfl
 rw[acx,ek] at hlen ⊢
 rw[ek] at Rz
 clear ek
 simp only[List.getD_cons_zero,List.getD_cons_succ] at hlen ⊢
 cases id oa with
 |int kd _ _=>
 cases id og with
 |int at' _ _=>
 simp only[am5] at hlen ⊢
 obtain⟨hf,jG,On,hwf⟩:=jg (z:=7) rfl of
 generalize ju f=rs at hf jG On hwf hlen Rz ⊢
 rw[Lc,UR] at hlen
 have hlen:tB kd d+(rs.map (xy dn dc)).flatten.length≤1000000:=by omega
 have s0:=kTSu nx
 have x0:=E0 h nx (.cells [I kd,b,c,d,e,f,I at'] .fix)
 have ld:bP d≤100000:=by
  cases od with
  |nil=>simp[bP]
  |sl _ rs kQ _=>simpa[bP] using kQ
 have hal:tB kd d≤100002:=by have:=ahb (k:=kd) (names:=d);omega
 refine S.aax.call ?_
 simp[GZ]
 simp[Pj]
 simp[Pk]
 simp[Pl]
 have g0:aa nx (aK nx (some (.cells [I kd,b,c,d,e,f,I at'] .fix)) h)=some (.cells [I kd,b,c,d,e,f,I at'] .fix):=by rw[gTSm]
 generalize aK nx (some (.cells [I kd,b,c,d,e,f,I at'] .fix)) h=Hb at x0 g0 ⊢
 -- behind the number of aMG
 have main:∀ tm,aa (K 1) tm=some (.str dn dc)→aa (K 2) tm=some (.ptr nx 0)→aa (K 5) tm=some .nils→aa (K 6) tm=some (I (tB kd d))→bt C inE (aN [RV.tmp (K 4)] (Zp (KV dn dc at' (tB kd d)++(rs.map (xy dn dc)).flatten) h nx)) tm Hb nx.succ:=by
  intro tm e1 e2 e5 e6
  simp
  simp[Fa]
  refine W.bV (n:=tB kd d) (InA dn dc at' (tB kd d) nx Hb nx.succ) ?_ ?_
  ·exact⟨0,.nils,by omega,by omega,by simp[e1],by simp[e2],by simp[e5],by simp[e6],by simp,App.nil 3,Ext.refl _ _⟩
  clear e1 e2 e5 e6
  rintro k jk h1 aY ⟨i,c1,rfl,hi,e1,e2,e5,e6,e7,A1,x1⟩
  refine W.of ?_
  have gb:aa nx h1=some (.cells [I kd,b,c,d,e,f,I at'] .fix):=by rw[x1.g nx (by omega)];exact g0
  simp[Fe]
  by_cases aM:i<tB kd d
  ·have aX:(i:Int)<tB kd d:=by omega
   have hw1:=jH (n:=200000) (i:=i) (by omega) |> fun f=>(br (n:=(i:Int)+1) (by omega) (by omega))
   have s1:=kTSu aY
   have TO:aW .i64 ((i:Int)+1)=((i+1:Nat):Int):=by rw[hw1];simp
   have A2:=A1.ext (E0 h1 aY (.cells (eB ⟨dn,dc,at',(i:Int)⟩) .fix))
   obtain⟨c3,h3,dw,g3,A3,m1,m2,_⟩:=A2.aqu jr (by have:=x1.n;omega) (by rw[UR];omega) ⟨dn,dc,at',(i:Int)⟩
   have eb:eB ⟨dn,dc,at',(i:Int)⟩=[.str dn dc,I at',I i]:=rfl
   rw[eb] at g3
   simp[Fc,e6,e7,aX]
   simp[-appendTo,Pn,e1,e2,e5,e7,gb,g3]
   simp[MH,e7,TO]
   refine⟨tB kd d-(i+1),by omega,?_⟩
   rw[← aiz] at A3
   unfold InA
   exact⟨i+1,c3,rfl,by omega,by simp[e1],by simp[e2],by simp,by simp[e6],by simp,A3,by have:=x1.n;omega,fun q hq=>by rw[m2 q (by omega),bA (by have:=x1.n;omega),x1.g q hq]⟩
  ·have LV:i=tB kd d:=by omega
   have aX:¬ (i:Int)<tB kd d:=by omega
   simp[Fc,e6,e7,aX]
   rw[LV] at A1
   clear aM aX LV e6 e7 hi
   simp[BV]
   refine W.bV (n:=rs.length) (InK dn dc (KV dn dc at' (tB kd d)) rs nx Hb nx.succ) ?_ ?_
   ·exact⟨0,c1,by omega,by omega,by simp[e1],by simp[e2],by simp[e5],by simp,by simpa using A1,x1⟩
   clear A1 x1 e1 e2 e5 gb
   rintro k xD h2 aH ⟨j,c2,rfl,hj,e1,e2,e5,e8,A2,x2⟩
   refine W.of ?_
   have gb:aa nx h2=some (.cells [I kd,b,c,d,e,f,I at'] .fix):=by rw[x2.g nx (by omega)];exact g0
   have n2:=x2.n
   simp[Ff]
   have fin:∀ Vp,aa (K 5) Vp=some c2→j=rs.length→bt C ((U.ops uM).seq .ret) (aN [RV.tmp (K 4)] (Zp (KV dn dc at' (tB kd d)++(rs.map (xy dn dc)).flatten) h nx)) Vp h2 aH:=by
    intro Vp e5 UM
    rw[UM,List.take_length] at A2
    obtain⟨z1,z2⟩:=A2.ahc jr 9998
    simp
    simp[uM,e5]
    exact⟨⟨_,rfl,z1⟩,by omega,fun q hq=>by rw[z2 q (by omega),x2.g q (by omega),x0.g q hq]⟩
   simp at fin
   by_cases aM:j<rs.length
   ·have aX:(j:Int)<rs.length:=by omega
    have hws:=jH aM On
    rcases hf with⟨rfl,kQ⟩|rfl
    ·rw[kQ] at aM;simp at aM
    ·obtain⟨er,lX⟩:=jG.at_ aM
     have ez:(W0 4).length=7:=rfl
     rw[ez] at er
     have se:rs[j].length=7:=lX.len
     have RJ:=jG.len
     rw[ez] at RJ
     have h3:7≤rs.flatten.length-j*7:=by omega
     have hz:∀ n H,az (ax n) rs[j] H=(rs[j],H):=fun n H=>av lX.bY
     have hwr:AV.iN rs[j]≤AV.iN rs.flatten:=by
      have:∀ {qs:List (List AV)} {q:List AV},q∈qs→AV.iN q≤AV.iN qs.flatten:=by
       intro qs
       induction qs with
       |nil=>intro q hq;simp at hq
       |cons p qs ih=>
        intro q hq
        rw[Xh,vg]
        rcases xH.1 hq with rfl|hq
        ·omega
        ·have:=ih hq;omega
      exact this (XV aM)
     simp at hw hwf
     have ua:=ih _ (by rw[← hm];exact Rz _ (XV aM)) rfl lX (by omega) h2 aH
     have hks:=V1 (f:=xy dn dc) aM
     have hkl:=X9 (xy dn dc) rs (j+1)
     have aMH:=X9 (xy dn dc) rs j
     rw[hks,Lc] at hkl
     generalize xy dn dc rs[j]=ub at ua hks hkl
     generalize rs[j]=r at er se hz ua
     skip
     generalize rs.flatten=L at gb er h3
     simp[uL,e2,e8,gb,aX]
     simp[MI,e1,e2,e5,e8,gb,aM,h3,er,se,sh se,hz,q1]
     refine ua.mono ?_
     rintro o h4 jq ⟨⟨c4,rfl,B4⟩,x4⟩
     simp only[acy,putTm_some]
     refine ag9 (us:=KV dn dc at' (tB kd d)++((rs.take j).map (xy dn dc)).flatten) (vs:=ub) (c:=c2) (x:=c4) (by simp) (by simp) (A2.ext x4) B4 (by have:=x4.n;omega) (by rw[Lc,UR];omega) fun c5 h5 iW A5 n5 f5=>?_
     simp
     simp[MJ,e8,hws]
     refine⟨rs.length-(j+1),by omega,?_⟩
     rw[List.append_assoc,← hks] at A5
     unfold InK
     exact⟨j+1,c5,rfl,by omega,by simp[e1],by simp[e2],by simp,by simp,A5,by have:=x4.n;omega,fun q hq=>by rw[f5 q (by omega),x4.g q (by omega),x2.g q hq]⟩
   ·have aX:¬ (j:Int)<rs.length:=by omega
    rcases hf with⟨rfl,kQ⟩|rfl
    ·have hj0:j=0:=by rw[kQ] at hj;simpa using hj
     subst hj0
     simp[uL,e2,e8,gb]
     exact fin _ (by simp[e5]) (by rw[kQ];rfl)
    ·generalize rs.flatten=L at gb
     simp[uL,e2,e8,gb,aX]
     exact fin _ (by simp[e5]) (by omega)
 simp at main
 have hd2:d=.nils∨∃ L n,d=.sl L n 1 .any:=by
  cases od with
  |nil=>exact .inl rfl
  |sl _ rs _ _=>exact .inr ⟨_,_,rfl⟩
 rcases du kd 6 with⟨hk,cB⟩|⟨hk,cB⟩
 ·subst hk
  simp[wb,g0]
  simp[Pm]
  simp[wc,g0]
  exact main _ (by simp) (by simp) (by simp) (by simp[tB])
 ·rcases du kd 8 with⟨hk8,av2⟩|⟨hk8,av2⟩
  ·subst hk8
   simp[wb,g0]
   simp[wc,g0]
   rcases hd2 with rfl|⟨L,n,rfl⟩
   ·simp[E3,g0]
    exact main _ (by simp) (by simp) (by simp) (by simp[tB,bP])
   ·simp[E3,g0]
    exact main _ (by simp) (by simp) (by simp) (by simp[tB,bP])
  ·simp[wb,g0,cB]
   simp[wc,g0,av2]
   exact main _ (by simp) (by simp) (by simp) (by simp[tB,hk,hk8])
end Tb
/-
 SM: the expressions of a declaration, its branches and those of a module, in the plain. No condition.
-/
namespace Tb
open Go.Sx Go
def ckP(c:AV):List (List AV):=(ju c).map (List.drop 1)
def cm3(r:List AV):List (List AV):=[(r.drop 2).take 7,(r.drop 9).take 7,(r.drop 16).take 7]
def cmP(c:AV):List (List AV):=((ju c).map cm3).flatten
def ac2(r:List AV):List (List AV):=[r.take 7,(r.drop 7).take 7]
def acP(c:AV):List (List AV):=((ju c).map ac2).flatten
def op1(r:List AV):List (List AV):=acP (r.getD 2 .nils)
def opP(c:AV):List (List AV):=((ju c).map op1).flatten
def r8(l:List AV):List (List AV):=
 if intOf (l.getD 0 .nils)=1 then [(l.drop 8).take 7] else
 if intOf (l.getD 0 .nils)=3 then ckP (l.getD 23 .nils)++ckP (l.getD 24 .nils) else
 if intOf (l.getD 0 .nils)=4 then(l.drop 29).take 7 ::cmP (l.getD 36 .nils) else
 if intOf (l.getD 0 .nils)=5 then(l.drop 29).take 7 ::(l.drop 38).take 7 ::opP (l.getD 37 .nils) else []
def axB:AV→Nat
 |.str n _=>n
 |_=>0
def axC:AV→Nat
 |.str _ c=>c
 |_=>0
def ofD(l:List AV):List Br:=((r8 l).map (xy (axB (l.getD 1 .nils)) (axC (l.getD 1 .nils)))).flatten
def allM(c:AV):List Br:=((ju c).map ofD).flatten
def wP(ps:List (List AV)):Nat:=ps.length+AV.iN ps.flatten
@[simp] theorem aGR:wP []=0:=by simp[wP]
@[simp] theorem Yg(p:List AV)(ps:List (List AV)):wP (p ::ps)=1+AV.iN p+wP ps:=by simp[wP];omega
@[simp] theorem alr(a b:List (List AV)):wP (a++b)=wP a+wP b:=by simp[wP];omega
theorem ahE(n:Nat):∀ l:List AV,AV.iN (l.take n)≤AV.iN l:=by
 intro l
 have:AV.iN l=AV.iN (l.take n)+AV.iN (l.drop n):=by rw[← vg,List.take_append_drop]
 omega
theorem ahF(n:Nat):∀ l:List AV,AV.iN (l.drop n)≤AV.iN l:=by
 intro l
 have:AV.iN l=AV.iN (l.take n)+AV.iN (l.drop n):=by rw[← vg,List.take_append_drop]
 omega
theorem ZM(i n:Nat)(l:List AV):AV.iN ((l.drop i).take n)≤AV.iN l:=Nat.le_trans (ahE _ _) (ahF _ _)
theorem als:∀ {l:List AV} {x:AV},x∈l→AV.wt x≤AV.iN l
 |y ::l,x,h=>by
  rw[Y7]
  rcases xH.1 h with rfl|h
  ·omega
  ·have:=als h;omega
theorem U8(i:Nat)(l:List AV):AV.wt (l.getD i .nils)≤AV.iN l:=by
 rw[List.getD_eq_getElem?_getD]
 by_cases h:i<l.length
 ·rw[Af h];exact als (XV h)
 ·rw[zqo (by omega)];simp
theorem ago(f:List AV→List (List AV))(q:Nat)(hf:∀ r,wP (f r)≤q*(1+AV.iN r)):∀ rs:List (List AV),wP (rs.map f).flatten≤q*wP rs
 | []=>by simp
 |r ::rs=>by
  have h1:=hf r
  have h2:=ago f q hf rs
  simp only[XW,Xh,alr,Yg]
  rw[Nat.mul_add];omega
theorem U9{k:Nat}{c:AV}(h:dg W0 (.sl k) c):wP (ju c)=AV.wt c:=(jg rfl h).2.2.2.symm
theorem apB{c:AV}(h:dg W0 (.sl 9) c):wP (ckP c)≤AV.wt c:=by
 have h2:∀ rs:List (List AV),wP (rs.map (List.drop 1))≤wP rs:=by
  intro rs
  induction rs with
  |nil=>simp
  |cons r rs ih=>have:=ahF 1 r;simp;simp at this;omega
 rw[← U9 h]
 exact h2 _
theorem axD{c:AV}(h:dg W0 (.sl 11) c):wP (cmP c)≤3*AV.wt c:=by
 rw[← U9 h]
 exact ago cm3 3 (fun r=>by
  have h1:=ZM 2 7 r
  have h2:=ZM 9 7 r
  have h3:=ZM 16 7 r
  simp[cm3];omega) _
theorem axE{c:AV}(h:dg W0 (.sl 13) c):wP (acP c)≤2*AV.wt c:=by
 rw[← U9 h]
 exact ago ac2 2 (fun r=>by
  have h1:=ahE 7 r
  have h2:=ZM 7 7 r
  simp[ac2];omega) _
theorem alu{r:List AV}(h:cJ W0 (W0 12) r):dg W0 (.sl 13) (r.getD 2 .nils):=by
 obtain⟨c,e,o⟩:=h.get (i:=2) rfl
 rw[List.getD_eq_getElem?_getD,e];exact o
theorem axF{c:AV}(h:dg W0 (.sl 12) c):wP (opP c)≤2*AV.wt c:=by
 obtain⟨_,jG,_,_⟩:=jg (z:=3) rfl h
 rw[← U9 h]
 unfold opP
 generalize ju c=rs at jG
 induction rs with
 |nil=>simp
 |cons r rs ih=>
  cases jG with
  |cons _ _ _ hr hs=>
   have h1:=ih hs
   have h2:=axE (alu hr)
   have h3:=U8 2 r
   simp only[XW,Xh,alr,Yg,op1]
   omega
theorem _root_.Go.Sx.dy.Q6{k k':Nat}(f:List AV→List (List AV))(hf:∀ r,cJ W0 (W0 k) r→dy W0 k' (f r)):∀ {rs:List (List AV)},dy W0 k rs→dy W0 k' (rs.map f).flatten
 |_,.nil _=>.nil _
 |_,.cons _ _ _ hr h=>by
  rw[XW,Xh]
  exact(hf _ hr).app (Go.Sx.dy.Q6 f hf h)
theorem apC{c:AV}(h:dg W0 (.sl 9) c):dy W0 4 (ckP c):=by
 obtain⟨_,jG,_,_⟩:=jg (z:=8) rfl h
 have e:ckP c=((ju c).map fun r=>[r.drop 1]).flatten:=by
  unfold ckP
  generalize ju c=rs
  induction rs with
  |nil=>rfl
  |cons r rs ih=>
   have ih:=ih
   simp at ih ⊢
   exact ih
 rw[e]
 exact Go.Sx.dy.Q6 (k:=9) (k':=4) _ (fun r hr=>dy.one (k:=4) (show cJ W0 (W0 4) (r.drop 1) from gn 1 hr)) jG
theorem axG{c:AV}(h:dg W0 (.sl 11) c):dy W0 4 (cmP c):=by
 obtain⟨_,jG,_,_⟩:=jg (z:=23) rfl h
 exact Go.Sx.dy.Q6 (k:=11) (k':=4) cm3 (fun r hr=>.cons _ _ _ (show cJ W0 (W0 4) _ from iu 7 (gn 2 hr)) (.cons _ _ _ (show cJ W0 (W0 4) _ from iu 7 (gn 9 hr)) (dy.one (k:=4) (show cJ W0 (W0 4) _ from iu 7 (gn 16 hr))))) jG
theorem axH{c:AV}(h:dg W0 (.sl 13) c):dy W0 4 (acP c):=by
 obtain⟨_,jG,_,_⟩:=jg (z:=14) rfl h
 exact Go.Sx.dy.Q6 (k:=13) (k':=4) ac2 (fun r hr=>.cons _ _ _ (show cJ W0 (W0 4) _ from iu 7 hr) (dy.one (k:=4) (show cJ W0 (W0 4) _ from iu 7 (gn 7 hr)))) jG
theorem axI{c:AV}(h:dg W0 (.sl 12) c):dy W0 4 (opP c):=by
 obtain⟨_,jG,_,_⟩:=jg (z:=3) rfl h
 exact Go.Sx.dy.Q6 (k:=12) (k':=4) op1 (fun r hr=>axH (alu hr)) jG
theorem mK{l:List AV}{i:Nat}{x:AV}(h:l[i]?=some x):l.getD i .nils=x:=by rw[List.getD_eq_getElem?_getD,h];rfl
theorem U3{l:List AV}(ol:cJ W0 (W0 14) l):dy W0 4 (r8 l)∧wP (r8 l)≤2+4*AV.iN l:=by
 obtain⟨kd,sn,sc,ct,pa,ty,bo,dp,ge,dr,ch,cl,cm,st,mc,co,op,re,D⟩:=adG ol
 have w23:=U8 23 l
 have w24:=U8 24 l
 have w36:=U8 36 l
 have w37:=U8 37 l
 have w8:=ZM 8 7 l
 have w29:=ZM 29 7 l
 have w38:=ZM 38 7 l
 unfold r8
 rw[mK D.a0,mK D.a23,mK D.a24,mK D.a36,mK D.a37,D.t8,D.t29,D.t38]
 rw[mK D.a23] at w23
 rw[mK D.a24] at w24
 rw[mK D.a36] at w36
 rw[mK D.a37] at w37
 rw[D.t8] at w8
 rw[D.t29] at w29
 rw[D.t38] at w38
 have h1:=apB D.ch_
 have h2:=apB D.cl_
 have h3:=axD D.co_
 have h4:=axF D.op_
 split
 ·exact⟨dy.one (k:=4) D.bo_,by simp;omega⟩
 split
 ·exact⟨(apC D.ch_).app (apC D.cl_),by simp;omega⟩
 split
 ·exact⟨.cons _ _ _ D.RA (axG D.co_),by simp;omega⟩
 split
 ·exact⟨.cons _ _ _ D.RA (.cons _ _ _ D.re_ (axI D.op_)),by simp;omega⟩
 ·exact⟨.nil _,by simp⟩
theorem abu(dn dc:Nat):∀ {ps:List (List AV)},dy W0 4 ps→(ps.map (xy dn dc)).flatten.length≤3*wP ps
 |_,.nil _=>by simp
 |_,.cons _ r rs hr h=>by
  have h1:=aha dn dc _ rfl hr
  have h2:=abu dn dc h
  simp only[XW,Xh,Lc,Yg]
  omega
theorem ali{l:List AV}(ol:cJ W0 (W0 14) l):(ofD l).length≤12*(1+AV.iN l):=by
 obtain⟨h1,h2⟩:=U3 ol
 have:=abu (axB (l.getD 1 .nils)) (axC (l.getD 1 .nils)) h1
 unfold ofD
 omega
theorem ahC{c:AV}(oc:dg W0 (.sl 14) c):(allM c).length≤12*AV.wt c:=by
 obtain⟨_,jG,_,_⟩:=jg (z:=45) rfl oc
 rw[← U9 oc]
 unfold allM
 generalize ju c=rs at jG
 induction rs with
 |nil=>simp
 |cons r rs ih=>
  cases jG with
  |cons _ _ _ hr hs=>
   have h1:=ih hs
   have h2:=ali hr
   simp only[XW,Xh,Lc,Yg]
   omega
theorem NQ.flat{α:Type}{f:α→List Br}{rs:List α}(h:∀ r∈rs,NQ (f r)):NQ (rs.map f).flatten:=fun y hy=>by
 obtain⟨us,hu,hy⟩:=List.mem_flatten.1 hy
 obtain⟨r,hr,rfl⟩:=Vn.1 hu
 exact h r hr y hy
theorem an1{l:List AV}(ol:cJ W0 (W0 14) l):∃ sn sc,l.getD 1 .nils=.str sn sc∧sc<256^sn∧sn≤10000:=by
 obtain⟨c1,e1,o1⟩:=ol.get (i:=1) rfl
 cases o1 with
 |str sn sc a b=>exact⟨sn,sc,mK e1,a,b⟩
theorem axJ{l:List AV}(ol:cJ W0 (W0 14) l):NQ (ofD l):=by
 obtain⟨sn,sc,e,h,_⟩:=an1 ol
 unfold ofD
 rw[e]
 exact NQ.flat fun r _=>asw h _ rfl
theorem as4{c:AV}(oc:dg W0 (.sl 14) c):NQ (allM c):=by
 obtain⟨_,jG,_,_⟩:=jg (z:=45) rfl oc
 exact NQ.flat fun r hr=>axJ (jG.mem r hr)
end Tb
/-
 SM: the reference's expressions of a declaration: the walk. No condition.
-/
namespace Tb
open Go.Sx Go
def as1(c:AV)(ps:List (List AV)):Prop:=(c=.nils∧ps=[])∨c=.sl ps.flatten ps.length 7 .any
def ahA(ps:List (List AV))(h:T ab)(nx:Key)(o:Out)(h':T ab)(nx':Key):Prop:=(∃ c',o=.ret c'∧as1 c' ps)∧Ext h nx h' nx'
theorem as1.cell{c:AV}{ps:List (List AV)}(h:as1 c ps):c.aD=true∧c.cells=[c]∧∀ n H,ax n c H=(c,H):=by
 rcases h with⟨rfl,_⟩|rfl
 ·exact⟨rfl,rfl,QS⟩
 ·exact⟨rfl,rfl,fun n H=>VH _ _ _ n H⟩
theorem alk{c:AV}{ps qs:List (List AV)}{h:T ab}{nx n0:Key}(hA:App c ps.flatten ps.length 7 h nx n0)(h0:n0.toNat≤nx.toNat)(hq:dy W0 4 qs)(hl:ps.length+qs.length≤1048576) :
  ∃ c' h' nx',appendTo 7 c qs.flatten qs.length h nx=.val c' h' nx'∧App c' (ps++qs).flatten (ps++qs).length 7 h' nx' n0∧nx.toNat≤nx'.toNat∧∀ b:Key,b.toNat<n0.toNat→aa b h'=aa b h:=by
 obtain⟨c2,h2,aH,g,A2,x1,x2,_⟩:=hA.ae0 (new:=qs.flatten) (m:=qs.length) h0 hq.len hl hq.aU
 exact⟨c2,h2,aH,g,by rw[List.flatten_append,Lc];exact A2,x1,x2⟩
structure Pq(b:Key)(l:List AV)(ps:List (List AV))(Hb:T ab)(nb:Key)(tm:T AV)(h:T ab)(nx:Key):Prop where
 e1:aa (K 1) tm=some (.ptr b 0)
 c:∃ c,aa (K 3) tm=some c∧App c ps.flatten ps.length 7 h nx nb
 x:Ext Hb nb h nx
 lt:b.toNat<nb.toNat
 g0:aa b Hb=some (.cells l .fix)
variable{b:Key}{l:List AV}{ps:List (List AV)}{Hb h:T ab}{nb nx:Key}{tm:T AV}
theorem Pq.g(X:Pq b l ps Hb nb tm h nx):aa b h=some (.cells l .fix):=by rw[X.x.g b X.lt];exact X.g0
theorem Pq.aQ{tm':T AV}(X:Pq b l ps Hb nb tm h nx)(e1:aa (K 1) tm'=aa (K 1) tm:=by simp)(e3:aa (K 3) tm'=aa (K 3) tm:=by simp):Pq b l ps Hb nb tm' h nx:=by
 obtain⟨c,a,A⟩:=X.c
 exact⟨e1.trans X.e1,⟨c,e3.trans a,A⟩,X.x,X.lt,X.g0⟩
theorem Yb{r:List AV}{qs:List (List AV)}(h:cJ W0 sj r)(k:dy W0 4 qs):dy W0 4 (r ::qs):=.cons _ _ _ h k
theorem Pq.more(X:Pq b l ps Hb nb tm h nx){qs:List (List AV)}(oq:dy W0 4 qs){L:List AV}{m:Nat}(hL:qs.flatten=L)(hm:qs.length=m)(hl:ps.length+m≤1048576) :
  ∃ c c' h' nx',aa (K 3) tm=some c∧appendTo 7 c L m (aK nx (some (.cells L .fix)) h) nx.succ=.val c' h' nx'∧∀ tm',aa (K 1) tm'=some (.ptr b 0)→aa (K 3) tm'=some c'→Pq b l (ps++qs) Hb nb tm' h' nx':=by
 subst hL hm
 obtain⟨c,a,A⟩:=X.c
 have s1:=kTSu nx
 have xn:=X.x.n
 obtain⟨c',h',nx',g,A2,n2,f2⟩:=alk (A.ext (E0 h nx (.cells qs.flatten .fix))) (by omega) oq hl
 exact⟨c,c',h',nx',a,g,fun tm' e1 e3=>⟨e1,⟨c',e3,A2⟩,⟨by omega,fun q hq=>by rw[f2 q hq,bA (by omega),X.x.g q hq]⟩,X.lt,X.g0⟩⟩
variable{C:cU}(S:Std C)
variable{kd:Int}{sn sc:Nat}{ct pa:AV}{ty bo:List AV}{dp:Int}{ge:List AV}{dr ch cl cm:AV}{st mc:List AV}{co op:AV}{re:List AV}
variable{Q:bp}
theorem aGH(D:Dl l kd sn sc ct pa ty bo dp ge dr ch cl cm st mc co op re)(X:Pq b l ps Hb nb tm h nx)(hl:ps.length+1≤1048576)(cont:∀ tm' hx aF,Pq b l (ps ++ [bo]) Hb nb tm' hx aF→Q .norm tm' hx aF):eu C Q ER tm h nx:=by
 have ll:=D.len
 have hx:bo.length=7:=D.bo_.len
 have zx:bo.all AV.aD=true:=mi.2 D.bo_.aU
 have hz:∀ n H,az (ax n) bo H=(bo,H):=fun n H=>av D.bo_.bY
 obtain⟨c,c',h',nx',e3,g,K1⟩:=X.more (dy.one (k:=4) D.bo_) (L:=bo) (m:=1) (by simp) rfl hl
 simp[-appendTo,ER,X.e1,X.g,e3,ll,D.t8,hx,hz,sh hx,g]
 exact cont _ _ _ (K1 _ (by simp[X.e1]) (by simp))
theorem axw(D:Dl l kd sn sc ct pa ty bo dp ge dr ch cl cm st mc co op re)(X:Pq b l ps Hb nb tm h nx)(hl:ps.length+1≤1048576)(cont:∀ tm' hx aF,Pq b l (ps ++ [mc]) Hb nb tm' hx aF→Q .norm tm' hx aF):eu C Q BL tm h nx:=by
 have ll:=D.len
 have hx:mc.length=7:=D.RA.len
 have zx:mc.all AV.aD=true:=mi.2 D.RA.aU
 have hz:∀ n H,az (ax n) mc H=(mc,H):=fun n H=>av D.RA.bY
 obtain⟨c,c',h',nx',e3,g,K1⟩:=X.more (dy.one (k:=4) D.RA) (L:=mc) (m:=1) (by simp) rfl hl
 simp[-appendTo,BL,X.e1,X.g,e3,ll,D.t29,hx,hz,sh hx,g]
 exact cont _ _ _ (K1 _ (by simp[X.e1]) (by simp))
theorem axx(D:Dl l kd sn sc ct pa ty bo dp ge dr ch cl cm st mc co op re)(X:Pq b l ps Hb nb tm h nx)(hl:ps.length+2≤1048576)(cont:∀ tm' hx aF,Pq b l (ps ++ [mc,re]) Hb nb tm' hx aF→Q .norm tm' hx aF):eu C Q BN tm h nx:=by
 have ll:=D.len
 have hx:mc.length=7:=D.RA.len
 have hy:re.length=7:=D.re_.len
 have zx:mc.all AV.aD=true:=mi.2 D.RA.aU
 have zy:re.all AV.aD=true:=mi.2 D.re_.aU
 have hz:∀ n H,az (ax n) (mc++re) H=(mc++re,H):=fun n H=>av (Di D.RA.bY D.re_.bY)
 obtain⟨c,c',h',nx',e3,g,K1⟩:=X.more (Yb D.RA (dy.one (k:=4) D.re_)) (L:=mc++re) (m:=2) (by simp) rfl hl
 simp[-appendTo,BN,X.e1,X.g,e3,ll,D.t29,D.t38,hx,hy,hz,sh hx,sh hy,dpn hx,zqw,zqq,g]
 exact cont _ _ _ (K1 _ (by simp[X.e1]) (by simp))
def axz(b:Key)(l:List AV)(ps:List (List AV))(rs:List (List AV))(Hb:T ab)(nb:Key)(k:Nat)(tm:T AV)(h:T ab)(nx:Key):Prop:=
 ∃ i:Nat,k=rs.length-i∧i≤rs.length∧aa (K 4) tm=some (I i)∧Pq b l (ps++((rs.take i).map (List.drop 1))) Hb nb tm h nx
theorem aGI(D:Dl l kd sn sc ct pa ty bo dp ge dr ch cl cm st mc co op re)(X:Pq b l ps Hb nb tm h nx)(hl:ps.length+(ckP ch).length≤1048576)(cont:∀ tm' hx aF,Pq b l (ps++ckP ch) Hb nb tm' hx aF→Q .norm tm' hx aF):bt C ((U.ops ES).seq (.block 1 (.loop ET))) Q tm h nx:=by
 have ll:=D.len
 have fx:l[23]=ch:=by have:=(Af (by omega:23<l.length)).symm.trans D.a23;simpa using this
 obtain⟨hc,jG,On,_⟩:=jg (z:=8) rfl D.ch_
 unfold ckP at hl cont
 rw[List.length_map] at hl
 generalize ju ch=rs at hc jG On hl cont
 simp
 simp[ES]
 refine W.bV (n:=rs.length) (axz b l ps rs Hb nb) ?_ ?_
 ·exact⟨0,by omega,by omega,by simp,by simpa using X.aQ (by simp) (by simp)⟩
 clear X
 rintro k jk h1 aY ⟨i,rfl,hi,e4,X⟩
 refine W.of ?_
 have g:=X.g
 have e1:=X.e1
 simp[ET]
 by_cases aM:i<rs.length
 ·have aX:(i:Int)<rs.length:=by omega
  have hw:=jH aM On
  rcases hc with⟨rfl,kQ⟩|hc
  ·rw[kQ] at aM;simp at aM
  ·obtain⟨er,lX⟩:=jG.at_ aM
   have ez:(W0 9).length=8:=rfl
   rw[ez] at er
   have se:rs[i].length=8:=lX.len
   have RJ:=jG.len
   rw[ez] at RJ
   have h3:8≤rs.flatten.length-i*8:=by omega
   have od:cJ W0 (W0 4) (rs[i].drop 1):=gn 1 lX
   have hx:(rs[i].drop 1).length=7:=od.len
   have zx:(rs[i].drop 1).all AV.aD=true:=mi.2 od.aU
   have hz:∀ n H,az (ax n) (rs[i].drop 1) H=(rs[i].drop 1,H):=fun n H=>av od.bY
   have ad8:∃ a t,rs[i]=a ::t:=by
    match hr:rs[i],se with
    |a ::t,_=>exact⟨a,t,rfl⟩
   obtain⟨c,c',h',nx',e3,ga,K1⟩:=X.more (dy.one (k:=4) od) (L:=rs[i].drop 1) (m:=1) (by simp) rfl (by rw[Lc,List.length_map,zqy];omega)
   have ht:ps++(rs.take i).map (List.drop 1) ++ [rs[i].drop 1]=ps++(rs.take (i+1)).map (List.drop 1):=by
    rw[List.append_assoc,zqu aM,List.map_append];rfl
   rw[ht] at K1
   obtain⟨a,t,yw⟩:=ad8
   rw[yw] at er se ga hx zx hz
   simp only[List.drop_succ_cons,List.drop_zero] at ga hx zx hz
   have hd1:List.take 7 (List.drop (i*8+1) rs.flatten)=t:=by
    have:List.drop 1 (List.take 8 (List.drop (i*8) rs.flatten))=t:=by rw[er];rfl
    rw[List.drop_take,List.drop_drop] at this
    exact this
   rw[hc] at fx
   generalize rs.flatten=L at er h3 fx hd1
   simp[v8,e1,e4,g,ll,fx,aX]
   simp[-appendTo,Pg,e1,e3,e4,g,ll,fx,aM,h3,er,hx,hz,sh hx,ga]
   simp[Ph,e4,hw]
   refine⟨rs.length-(i+1),by omega,?_⟩
   unfold axz
   exact⟨i+1,rfl,by omega,by simp,K1 _ (by simp[e1]) (by simp)⟩
 ·have aX:¬ (i:Int)<rs.length:=by omega
  have LV:i=rs.length:=by omega
  rw[LV,List.take_length] at X
  rcases hc with⟨rfl,kQ⟩|hc
  ·have BC:i=0:=by rw[kQ] at hi;simpa using hi
   rw[BC] at e4
   simp[v8,e1,e4,g,ll,fx]
   exact cont _ _ _ (X.aQ)
  ·rw[hc] at fx
   generalize rs.flatten=L at fx
   simp[v8,e1,e4,g,ll,fx,aX]
   exact cont _ _ _ (X.aQ)
def axA(b:Key)(l:List AV)(ps:List (List AV))(rs:List (List AV))(Hb:T ab)(nb:Key)(k:Nat)(tm:T AV)(h:T ab)(nx:Key):Prop:=
 ∃ i:Nat,k=rs.length-i∧i≤rs.length∧aa (K 5) tm=some (I i)∧Pq b l (ps++((rs.take i).map (List.drop 1))) Hb nb tm h nx
theorem aGJ(D:Dl l kd sn sc ct pa ty bo dp ge dr ch cl cm st mc co op re)(X:Pq b l ps Hb nb tm h nx)(hl:ps.length+(ckP cl).length≤1048576)(cont:∀ tm' hx aF,Pq b l (ps++ckP cl) Hb nb tm' hx aF→Q .norm tm' hx aF):bt C ((U.ops BK).seq (.block 3 (.loop EU))) Q tm h nx:=by
 have ll:=D.len
 have fx:l[24]=cl:=by have:=(Af (by omega:24<l.length)).symm.trans D.a24;simpa using this
 obtain⟨hc,jG,On,_⟩:=jg (z:=8) rfl D.cl_
 unfold ckP at hl cont
 rw[List.length_map] at hl
 generalize ju cl=rs at hc jG On hl cont
 simp
 simp[BK]
 refine W.bV (n:=rs.length) (axA b l ps rs Hb nb) ?_ ?_
 ·exact⟨0,by omega,by omega,by simp,by simpa using X.aQ (by simp) (by simp)⟩
 clear X
 rintro k jk h1 aY ⟨i,rfl,hi,e4,X⟩
 refine W.of ?_
 have g:=X.g
 have e1:=X.e1
 simp[EU]
 by_cases aM:i<rs.length
 ·have aX:(i:Int)<rs.length:=by omega
  have hw:=jH aM On
  rcases hc with⟨rfl,kQ⟩|hc
  ·rw[kQ] at aM;simp at aM
  ·obtain⟨er,lX⟩:=jG.at_ aM
   have ez:(W0 9).length=8:=rfl
   rw[ez] at er
   have se:rs[i].length=8:=lX.len
   have RJ:=jG.len
   rw[ez] at RJ
   have h3:8≤rs.flatten.length-i*8:=by omega
   have od:cJ W0 (W0 4) (rs[i].drop 1):=gn 1 lX
   have hx:(rs[i].drop 1).length=7:=od.len
   have zx:(rs[i].drop 1).all AV.aD=true:=mi.2 od.aU
   have hz:∀ n H,az (ax n) (rs[i].drop 1) H=(rs[i].drop 1,H):=fun n H=>av od.bY
   have ad8:∃ a t,rs[i]=a ::t:=by
    match hr:rs[i],se with
    |a ::t,_=>exact⟨a,t,rfl⟩
   obtain⟨c,c',h',nx',e3,ga,K1⟩:=X.more (dy.one (k:=4) od) (L:=rs[i].drop 1) (m:=1) (by simp) rfl (by rw[Lc,List.length_map,zqy];omega)
   have ht:ps++(rs.take i).map (List.drop 1) ++ [rs[i].drop 1]=ps++(rs.take (i+1)).map (List.drop 1):=by
    rw[List.append_assoc,zqu aM,List.map_append];rfl
   rw[ht] at K1
   obtain⟨a,t,yw⟩:=ad8
   rw[yw] at er se ga hx zx hz
   simp only[List.drop_succ_cons,List.drop_zero] at ga hx zx hz
   have hd1:List.take 7 (List.drop (i*8+1) rs.flatten)=t:=by
    have:List.drop 1 (List.take 8 (List.drop (i*8) rs.flatten))=t:=by rw[er];rfl
    rw[List.drop_take,List.drop_drop] at this
    exact this
   rw[hc] at fx
   generalize rs.flatten=L at er h3 fx hd1
   simp[uG,e1,e4,g,ll,fx,aX]
   simp[-appendTo,MA,e1,e3,e4,g,ll,fx,aM,h3,er,hx,hz,sh hx,ga]
   simp[MB,e4,hw]
   refine⟨rs.length-(i+1),by omega,?_⟩
   unfold axA
   exact⟨i+1,rfl,by omega,by simp,K1 _ (by simp[e1]) (by simp)⟩
 ·have aX:¬ (i:Int)<rs.length:=by omega
  have LV:i=rs.length:=by omega
  rw[LV,List.take_length] at X
  rcases hc with⟨rfl,kQ⟩|hc
  ·have BC:i=0:=by rw[kQ] at hi;simpa using hi
   rw[BC] at e4
   simp[uG,e1,e4,g,ll,fx]
   exact cont _ _ _ (X.aQ)
  ·rw[hc] at fx
   generalize rs.flatten=L at fx
   simp[uG,e1,e4,g,ll,fx,aX]
   exact cont _ _ _ (X.aQ)
end Tb
/-
 SM: the reference's expressions of a declaration: models, systems. No condition.
-/
namespace Tb
open Go.Sx Go
open Tg (wsq wop wbk wrt wsk snm srt sex bnm brt bex wp_if)
variable{b:Key}{l:List AV}{ps:List (List AV)}{Hb h:T ab}{nb nx:Key}{tm:T AV}
variable{C:cU}(S:Std C)
variable{kd:Int}{sn sc:Nat}{ct pa:AV}{ty bo:List AV}{dp:Int}{ge:List AV}{dr ch cl cm:AV}{st mc:List AV}{co op:AV}{re:List AV}
variable{Q:bp}
theorem V2{α:Type}(f:α→List (List AV))(rs:List α)(i:Nat):((rs.take i).map f).flatten.length≤(rs.map f).flatten.length:=by
 have:rs.map f=(rs.take i).map f++(rs.drop i).map f:=by rw[← List.map_append,List.take_append_drop]
 rw[this,List.flatten_append,Lc];omega
theorem V3{α:Type}(f:α→List (List AV)){rs:List α}{i:Nat}(h:i<rs.length):((rs.take (i+1)).map f).flatten=((rs.take i).map f).flatten++f rs[i]:=by
 rw[zqu h,List.map_append,List.flatten_append];simp
def LqC(b:Key)(l:List AV)(ps:List (List AV))(rs:List (List AV))(Hb:T ab)(nb:Key)(k:Nat)(tm:T AV)(h:T ab)(nx:Key):Prop:=
 ∃ i:Nat,k=rs.length-i∧i≤rs.length∧aa (K 6) tm=some (I i)∧Pq b l (ps++((rs.take i).map cm3).flatten) Hb nb tm h nx
theorem aEL(D:Dl l kd sn sc ct pa ty bo dp ge dr ch cl cm st mc co op re)(X:Pq b l ps Hb nb tm h nx)(hl:ps.length+(cmP co).length≤1048576)(cont:∀ tm' hx aF,Pq b l (ps++cmP co) Hb nb tm' hx aF→Q .norm tm' hx aF):bt C ((U.ops BM).seq (.block 5 (.loop EV))) Q tm h nx:=by
 have ll:=D.len
 have fx:l[36]=co:=by have:=(Af (by omega:36<l.length)).symm.trans D.a36;simpa using this
 obtain⟨hc,jG,On,_⟩:=jg (z:=23) rfl D.co_
 unfold cmP at hl cont
 generalize ju co=rs at hc jG On hl cont
 simp
 simp[BM]
 refine W.bV (n:=rs.length) (LqC b l ps rs Hb nb) ?_ ?_
 ·exact⟨0,by omega,by omega,by simp,by simpa using X.aQ (by simp) (by simp)⟩
 clear X
 rintro k jk h1 aY ⟨i,rfl,hi,e4,X⟩
 refine W.of ?_
 have g:=X.g
 have e1:=X.e1
 simp[EV]
 by_cases aM:i<rs.length
 ·have aX:(i:Int)<rs.length:=by omega
  have hw:=jH aM On
  rcases hc with⟨rfl,kQ⟩|hc
  ·rw[kQ] at aM;simp at aM
  ·obtain⟨er,lX⟩:=jG.at_ aM
   have ez:(W0 11).length=23:=rfl
   rw[ez] at er
   have se:rs[i].length=23:=lX.len
   have RJ:=jG.len
   rw[ez] at RJ
   have h3:23≤rs.flatten.length-i*23:=by omega
   obtain⟨_,_,_,x,y,z,_,_,ex,ey,ezz,_,_,ox,oy,oz⟩:=av3 lX
   have hx:x.length=7:=ox.len
   have hy:y.length=7:=oy.len
   have hzz:z.length=7:=oz.len
   have zx:x.all AV.aD=true:=mi.2 ox.aU
   have zy:y.all AV.aD=true:=mi.2 oy.aU
   have zz:z.all AV.aD=true:=mi.2 oz.aU
   have hz:∀ n H,az (ax n) (x++(y++z)) H=(x++(y++z),H):=fun n H=>av (Di ox.bY (Di oy.bY oz.bY))
   have hfs:=V3 cm3 aM
   have hft:=V2 cm3 rs (i+1)
   rw[hfs,Lc] at hft
   have hc3:cm3 rs[i]=[x,y,z]:=by unfold cm3;rw[ex,ey,ezz]
   rw[hc3] at hfs hft
   simp only[Tj,List.length_nil] at hft
   obtain⟨c,c',h',nx',e3,ga,K1⟩:=X.more (Yb ox (Yb oy (dy.one (k:=4) oz))) (L:=x++(y++z)) (m:=3) (by simp) rfl (by rw[Lc];omega)
   rw[List.append_assoc,← hfs] at K1
   have lx:AV.kP x=true:=ox.lits
   rw[hc] at fx
   generalize rs[i]=r at er se ex ey ezz
   generalize rs.flatten=L at er h3 fx
   simp[uI,e1,e4,g,ll,fx,aX]
   simp[-appendTo,MC,e1,e3,e4,g,ll,fx,aM,h3,er,se,ex,ey,ezz,hx,hy,hzz,hz,sh hx,sh hy,sh hzz,dpn hx,dpn hy,zqw,zqq,ga]
   simp[MD,e4,hw]
   refine⟨rs.length-(i+1),by omega,?_⟩
   unfold LqC
   exact⟨i+1,rfl,by omega,by simp,K1 _ (by simp[e1]) (by simp)⟩
 ·have aX:¬ (i:Int)<rs.length:=by omega
  have LV:i=rs.length:=by omega
  rw[LV,List.take_length] at X
  rcases hc with⟨rfl,kQ⟩|hc
  ·have BC:i=0:=by rw[kQ] at hi;simpa using hi
   rw[BC] at e4
   simp[uI,e1,e4,g,ll,fx]
   exact cont _ _ _ (X.aQ)
  ·rw[hc] at fx
   generalize rs.flatten=L at fx
   simp[uI,e1,e4,g,ll,fx,aX]
   exact cont _ _ _ (X.aQ)
def LqA(b:Key)(l:List AV)(ps:List (List AV))(o:Nat)(rs:List (List AV))(Hb:T ab)(nb:Key)(k:Nat)(tm:T AV)(h:T ab)(nx:Key):Prop:=
 ∃ i:Nat,k=rs.length-i∧i≤rs.length∧aa (K 7) tm=some (I o)∧aa (K 8) tm=some (I i)∧Pq b l (ps++((rs.take i).map ac2).flatten) Hb nb tm h nx
theorem aEO{L:List AV}{n:Nat}{o:Nat}{s1 s2:Nat}{pr ac:AV}(ll:l.length=45)(fx:l[37]'(by omega)=.sl L n 3 .any)(ho:o<n)(hor:List.take 3 (List.drop (o*3) L)=[.str s1 s2,pr,ac])(h3o:3≤L.length-o*3)(oac:dg W0 (.sl 13) ac)(X:Pq b l ps Hb nb tm h nx)(e7:aa (K 7) tm=some (I o))(hl:ps.length+(acP ac).length≤1048576)
  (cont:∀ tm' hx aF,aa (K 7) tm'=some (I o)→Pq b l (ps++acP ac) Hb nb tm' hx aF→Q .norm tm' hx aF):bt C ((U.ops BQ).seq (.block 9 (.loop EZ))) Q tm h nx:=by
 have ho':(o:Int)<n:=by omega
 obtain⟨hc,jG,On,_⟩:=jg (z:=14) rfl oac
 unfold acP at hl cont
 generalize ju ac=rs at hc jG On hl cont
 simp
 simp[BQ]
 refine W.bV (n:=rs.length) (LqA b l ps o rs Hb nb) ?_ ?_
 ·exact⟨0,by omega,by omega,by simp[e7],by simp,by simpa using X.aQ (by simp) (by simp)⟩
 clear X e7
 rintro k jk h1 aY ⟨i,rfl,hi,e7,e8,X⟩
 refine W.of ?_
 have g:=X.g
 have e1:=X.e1
 simp[EZ]
 by_cases aM:i<rs.length
 ·have aX:(i:Int)<rs.length:=by omega
  have hw:=jH aM On
  rcases hc with⟨rfl,kQ⟩|hc
  ·rw[kQ] at aM;simp at aM
  ·obtain⟨er,lX⟩:=jG.at_ aM
   have ez:(W0 13).length=14:=rfl
   rw[ez] at er
   have se:rs[i].length=14:=lX.len
   have RJ:=jG.len
   rw[ez] at RJ
   have h3:14≤rs.flatten.length-i*14:=by omega
   have ox:cJ W0 sj (rs[i].take 7):=iu 7 lX
   have oy:cJ W0 sj ((rs[i].drop 7).take 7):=iu 7 (gn 7 lX)
   obtain⟨x,ex⟩:∃ x,rs[i].take 7=x:=⟨_,rfl⟩
   obtain⟨y,ey⟩:∃ y,(rs[i].drop 7).take 7=y:=⟨_,rfl⟩
   have hc3:ac2 rs[i]=[x,y]:=by unfold ac2;rw[ex,ey]
   rw[ex] at ox
   rw[ey] at oy
   have hx:x.length=7:=ox.len
   have hy:y.length=7:=oy.len
   have zx:x.all AV.aD=true:=mi.2 ox.aU
   have zy:y.all AV.aD=true:=mi.2 oy.aU
   have hz:∀ n H,az (ax n) (x++y) H=(x++y,H):=fun n H=>av (Di ox.bY oy.bY)
   have hfs:=V3 ac2 aM
   have hft:=V2 ac2 rs (i+1)
   rw[hfs,Lc] at hft
   rw[hc3] at hfs hft
   simp only[Tj,List.length_nil] at hft
   obtain⟨c,c',h',nx',e3,ga,K1⟩:=X.more (Yb ox (dy.one (k:=4) oy)) (L:=x++y) (m:=2) (by simp) rfl (by rw[Lc];omega)
   rw[List.append_assoc,← hfs] at K1
   rw[hc] at hor
   generalize rs[i]=q at er se ex ey
   generalize rs.flatten=M at er h3 hor
   simp[uK,e1,e7,e8,g,ll,fx,ho,hor,h3o,aX]
   simp[-appendTo,ME,e1,e3,e7,e8,g,ll,fx,ho,hor,h3o,aM,h3,er,se,ex,ey,hx,hy,hz,sh hx,sh hy,dpn hx,zqw,zqq,ga]
   simp[MF,e8,hw]
   refine⟨rs.length-(i+1),by omega,?_⟩
   unfold LqA
   exact⟨i+1,rfl,by omega,by simp[e7],by simp,K1 _ (by simp[e1]) (by simp)⟩
 ·have aX:¬ (i:Int)<rs.length:=by omega
  have LV:i=rs.length:=by omega
  rw[LV,List.take_length] at X
  rcases hc with⟨rfl,kQ⟩|hc
  ·have BC:i=0:=by rw[kQ] at hi;simpa using hi
   rw[BC] at e8
   simp[uK,e1,e7,e8,g,ll,fx,ho,hor,h3o]
   exact cont _ _ _ (by simp[e7]) (X.aQ)
  ·rw[hc] at hor
   generalize rs.flatten=M at hor
   simp[uK,e1,e7,e8,g,ll,fx,ho,hor,h3o,aX]
   exact cont _ _ _ (by simp[e7]) (X.aQ)
def LqO(b:Key)(l:List AV)(ps:List (List AV))(rs:List (List AV))(Hb:T ab)(nb:Key)(k:Nat)(tm:T AV)(h:T ab)(nx:Key):Prop:=
 ∃ i:Nat,k=rs.length-i∧i≤rs.length∧aa (K 7) tm=some (I i)∧Pq b l (ps++((rs.take i).map op1).flatten) Hb nb tm h nx
theorem aEQ(D:Dl l kd sn sc ct pa ty bo dp ge dr ch cl cm st mc co op re)(X:Pq b l ps Hb nb tm h nx)(hl:ps.length+(opP op).length≤1048576)(cont:∀ tm' hx aF,Pq b l (ps++opP op) Hb nb tm' hx aF→Q .norm tm' hx aF):bt C ((U.ops BO).seq (.block 7 (.loop E1))) Q tm h nx:=by
 have ll:=D.len
 have fx:l[37]=op:=by have:=(Af (by omega:37<l.length)).symm.trans D.a37;simpa using this
 obtain⟨hc,jG,On,_⟩:=jg (z:=3) rfl D.op_
 unfold opP at hl cont
 generalize ju op=rs at hc jG On hl cont
 simp
 simp[BO]
 refine W.bV (n:=rs.length) (LqO b l ps rs Hb nb) ?_ ?_
 ·exact⟨0,by omega,by omega,by simp,by simpa using X.aQ (by simp) (by simp)⟩
 clear X
 rintro k jk h1 aY ⟨i,rfl,hi,e7,X⟩
 refine W.of ?_
 have g:=X.g
 have e1:=X.e1
 unfold E1
 by_cases aM:i<rs.length
 ·have aX:(i:Int)<rs.length:=by omega
  have hw:=jH aM On
  rcases hc with⟨rfl,kQ⟩|hc
  ·rw[kQ] at aM;simp at aM
  ·obtain⟨er,lX⟩:=jG.at_ aM
   have ez:(W0 12).length=3:=rfl
   rw[ez] at er
   have RJ:=jG.len
   rw[ez] at RJ
   have h3:3≤rs.flatten.length-i*3:=by omega
   obtain⟨s1,s2,pr,ac,Tc,_,_,oac⟩:=op3 lX
   rw[Tc] at er
   have hfs:=V3 op1 aM
   have hft:=V2 op1 rs (i+1)
   rw[hfs,Lc] at hft
   have ho1:op1 rs[i]=acP ac:=by unfold op1;rw[Tc];rfl
   rw[ho1] at hfs hft
   rw[hc] at fx
   have r23:∀ {R:bp},(∀ tm',aa (K 1) tm'=aa (K 1) jk→aa (K 3) tm'=aa (K 3) jk→aa (K 7) tm'=aa (K 7) jk→aa (K 100) tm'=some (.bool true)→R .norm tm' h1 aY)→eu C R pq jk h1 aY:=by
    intro R k
    generalize rs.flatten=L at fx
    simp[pq,e1,e7,g,ll,fx,aX]
    exact k _ (by simp) (by simp) (by simp) (by simp)
   refine wsq (wsq (wop (r23 fun xD a1 a3 a7 aER=>snm (wp_if aER (fun _=>wsk (snm (wsq (wbk ?_)))) (fun h=>by cases h)))))
   refine aEO ll fx aM er h3 oac (X.aQ a1 a3) (a7.trans e7) (by rw[Lc];omega) fun Vp h3 dw e7 X3=>bnm (snm (wop ?_))
   rw[List.append_assoc,← hfs] at X3
   simp[MG,e7,hw]
   refine⟨rs.length-(i+1),by omega,?_⟩
   unfold LqO
   exact⟨i+1,rfl,by omega,by simp,X3.aQ (by simp) (by simp)⟩
 ·have aX:¬ (i:Int)<rs.length:=by omega
  have LV:i=rs.length:=by omega
  rw[LV,List.take_length] at X
  rcases hc with⟨rfl,kQ⟩|hc
  ·have BC:i=0:=by rw[kQ] at hi;simpa using hi
   rw[BC] at e7
   simp[pq,e1,e7,g,ll,fx]
   exact cont _ _ _ (X.aQ)
  ·rw[hc] at fx
   generalize rs.flatten=L at fx
   simp[pq,e1,e7,g,ll,fx,aX]
   exact cont _ _ _ (X.aQ)
end Tb
/-
 SM: the reference's expressions of a declaration, its branches and those of a module: the walk. No condition.
-/
namespace Tb
open Go.Sx Go
open Tg (wsq wop wbk wrt wsk snm srt sex bnm brt bex wp_if)
variable{b:Key}{l:List AV}{ps:List (List AV)}{Hb h:T ab}{nb nx:Key}{tm:T AV}
variable{C:cU}
section
variable{kd:Int}{Q:bp}{A B:U}
theorem aGF(Ld:aa (K 10) tm=some (I kd))(X:Pq b l ps Hb nb tm h nx)(hA:∀ tm',kd=1→Pq b l ps Hb nb tm' h nx→bt C A Q tm' h nx)(hB:∀ tm',¬ kd=1→aa (K 10) tm'=some (I kd)→Pq b l ps Hb nb tm' h nx→bt C B Q tm' h nx):bt C ((U.ops vZ).seq (.cond (.t (K 11)) A B)) Q tm h nx:=by
 rcases du kd 1 with⟨hk,cB⟩|⟨hk,cB⟩
 ·simp[vZ,Ld,hk]
  exact hA _ hk (X.aQ)
 ·simp[vZ,Ld,cB]
  exact hB _ hk (by simp[Ld]) (X.aQ)
theorem aGG(Ld:aa (K 10) tm=some (I kd))(X:Pq b l ps Hb nb tm h nx)(hA:∀ tm',kd=3→Pq b l ps Hb nb tm' h nx→bt C A Q tm' h nx)(hB:∀ tm',¬ kd=3→aa (K 10) tm'=some (I kd)→Pq b l ps Hb nb tm' h nx→bt C B Q tm' h nx):bt C ((U.ops v7).seq (.cond (.t (K 18)) A B)) Q tm h nx:=by
 rcases du kd 3 with⟨hk,cB⟩|⟨hk,cB⟩
 ·simp[v7,Ld,hk]
  exact hA _ hk (X.aQ)
 ·simp[v7,Ld,cB]
  exact hB _ hk (by simp[Ld]) (X.aQ)
theorem axu(Ld:aa (K 10) tm=some (I kd))(X:Pq b l ps Hb nb tm h nx)(hA:∀ tm',kd=4→Pq b l ps Hb nb tm' h nx→bt C A Q tm' h nx)(hB:∀ tm',¬ kd=4→aa (K 10) tm'=some (I kd)→Pq b l ps Hb nb tm' h nx→bt C B Q tm' h nx):bt C ((U.ops uH).seq (.cond (.t (K 52)) A B)) Q tm h nx:=by
 rcases du kd 4 with⟨hk,cB⟩|⟨hk,cB⟩
 ·simp[uH,Ld,hk]
  exact hA _ hk (X.aQ)
 ·simp[uH,Ld,cB]
  exact hB _ hk (by simp[Ld]) (X.aQ)
theorem axv(Ld:aa (K 10) tm=some (I kd))(X:Pq b l ps Hb nb tm h nx)(hA:∀ tm',kd=5→Pq b l ps Hb nb tm' h nx→bt C A Q tm' h nx)(hB:∀ tm',¬ kd=5→aa (K 10) tm'=some (I kd)→Pq b l ps Hb nb tm' h nx→bt C B Q tm' h nx):bt C ((U.ops uJ).seq (.cond (.t (K 87)) A B)) Q tm h nx:=by
 rcases du kd 5 with⟨hk,cB⟩|⟨hk,cB⟩
 ·simp[uJ,Ld,hk]
  exact hA _ hk (X.aQ)
 ·simp[uJ,Ld,cB]
  exact hB _ hk (by simp[Ld]) (X.aQ)
end
variable(S:Std C)
include S
theorem agf(ol:cJ W0 (W0 14) l)(hw:AV.iN l≤64000)(h:T ab)(nx:Key):aO C Aj [.agg l] h nx (ahA (r8 l) h nx):=by
 obtain⟨kd,sn,sc,ct,pa,ty,bo,dp,ge,dr,ch,cl,cm,st,mc,co,op,re,D⟩:=adG ol
 have hp:=(U3 ol).2
 have vL:(r8 l).length≤1000000:=by unfold wP at hp;omega
 have ll:=D.len
 have s0:=kTSu nx
 have zl:l.all AV.aD=true:=mi.2 ol.aU
 have f0:l[0]=I kd:=by have:=(Af (by omega:0<l.length)).symm.trans D.a0;simpa using this
 have hd:r8 l=if kd=1 then [bo] else if kd=3 then ckP ch++ckP cl else if kd=4 then mc ::cmP co else if kd=5 then mc ::re ::opP op else []:=by
  unfold r8
  rw[mK D.a0,mK D.a23,mK D.a24,mK D.a36,mK D.a37,D.t8,D.t29,D.t38]
  rfl
 refine S.aaJ.call ?_
 have x0:=E0 h nx (.cells l .fix)
 have X0:∀ tm,aa (K 1) tm=some (.ptr nx 0)→aa (K 3) tm=some .nils→Pq nx l [] (aK nx (some (.cells l .fix)) h) nx.succ tm (aK nx (some (.cells l .fix)) h) nx.succ:=fun tm e1 e3=>⟨e1,⟨.nils,e3,App.nil 7⟩,Ext.refl _ _,by omega,by rw[gTSm]⟩
 have g0:aa nx (aK nx (some (.cells l .fix)) h)=some (.cells l .fix):=by rw[gTSm]
 have fin:∀ tm' hx aF,Pq nx l (r8 l) (aK nx (some (.cells l .fix)) h) nx.succ tm' hx aF→bt C ((U.ops kT).seq .ret) (aN A0.res (ahA (r8 l) h nx)) tm' hx aF:=by
  intro tm' hx aF X
  show bt C ((U.ops kT).seq .ret) (aN [RV.tmp (K 2)] (ahA (r8 l) h nx)) tm' hx aF
  obtain⟨c,e3,A⟩:=X.c
  obtain⟨z1,z2⟩:=A.OS (U3 ol).1.bY 9998
  have xn:=X.x.n
  simp
  simp[kT,e3]
  refine⟨⟨_,rfl,?_⟩,by omega,fun q hq=>by rw[z2 q (by omega),X.x.g q (by omega),x0.g q hq]⟩
  rcases z1 with⟨e,_,e2⟩|e
  ·exact .inl ⟨e,zqr e2⟩
  ·exact .inr e
 refine wsq (wop ?_)
 have r0:∀ {R:bp} {tm:T AV},aa (K 0) tm=some (.agg l)→(∀ tm',aa (K 1) tm'=some (.ptr nx 0)→R .norm tm' (aK nx (some (.cells l .fix)) h) nx.succ)→eu C R EN tm h nx:=by
  intro R tm e0 k
  simp[EN,e0]
  exact k _ (by simp)
 refine r0 (by simp) fun jk a1=>snm (wsq (wop ?_))
 have r1:∀ {R:bp},(∀ tm',Pq nx l [] (aK nx (some (.cells l .fix)) h) nx.succ tm' (aK nx (some (.cells l .fix)) h) nx.succ→R .norm tm' (aK nx (some (.cells l .fix)) h) nx.succ)→eu C R EO jk (aK nx (some (.cells l .fix)) h) nx.succ:=by
  intro R k
  simp[EO]
  exact k _ (X0 _ (by simp[a1]) (by simp))
 refine r1 fun xD X=>snm (wsq (wsq (wop ?_)))
 generalize aK nx (some (.cells l .fix)) h=Hb at X g0 fin x0
 have r2:∀ {R:bp},(∀ tm',aa (K 10) tm'=some (I kd)→Pq nx l [] Hb nx.succ tm' Hb nx.succ→R .norm tm' Hb nx.succ)→eu C R EP xD Hb nx.succ:=by
  intro R k
  simp[EP,X.e1,g0,ll,f0]
  exact k _ (by simp) (X.aQ)
 refine r2 fun Vp Ld X=>snm (wbk ?_)
 generalize hBP:aN A0.res (ahA (r8 l) h nx)=BP at fin ⊢
 have cont:∀ tm' hx aF,Pq nx l (r8 l) Hb nx.succ tm' hx aF→ai 0 (ak (bt C ((U.ops kT).seq .ret) BP) BP) .norm tm' hx aF:=fun tm' hx aF X=>bnm (snm (fin tm' hx aF X))
 generalize ai 0 (ak (bt C ((U.ops kT).seq .ret) BP) BP)=R at cont ⊢
 rw[hd] at vL
 refine aGF Ld X (fun tm' hk X=>?_) fun oW h3 Ld X=>?_
 ·rw[hd,if_pos hk] at cont
  exact wop (aGH D X (by simp) fun tm' hx aF X=>cont _ _ _ X)
 refine aGG Ld X (fun tm' hk X=>?_) fun Wt h5 Ld X=>?_
 ·rw[hd,if_neg h3,if_pos hk] at cont
  rw[if_neg h3,if_pos hk,Lc] at vL
  exact wsq (aGI D X (by simp;omega) fun tm' hx aF X=>snm (aGJ D X (by simp;omega) fun tm' hx aF X=>cont _ _ _ (by simpa using X)))
 refine axu Ld X (fun tm' hk X=>?_) fun tm6 h6 Ld X=>?_
 ·rw[hd,if_neg h3,if_neg h5,if_pos hk] at cont
  rw[if_neg h3,if_neg h5,if_pos hk,Tj] at vL
  exact wsq (wop (axw D X (by simp) fun tm' hx aF X=>snm (aEL D X (by simp;omega) fun tm' hx aF X=>cont _ _ _ (by simpa using X))))
 refine axv Ld X (fun tm' hk X=>?_) fun tm7 h7 Ld X=>?_
 ·rw[hd,if_neg h3,if_neg h5,if_neg h6,if_pos hk] at cont
  rw[if_neg h3,if_neg h5,if_neg h6,if_pos hk,Tj,Tj] at vL
  exact wsq (wop (axx D X (by simp) fun tm' hx aF X=>snm (aEQ D X (by simp;omega) fun tm' hx aF X=>cont _ _ _ (by simpa using X))))
 ·rw[hd,if_neg h3,if_neg h5,if_neg h6,if_neg h7] at cont
  exact wsk (cont _ _ _ X)
def OfI(dn dc:Nat)(ps:List (List AV))(b:Key)(l:List AV)(c:AV)(h:T ab)(nx:Key)(k:Nat)(tm':T AV)(h':T ab)(nx':Key):Prop:=
 ∃ (i:Nat) (c1:AV),k=ps.length-i∧i≤ps.length∧aa (K 1) tm'=some (.ptr b 0)∧aa (K 3) tm'=some c1∧aa (K 4) tm'=some c∧aa (K 5) tm'=some (I i)∧App c1 (aI eB (((ps.take i).map (xy dn dc)).flatten)) (((ps.take i).map (xy dn dc)).flatten).length 3 h' nx' nx∧Ext h nx h' nx'
theorem anS(ol:cJ W0 (W0 14) l)(hw:AV.iN l≤64000)(h:T ab)(nx:Key):aO C Lw [.agg l] h nx (Zp (ofD l) h nx):=by
 obtain⟨kd,sn,sc,ct,pa,ty,bo,dp,ge,dr,ch,cl,cm,st,mc,co,op,re,D⟩:=adG ol
 obtain⟨ops,hp⟩:=U3 ol
 have hol:=ali ol
 have q1:C.raw Aj=false:=S.raw _ (by decide)
 have q2:C.raw pK=false:=S.raw _ (by decide)
 have ll:=D.len
 have s0:=kTSu nx
 have zl:l.all AV.aD=true:=mi.2 ol.aU
 have zf:∀ n H,az (ax n) l H=(l,H):=fun n H=>av ol.bY
 have f1:l[1]=.str sn sc:=by have:=(Af (by omega:1<l.length)).symm.trans D.a1;simpa using this
 have hd:ofD l=((r8 l).map (xy sn sc)).flatten:=by unfold ofD;rw[mK D.a1];rfl
 rw[hd] at hol ⊢
 have hps:∀ r∈r8 l,AV.iN r≤300000:=by
  intro r hr
  have:∀ {qs:List (List AV)} {q:List AV},q∈qs→AV.iN q≤AV.iN qs.flatten:=by
   intro qs
   induction qs with
   |nil=>intro q hq;simp at hq
   |cons p qs ih=>
    intro q hq
    rw[Xh,vg]
    rcases xH.1 hq with rfl|hq
    ·omega
    ·have:=ih hq;omega
  have:=this hr
  unfold wP at hp
  omega
 have vL:(r8 l).length≤1000000:=by unfold wP at hp;omega
 refine S.agi.call ?_
 have x0:=E0 h nx (.cells l .fix)
 have g0:aa nx (aK nx (some (.cells l .fix)) h)=some (.cells l .fix):=by rw[gTSm]
 simp[UC]
 simp[Wx]
 generalize aK nx (some (.cells l .fix)) h=Hb at x0 g0 ⊢
 simp[Wy]
 simp[Wz,g0,ll,sh ll,zf,q1]
 refine(agf S ol hw _ _).mono ?_
 rintro o h1 aY ⟨⟨c,rfl,hc⟩,x1⟩
 obtain⟨hcc,ON,hcz⟩:=hc.cell
 simp
 simp[WA]
 generalize r8 l=ps at hp ops hol hps vL hc ⊢
 have n1:=x1.n
 refine W.bV (n:=ps.length) (OfI sn sc ps nx l c h1 aY) ?_ ?_
 ·exact⟨0,.nils,by omega,by omega,by simp,by simp,by simp,by simp,App.nil 3,Ext.refl _ _⟩
 rintro k jk h2 aH ⟨i,c1,rfl,hi,e1,e3,e4,e5,A,x2⟩
 refine W.of ?_
 have n2:=x2.n
 have g2:aa nx h2=some (.cells l .fix):=by rw[x2.g nx (by omega),x1.g nx (by omega)];exact g0
 simp[WD]
 have fin:∀ tm',aa (K 3) tm'=some c1→i=ps.length→bt C ((U.ops Pf).seq .ret) (aN [RV.tmp (K 2)] (Zp ((ps.map (xy sn sc)).flatten) h nx)) tm' h2 aH:=by
  intro tm' e3 LV
  rw[LV,List.take_length] at A
  obtain⟨z1,z2⟩:=A.ahc jr 9998
  simp
  simp[Pf,e3]
  exact⟨⟨_,rfl,z1⟩,by omega,fun q hq=>by rw[z2 q (by omega),x2.g q (by omega),x1.g q (by omega),x0.g q hq]⟩
 simp at fin
 by_cases aM:i<ps.length
 ·have aX:(i:Int)<ps.length:=by omega
  have hw':aW .i64 ((i:Int)+1)=((i+1:Nat):Int):=by rw[show(i:Int)+1=((i+1:Nat):Int) by omega];exact br (by omega) (by omega)
  rcases hc with⟨rfl,kQ⟩|rfl
  ·rw[kQ] at aM;simp at aM
  ·obtain⟨er,lX⟩:=ops.at_ aM
   have ez:(W0 4).length=7:=rfl
   rw[ez] at er
   have se:ps[i].length=7:=lX.len
   have RJ:=ops.len
   rw[ez] at RJ
   have h3:7≤ps.flatten.length-i*7:=by omega
   have hz:∀ n H,az (ax n) ps[i] H=(ps[i],H):=fun n H=>av lX.bY
   have ua:=afT S (dn:=sn) (dc:=sc) _ rfl lX (hps _ (XV aM)) h2 aH
   have hks:=V1 (f:=xy sn sc) aM
   have hkl:=X9 (xy sn sc) ps (i+1)
   rw[hks,Lc] at hkl
   have axy:=lX.lits
   generalize xy sn sc ps[i]=ub at ua hks hkl
   generalize ps[i]=r at er se hz ua axy
   generalize ps.flatten=L at e4 er h3
   obtain⟨a1,a2⟩:=A.cell
   simp[GU,e4,e5,aX]
   simp[WB,e1,e3,e4,e5,g2,ll,f1,aM,h3,er,se,sh se,hz,q2]
   refine ua.mono ?_
   rintro o h4 jq ⟨⟨c4,rfl,B4⟩,x4⟩
   have n4:=x4.n
   have g4:aa nx h4=some (.cells l .fix):=by rw[x4.g nx (by omega)];exact g2
   obtain⟨b1,b2,_⟩:=B4.cell
   simp only[arU,putTm_some]
   rw[ao1]
   refine⟨by simp,?_⟩
   refine akB (us:=((ps.take i).map (xy sn sc)).flatten) (vs:=ub) (c:=c1) (x:=c4) (by simp) (by simp) (A.ext x4) B4 (by omega) (by omega) fun c5 h5 iW A5 n5 f5=>?_
   rw[ao1]
   refine⟨by simp,?_⟩
   rw[← hks] at A5
   simp
   simp[WC,e5,hw']
   refine⟨ps.length-(i+1),by omega,?_⟩
   unfold OfI
   exact⟨i+1,c5,rfl,by omega,by simp[e1],by simp,by simp[e4],by simp,A5,by omega,fun q hq=>by rw[f5 q (by omega),x4.g q (by omega),x2.g q hq]⟩
 ·have aX:¬ (i:Int)<ps.length:=by omega
  rcases hc with⟨rfl,kQ⟩|rfl
  ·have BC:i=0:=by rw[kQ] at hi;simpa using hi
   rw[BC] at e5
   simp[GU,e4,e5]
   exact fin _ (by simp[e3]) (by rw[kQ,BC];rfl)
  ·generalize ps.flatten=L at e4
   simp[GU,e4,e5,aX]
   exact fin _ (by simp[e3]) (by omega)
def AlI(ls:List (List AV))(b:Key)(h:T ab)(nx:Key)(k:Nat)(tm':T AV)(h':T ab)(nx':Key):Prop:=
 ∃ (i:Nat) (c1:AV),k=ls.length-i∧i≤ls.length∧aa (K 1) tm'=some (.ptr b 0)∧aa (K 3) tm'=some c1∧aa (K 4) tm'=some (I i)∧App c1 (aI eB (((ls.take i).map ofD).flatten)) (((ls.take i).map ofD).flatten).length 3 h' nx' nx∧Ext h nx h' nx'
theorem alj{m:AV}(om:dg W0 (.sl 14) m)(hw:AV.wt m≤64000)(h:T ab)(nx:Key):aO C GR [.agg [m]] h nx (Zp (allM m) h nx):=by
 have q1:C.raw Lw=false:=S.raw _ (by decide)
 have hal:=ahC om
 obtain⟨hc,ols,On,hwm⟩:=jg (z:=45) rfl om
 have hmc:=om.cell
 have s0:=kTSu nx
 refine S.aev.call ?_
 have x0:=E0 h nx (.cells [m] .fix)
 have g0:aa nx (aK nx (some (.cells [m] .fix)) h)=some (.cells [m] .fix):=by rw[gTSm]
 simp[Rq]
 simp[Ut]
 generalize aK nx (some (.cells [m] .fix)) h=Hb at x0 g0 ⊢
 simp[Uu]
 simp[Uv]
 unfold allM at hal ⊢
 generalize ju m=ls at hc ols On hwm hal ⊢
 refine W.bV (n:=ls.length) (AlI ls nx Hb nx.succ) ?_ ?_
 ·exact⟨0,.nils,by omega,by omega,by simp,by simp,by simp,App.nil 3,Ext.refl _ _⟩
 rintro k jk h2 aH ⟨i,c1,rfl,hi,e1,e3,e4,A,x2⟩
 refine W.of ?_
 have n2:=x2.n
 have g2:aa nx h2=some (.cells [m] .fix):=by rw[x2.g nx (by omega)];exact g0
 simp[Uy]
 have fin:∀ tm',aa (K 3) tm'=some c1→i=ls.length→bt C ((U.ops Lx).seq .ret) (aN [RV.tmp (K 2)] (Zp ((ls.map ofD).flatten) h nx)) tm' h2 aH:=by
  intro tm' e3 LV
  rw[LV,List.take_length] at A
  obtain⟨z1,z2⟩:=A.ahc jr 9998
  simp
  simp[Lx,e3]
  exact⟨⟨_,rfl,z1⟩,by omega,fun q hq=>by rw[z2 q (by omega),x2.g q (by omega),x0.g q hq]⟩
 simp at fin
 by_cases aM:i<ls.length
 ·have aX:(i:Int)<ls.length:=by omega
  have hws:=jH aM On
  rcases hc with⟨rfl,kQ⟩|rfl
  ·rw[kQ] at aM;simp at aM
  ·obtain⟨er,lX⟩:=ols.at_ aM
   have ez:(W0 14).length=45:=rfl
   rw[ez] at er
   have se:ls[i].length=45:=lX.len
   have RJ:=ols.len
   rw[ez] at RJ
   have h3:45≤ls.flatten.length-i*45:=by omega
   have hz:∀ n H,az (ax n) ls[i] H=(ls[i],H):=fun n H=>av lX.bY
   have hwi:AV.iN ls[i]≤64000:=by
    have:∀ {qs:List (List AV)} {q:List AV},q∈qs→AV.iN q≤AV.iN qs.flatten:=by
     intro qs
     induction qs with
     |nil=>intro q hq;simp at hq
     |cons p qs ih=>
      intro q hq
      rw[Xh,vg]
      rcases xH.1 hq with rfl|hq
      ·omega
      ·have:=ih hq;omega
    have:=this (XV aM)
    omega
   have ua:=anS S lX hwi h2 aH
   have hks:=V1 (f:=ofD) aM
   have hkl:=X9 ofD ls (i+1)
   rw[hks,Lc] at hkl
   generalize ofD ls[i]=ub at ua hks hkl
   generalize ls[i]=r at er se hz ua
   generalize ls.flatten=L at g2 er h3
   simp[Du,e1,e4,g2,aX]
   simp[Uw,e1,e3,e4,g2,aM,h3,er,se,sh se,hz,q1]
   refine ua.mono ?_
   rintro o h4 jq ⟨⟨c4,rfl,B4⟩,x4⟩
   have n4:=x4.n
   simp only[acy,putTm_some]
   refine ag9 (us:=((ls.take i).map ofD).flatten) (vs:=ub) (c:=c1) (x:=c4) (by simp) (by simp) (A.ext x4) B4 (by omega) (by omega) fun c5 h5 iW A5 n5 f5=>?_
   rw[← hks] at A5
   simp
   simp[Ux,e4,hws]
   refine⟨ls.length-(i+1),by omega,?_⟩
   unfold AlI
   exact⟨i+1,c5,rfl,by omega,by simp[e1],by simp,by simp,A5,by omega,fun q hq=>by rw[f5 q (by omega),x4.g q (by omega),x2.g q hq]⟩
 ·have aX:¬ (i:Int)<ls.length:=by omega
  rcases hc with⟨rfl,kQ⟩|rfl
  ·have BC:i=0:=by rw[kQ] at hi;simpa using hi
   rw[BC] at e4
   simp[Du,e1,e4,g2]
   exact fin _ (by simp[e3]) (by rw[kQ,BC];rfl)
  ·generalize ls.flatten=L at g2
   simp[Du,e1,e4,g2,aX]
   exact fin _ (by simp[e3]) (by omega)
end Tb
