/- A part of the proof. No condition. -/
import Derived.Test.YtecbfpngkfdkoaaGreatP33
import Derived.Test.YtecbfpngkfdkoaaGreatP20
import Derived.Test.YtecbfpngkfdkoaaGreatP6
set_option linter.unusedSimpArgs false
set_option linter.unusedVariables false
set_option linter.unusedSectionVars false
namespace Ln
open Go.Sx Go
variable{C:bU}{X:Kn}(S:Std C X)
include S
theorem aoi{bg n0:Key}{mi:Nat}{l:List Ev}{g g0:GS}{hB:T ag}{KY:Key}{k:Nat}{cL cQ:AV}{oL oQ:Option Key}{h:T ag}{nx nx0 b8:Key}(G:zf bg n0 (mc mi) l g k cL cQ oL oQ h nx0)(hg:g.o=g0.o)(O:Old n0 hB KY h nx)(hx:nx0.toNat≤nx.toNat)(hl:l.length≤100)(hk:k≤100)(hn:n0.toNat≤nx0.toNat){tm:T AV}{kk c n6:Nat}(AP:kk<1000000){cmd:j6}(h8:ae b8 h=Qw (P9 c cmd .nils))(h80:nx0.toNat≤b8.toNat)(h8n:b8.toNat<nx.toNat)
  (hm:cmd∈aU mi) (hc:c=0∨c=1∨c=2) (ho:g.o c=false) (q0:ae (K 0) tm=some (.ptr bg 0)) (q1:ae (K 1) tm=some (I kk)) (q4:ae (K 4) tm=some (I c)) (q6:ae (K 6) tm=some (I n6)) (q8:ae (K 8) tm=some (.ptr b8 0)) :
  fJ C (.seq (.ops cF) (.seq (.staged cG ⟨[K 105,K 106,K 107,K 108,K 109,K 110,K 111],[]⟩) (.seq (.seq (.ops cD) (.cond (.t (K 124)) (.ops ch) .skip)) (.seq (.staged bI ⟨[K 134,K 135,K 136,K 137,K 138,K 139,K 140,K 141,K 142,K 143],[]⟩) (.seq (.ops bJ) (.seq (.ops bK) (.seq (.ops bu) (.cond (.t (K 162)) (.ops bL) .skip)))))))) (cY [] (Zq bg n0 mi l g0 k hB KY)) tm h nx:=by
 have hb:=G.mD;have bn:=G.bn;have hd1:Int.tdiv (kk:Int) 306=((kk / 306:Nat):Int):=rfl;have hw1:bF .i64 ((kk / 306:Nat):Int)=((kk / 306:Nat):Int):=aH (by omega) (by omega);have hm1:Int.tmod ((kk / 306:Nat):Int) 3=((kk / 306%3:Nat):Int):=rfl;have Zp:bF .i64 ((kk / 306%3:Nat):Int)=((kk / 306%3:Nat):Int):=aH (by omega) (by omega);generalize kk / 306%3=e3 at *;generalize kk / 306=aQP at *;have hb8:ae b8 h=Qw [I 0,I c,.str cmd.name.1 cmd.name.2,.nils,I 0,I 0,.str 0 0,.nils]:=h8;have bT:b8≠bg:=fun e=>by rw[e]at h80;omega
 simp only[bR,cp,cr];rcases hc with rfl|rfl|rfl
 ·obtain⟨G1,h81,O1⟩:=G.put0 (g':={g with a:=ku g.a 0 e3}) (nx:=nx) h8 h80;obtain⟨G2,h82,O2⟩:=G1.put0 (g':={g with a:=ku g.a 0 e3,s:=ku g.s 0 cmd.name}) (nx:=nx) h81 h80;have key:=fun tm2 a b c d=>NW S (tm:=tm2) (n6:=n6) G2 (g0:=g0) hg ((O.trans O1).trans O2) hx hl hk hn h82 h80 h8n hm (by simp) ho a b c d;simp only[bR,cp,cr,gM]at key;simp[gB,P9]at key;simp[cF,q0,q1,q4,hb,gB,hd1,hw1,hm1,Zp];simp[cG,q0,q4,q8,hb8,gB,aG _ _ _ _ bT];refine key _ ?_ ?_ ?_ ?_<;>simp[q0,q4,q6,q8]
 ·obtain⟨G1,h81,O1⟩:=G.put0 (g':={g with a:=ku g.a 1 e3}) (nx:=nx) h8 h80;obtain⟨G2,h82,O2⟩:=G1.put0 (g':={g with a:=ku g.a 1 e3,s:=ku g.s 1 cmd.name}) (nx:=nx) h81 h80;have key:=fun tm2 a b c d=>NW S (tm:=tm2) (n6:=n6) G2 (g0:=g0) hg ((O.trans O1).trans O2) hx hl hk hn h82 h80 h8n hm (by simp) ho a b c d;simp only[bR,cp,cr,gM]at key;simp[gB,P9]at key;simp[cF,q0,q1,q4,hb,gB,hd1,hw1,hm1,Zp];simp[cG,q0,q4,q8,hb8,gB,aG _ _ _ _ bT];refine key _ ?_ ?_ ?_ ?_<;>simp[q0,q4,q6,q8]
 ·obtain⟨G1,h81,O1⟩:=G.put0 (g':={g with a:=ku g.a 2 e3}) (nx:=nx) h8 h80;obtain⟨G2,h82,O2⟩:=G1.put0 (g':={g with a:=ku g.a 2 e3,s:=ku g.s 2 cmd.name}) (nx:=nx) h81 h80;have key:=fun tm2 a b c d=>NW S (tm:=tm2) (n6:=n6) G2 (g0:=g0) hg ((O.trans O1).trans O2) hx hl hk hn h82 h80 h8n hm (by simp) ho a b c d;simp only[bR,cp,cr,gM]at key;simp[gB,P9]at key;simp[cF,q0,q1,q4,hb,gB,hd1,hw1,hm1,Zp];simp[cG,q0,q4,q8,hb8,gB,aG _ _ _ _ bT];refine key _ ?_ ?_ ?_ ?_<;>simp[q0,q4,q6,q8]
theorem aoj{bg n0:Key}{mi:Nat}{l:List Ev}{g g0:GS}{hB:T ag}{KY:Key}{k:Nat}{cL cQ:AV}{oL oQ:Option Key}{h:T ag}{nx nx0 b7:Key}(G:zf bg n0 (mc mi) l g k cL cQ oL oQ h nx0)(hg:g.o=g0.o)(O:Old n0 hB KY h nx)(hx:nx0.toNat≤nx.toNat)(hl:l.length≤100)(hk:k≤100)(hn:n0.toNat≤nx0.toNat){tm:T AV}{kk c n6:Nat}(AP:kk<1000000)(hi:mi<3)(h7:ae b7 h=Qw [.str (I3 mi 0).name.1 (I3 mi 0).name.2,.str (I3 mi 1).name.1 (I3 mi 1).name.2,.str (I3 mi 2).name.1 (I3 mi 2).name.2])(h6:n6<6)(hc:c=0∨c=1∨c=2)(ho:g.o c=false)(q0:ae (K 0) tm=some (.ptr bg 0))(q1:ae (K 1) tm=some (I kk))(q4:ae (K 4) tm=some (I c))(q6:ae (K 6) tm=some (I n6))(q7:ae (K 7) tm=some (.slice b7 0 3 1)) :
  fJ C (.seq (.ops dx) (.seq (.ops cF) (.seq (.staged cG ⟨[K 105,K 106,K 107,K 108,K 109,K 110,K 111],[]⟩) (.seq (.seq (.ops cD) (.cond (.t (K 124)) (.ops ch) .skip)) (.seq (.staged bI ⟨[K 134,K 135,K 136,K 137,K 138,K 139,K 140,K 141,K 142,K 143],[]⟩) (.seq (.ops bJ) (.seq (.ops bK) (.seq (.ops bu) (.cond (.t (K 162)) (.ops bL) .skip))))))))) (cY [] (Zq bg n0 mi l g0 k hB KY)) tm h nx:=by
 have s1:=kTSu nx;have hm1:Int.tmod (n6:Int) 3=((n6%3:Nat):Int):=rfl;have hw1:bF .i64 ((n6%3:Nat):Int)=((n6%3:Nat):Int):=aH (by omega) (by omega);have ht:n6%3=0∨n6%3=1∨n6%3=2:=by omega
 generalize n6%3=t at *;simp only[bR,cp,cr];have key:∀(cmd:j6),cmd∈aU mi→∀tm2,ae (K 0) tm2=some (.ptr bg 0)→ae (K 1) tm2=some (I kk)→ae (K 4) tm2=some (I c)→ae (K 6) tm2=some (I n6)→ae (K 8) tm2=some (.ptr nx 0)→
   fJ C (.seq (.ops cF) (.seq (.staged cG ⟨[K 105,K 106,K 107,K 108,K 109,K 110,K 111],[]⟩) (.seq (.seq (.ops cD) (.cond (.t (K 124)) (.ops ch) .skip)) (.seq (.staged bI ⟨[K 134,K 135,K 136,K 137,K 138,K 139,K 140,K 141,K 142,K 143],[]⟩) (.seq (.ops bJ) (.seq (.ops bK) (.seq (.ops bu) (.cond (.t (K 162)) (.ops bL) .skip)))))))) (cY [] (Zq bg n0 mi l g0 k hB KY)) tm2 (au nx (Qw (P9 c cmd .nils)) h) nx.succ:=by
  intro cmd hm tm2 p0 p1 p4 p6 p8;have e1:=E0 h nx (.cells (P9 c cmd .nils) .fix);have e2:Ext h nx0 (au nx (Qw (P9 c cmd .nils)) h) nx0:=⟨dQ _,fun b hb=>e1.g b (by omega)⟩;exact aoi S (G.at0 e2 (dQ _)) hg (O.trans (Old.zK e1 (by omega))) (by omega) hl hk hn AP (by simp) (by omega) (by omega) hm hc ho p0 p1 p4 p6 p8
 simp only[bR,cp,cr,gM,P9]at key;rcases ht with rfl|rfl|rfl
 ·have k0:=key _ (Tt hi (t:=0) (by omega));simp[dx,q4,q6,q7,h7,hm1,hw1];refine k0 _ ?_ ?_ ?_ ?_ ?_<;>simp[q0,q1,q4,q6]
 ·have k0:=key _ (Tt hi (t:=1) (by omega));simp[dx,q4,q6,q7,h7,hm1,hw1];refine k0 _ ?_ ?_ ?_ ?_ ?_<;>simp[q0,q1,q4,q6]
 ·have k0:=key _ (Tt hi (t:=2) (by omega));simp[dx,q4,q6,q7,h7,hm1,hw1];refine k0 _ ?_ ?_ ?_ ?_ ?_<;>simp[q0,q1,q4,q6]
theorem acv{bg n0:Key}{mi:Nat}{l:List Ev}{g:GS}{k:Nat}{cL cQ:AV}{oL oQ:Option Key}{h:T ag}{nx:Key}(G:zf bg n0 (mc mi) l g k cL cQ oL oQ h nx)(hi:mi<3)(hl:l.length≤100)(hk:k≤100)(hn:n0.toNat≤nx.toNat){tm:T AV}{kk c:Nat}(AP:kk<1000000)(hc:c=0∨c=1∨c=2)(ho:g.o c=false)(q0:ae (K 0) tm=some (.ptr bg 0))(q1:ae (K 1) tm=some (I kk))(q4:ae (K 4) tm=some (I c)) :
  fJ C (.seq (.ops iO) (.seq (.ops iP) (.seq (.seq (.ops fk) (.cond (.t (K 82)) (.ops iQ) .skip)) (.seq (.seq (.ops fm) (.cond (.t (K 88)) (.ops iR) .skip)) (.seq (.ops dx) (.seq (.ops cF) (.seq (.staged cG ⟨[K 105,K 106,K 107,K 108,K 109,K 110,K 111],[]⟩) (.seq (.seq (.ops cD) (.cond (.t (K 124)) (.ops ch) .skip)) (.seq (.staged bI ⟨[K 134,K 135,K 136,K 137,K 138,K 139,K 140,K 141,K 142,K 143],[]⟩) (.seq (.ops bJ) (.seq (.ops bK) (.seq (.ops bu) (.cond (.t (K 162)) (.ops bL) .skip))))))))))))) (cY [] (Zq bg n0 mi l g k h nx)) tm h nx:=by
 have s1:=kTSu nx;have s2:=kTSu nx.succ;have hb:=G.mD;have bn:=G.bn;have Z4:Int.tdiv (kk:Int) 51=((kk / 51:Nat):Int):=rfl;have Z5:bF .i64 ((kk / 51:Nat):Int)=((kk / 51:Nat):Int):=aH (by omega) (by omega);have hm6:Int.tmod ((kk / 51:Nat):Int) 6=((kk / 51%6:Nat):Int):=rfl;have hw6:bF .i64 ((kk / 51%6:Nat):Int)=((kk / 51%6:Nat):Int):=aH (by omega) (by omega);have h6:kk / 51%6<6:=Nat.mod_lt _ (by omega);generalize kk / 51%6=n6 at *;generalize kk / 51=e51 at *;have e1:=E0 h nx (.cells [.str 3 7632240,.str 3 7628135,.str 3 7632240] .fix);have hb1:ae bg (au nx (Qw [.str 3 7632240,.str 3 7628135,.str 3 7632240]) h)=Qw (gB (mc mi) cL cQ g):=by rw[aw bn];exact hb
 simp only[bR,cp,cr,gM];simp[iO,q1,Z4,Z5,hm6,hw6];simp[iP];have fin:∀(tm2:T AV) (h2:T ag) (aN b7:Key),Ext h nx h2 aN→ae b7 h2=Qw [.str (I3 mi 0).name.1 (I3 mi 0).name.2,.str (I3 mi 1).name.1 (I3 mi 1).name.2,.str (I3 mi 2).name.1 (I3 mi 2).name.2]→ae (K 0) tm2=some (.ptr bg 0)→ae (K 1) tm2=some (I kk)→ae (K 4) tm2=some (I c)→ae (K 6) tm2=some (I n6)→ae (K 7) tm2=some (.slice b7 0 3 1)→
   fJ C (.seq (.ops dx) (.seq (.ops cF) (.seq (.staged cG ⟨[K 105,K 106,K 107,K 108,K 109,K 110,K 111],[]⟩) (.seq (.seq (.ops cD) (.cond (.t (K 124)) (.ops ch) .skip)) (.seq (.staged bI ⟨[K 134,K 135,K 136,K 137,K 138,K 139,K 140,K 141,K 142,K 143],[]⟩) (.seq (.ops bJ) (.seq (.ops bK) (.seq (.ops bu) (.cond (.t (K 162)) (.ops bL) .skip))))))))) (cY [] (Zq bg n0 mi l g k h nx)) tm2 h2 aN:=by
  intro tm2 h2 aN b7 e h7 p0 p1 p4 p6 p7;exact aoj S (G.at0 e e.n) rfl (Old.zK e hn) e.n hl hk hn AP hi h7 h6 hc ho p0 p1 p4 p6 p7
 simp only[bR,cp,cr,gM]at fin;have hmi:mi=0∨mi=1∨mi=2:=by omega
 rcases hmi with rfl|rfl|rfl
 ·simp[gB,mc]at hb1;simp[I3,j6.name]at fin;simp[fk,q0,hb1];simp[fm,q0,hb1];refine fin _ _ _ nx e1 ?_ ?_ ?_ ?_ ?_ ?_<;>simp[q0,q1,q4]
 ·simp[gB,mc]at hb1;simp[I3,j6.name]at fin;have e2:=e1.trans (E0 _ nx.succ (.cells [.str 3 6516329,.str 4 1684104562,.str 3 6579297] .fix));simp[fk,q0,hb1];simp[iQ];have IW:∀B,ae bg (au nx.succ (some B) (au nx (Qw [.str 3 7632240,.str 3 7628135,.str 3 7632240]) h))=_:=fun B=>(aw (by omega)).trans hb1;simp[fm,q0,IW];refine fin _ _ _ nx.succ e2 ?_ ?_ ?_ ?_ ?_ ?_<;>simp[q0,q1,q4]
 ·simp[gB,mc]at hb1;simp[I3,j6.name]at fin;have e2:=e1.trans (E0 _ nx.succ (.cells [.str 5 435744764535,.str 4 1684104562,.str 4 1684104562] .fix));simp[fk,q0,hb1];simp[fm,q0,hb1];simp[iR];refine fin _ _ _ nx.succ e2 ?_ ?_ ?_ ?_ ?_ ?_<;>simp[q0,q1,q4]
end Ln
namespace Ln
open Go.Sx Go
inductive Ga(mi:Nat):List Ev→GS→Prop
 |nil (g:GS) (h:g.o=fun _=>false):Ga mi [] g
 |snoc {l:List Ev} {g g':GS} {x:Ev} (h:Ga mi l g) (s:Z3 mi g x g'):Ga mi (l ++ [x]) g'
theorem Z3.few{mi:Nat}{g g':GS}{x:Ev}(s:Z3 mi g x g'):x.args.length≤1∧0≤x.client∧x.client≤3:=by
 cases s with
 |lost h _=>subst h;simp
 |ends c r hc _ h _=>subst h;simp;omega
 |begins c cmd aZZ hc _ _ ha _ h _=>
  subst h;have:cmd.ar≤1:=by cases cmd<;>decide
  refine⟨?_,?_,?_⟩
  ·show aZZ.length≤1;omega
  ·show(0:Int)≤c;omega
  ·show(c:Int)≤3;omega
theorem Ga.few{mi:Nat}{l:List Ev}{g:GS}(h:Ga mi l g):∀x∈l,x.args.length≤1∧0≤x.client∧x.client≤3:=by
 induction h with
 |nil g h=>intro x hx;cases hx
 |snoc h s ih=>
  intro x hx;rcases List.mem_append.1 hx with hx|hx
  ·exact ih x hx
  ·simp at hx;subst hx;exact s.few
theorem _root_.Go.Sx.Rd.ixI{c:AV}{us:List Int}{h:T ag}{nx:Key}(g:Rd 1 c (ai eI us) us.length h nx){i:Nat}(hi:i<us.length){C:bU}{Q:cJ}{L:List aB}{tm:T AV}{n2 k1 k2 d1 d2:Key}(h1:ae k1 tm=some c)(h2:ae k2 tm=some (I i)) :
  ns C Q (⟨some d1,.indexL 1 (.t k1) (.t k2),none⟩ ::⟨some d2,.load false 1 (.t d1),none⟩ ::L) tm h n2=ns C Q L (au d2 (some (I us[i])) (au d1 (some (I1 1 i c)) tm)) h n2:=by
 have hrl:(ai eI us).length=us.length:=eF _;have hd:=zd hi;have tl:1≤us.length-i:=by omega
 rcases g with⟨_,_,e⟩|⟨f,rfl⟩|⟨b,k,rfl,hb,_,_⟩
 ·omega
 ·simp[h1,h2,hi,hrl,hd,tl,I1]
 ·simp[h1,h2,hi,hrl,I1,hb]
variable{C:bU}{X:Kn}(S:Std C X)
include S
theorem aoI{bg n0:Key}{mi:Nat}{l:List Ev}{g:GS}{k:Nat}{cL cQ:AV}{oL oQ:Option Key}{h:T ag}{nx:Key}(G:zf bg n0 (mc mi) l g k cL cQ oL oQ h nx)(hi:mi<3)(hl:l.length≤100)(hk:k≤100)(hn:n0.toNat≤nx.toNat){kk:Nat}(AP:kk<1000000) :
  aM C od [.ptr bg 0,I kk] h nx (Zq bg n0 mi l g k h nx):=by
 have hb:=G.mD;have hm3:Int.tmod (kk:Int) 3=((kk%3:Nat):Int):=rfl;have hw3:bF .i64 ((kk%3:Nat):Int)=((kk%3:Nat):Int):=aH (by omega) (by omega);have hd3:Int.tdiv (kk:Int) 3=((kk / 3:Nat):Int):=rfl;have hv3:bF .i64 ((kk / 3:Nat):Int)=((kk / 3:Nat):Int):=aH (by omega) (by omega);have aBU:Int.tmod ((kk / 3:Nat):Int) 17=((kk / 3%17:Nat):Int):=rfl;have aBV:bF .i64 ((kk / 3%17:Nat):Int)=((kk / 3%17:Nat):Int):=aH (by omega) (by omega);have hc:kk%3=0∨kk%3=1∨kk%3=2:=by omega
 generalize kk / 3%17=e17 at *;generalize kk / 3=e3 at *;generalize kk%3=c at *;refine S.HZ.call ?_;simp[EA];simp[Fu,hm3,hw3];by_cases h16:e17=16
 ·have axc:((e17:Int)==16)=true:=bt (by omega);have key:=fun tm2 a=>aiw S G hl hn (tm:=tm2) a (Q:=aO (fJ C (.seq (.seq (.ops fV) (.cond (.t (K 34)) (.seq (.seq (.ops eP) (.cond (.t (K 40)) (.ops jx) .skip)) (.seq (.ops eR) (.seq (.seq (.ops c5) (.cond (.t (K 53)) (.ops eW) .skip)) (.seq (.staged cz ⟨[K 56,K 57,K 58,K 59,K 60,K 61,K 62,K 63,K 64,K 65,K 66,K 67,K 68],[]⟩) (.seq (.ops cB) .ret))))) .skip)) (.seq (.ops iO) (.seq (.ops iP) (.seq (.seq (.ops fk) (.cond (.t (K 82)) (.ops iQ) .skip)) (.seq (.seq (.ops fm) (.cond (.t (K 88)) (.ops iR) .skip)) (.seq (.ops dx) (.seq (.ops cF) (.seq (.staged cG ⟨[K 105,K 106,K 107,K 108,K 109,K 110,K 111],[]⟩) (.seq (.seq (.ops cD) (.cond (.t (K 124)) (.ops ch) .skip)) (.seq (.staged bI ⟨[K 134,K 135,K 136,K 137,K 138,K 139,K 140,K 141,K 142,K 143],[]⟩) (.seq (.ops bJ) (.seq (.ops bK) (.seq (.ops bu) (.cond (.t (K 162)) (.ops bL) .skip)))))))))))))) (cY [] (Zq bg n0 mi l g k h nx))) (cY [] (Zq bg n0 mi l g k h nx))) (fun _ _ _ hq=>hq);simp only[bR,cp]at key;simp[xN,hd3,hv3,aBU,aBV,axc];refine key _ ?_;simp
 ·have axc:((e17:Int)==16)=false:=bq (by omega);simp[xN,hd3,hv3,aBU,aBV,axc];have xK:∀tm' h' nx',cY [] (Zq bg n0 mi l g k h nx) .ret tm' h' nx'→aO (fJ C (.seq (.ops iO) (.seq (.ops iP) (.seq (.seq (.ops fk) (.cond (.t (K 82)) (.ops iQ) .skip)) (.seq (.seq (.ops fm) (.cond (.t (K 88)) (.ops iR) .skip)) (.seq (.ops dx) (.seq (.ops cF) (.seq (.staged cG ⟨[K 105,K 106,K 107,K 108,K 109,K 110,K 111],[]⟩) (.seq (.seq (.ops cD) (.cond (.t (K 124)) (.ops ch) .skip)) (.seq (.staged bI ⟨[K 134,K 135,K 136,K 137,K 138,K 139,K 140,K 141,K 142,K 143],[]⟩) (.seq (.ops bJ) (.seq (.ops bK) (.seq (.ops bu) (.cond (.t (K 162)) (.ops bL) .skip))))))))))))) (cY [] (Zq bg n0 mi l g k h nx))) (cY [] (Zq bg n0 mi l g k h nx)) .ret tm' h' nx':=fun _ _ _ hq=>hq;cases ho:g.o c with
  |true=>
   have key:=fun tm2 a b d=>aix S G hl hk hn AP hc ho (tm:=tm2) (Q:=aO (fJ C (.seq (.ops iO) (.seq (.ops iP) (.seq (.seq (.ops fk) (.cond (.t (K 82)) (.ops iQ) .skip)) (.seq (.seq (.ops fm) (.cond (.t (K 88)) (.ops iR) .skip)) (.seq (.ops dx) (.seq (.ops cF) (.seq (.staged cG ⟨[K 105,K 106,K 107,K 108,K 109,K 110,K 111],[]⟩) (.seq (.seq (.ops cD) (.cond (.t (K 124)) (.ops ch) .skip)) (.seq (.staged bI ⟨[K 134,K 135,K 136,K 137,K 138,K 139,K 140,K 141,K 142,K 143],[]⟩) (.seq (.ops bJ) (.seq (.ops bK) (.seq (.ops bu) (.cond (.t (K 162)) (.ops bL) .skip))))))))))))) (cY [] (Zq bg n0 mi l g k h nx))) (cY [] (Zq bg n0 mi l g k h nx))) a b d xK;simp only[bR,cp,gM,cr]at key;clear xK;rcases hc with rfl|rfl|rfl
   ·simp[fV,hb,gB,ho];refine key _ ?_ ?_ ?_<;>simp
   ·simp[fV,hb,gB,ho];refine key _ ?_ ?_ ?_<;>simp
   ·simp[fV,hb,gB,ho];refine key _ ?_ ?_ ?_<;>simp
  |false=>
   have key:=fun tm2 a b d=>acv S G hi hl hk hn AP hc ho (tm:=tm2) a b d;simp only[bR,cp,gM,cr]at key;rcases hc with rfl|rfl|rfl
   ·simp[fV,hb,gB,ho];refine key _ ?_ ?_ ?_<;>simp
   ·simp[fV,hb,gB,ho];refine key _ ?_ ?_ ?_<;>simp
   ·simp[fV,hb,gB,ho];refine key _ ?_ ?_ ?_<;>simp
def aJm(mi:Nat)(n most:Nat)(c1:AV)(bg:Key)(h:T ag)(nx:Key)(m:Nat)(tm':T AV)(h':T ag)(nx':Key):Prop:=∃(j:Nat) (l:List Ev) (g:GS) (cL cQ:AV) (oL oQ:Option Key),m=most-j∧j≤most∧j≤n∧l.length=j∧ae (K 1) tm'=some c1∧ae (K 2) tm'=some (I most)∧ae (K 7) tm'=some (.ptr bg 0)∧ae (K 8) tm'=some (I j)∧zf bg nx (mc mi) l g j cL cQ oL oQ h' nx'∧Ga mi l g∧Old nx h nx h' nx'
def aBW(mi most:Nat)(h:T ag)(nx:Key)(o:Out)(h':T ag)(nx':Key):Prop:=∃cR l g,o=.ret cR∧gR 8 eE cR l∧l.length≤most∧Ga mi l g∧Ext h nx h' nx'
theorem adV{mi:Nat}(hi:mi<3){ks:List Int}(Hn:∀x∈ks,IM x){c1:AV}(hc:gR 1 eI c1 ks){most:Nat}(hm:most≤16){h:T ag}{nx:Key}:aM C ml [gH mi,c1,I most] h nx (aBW mi most h nx):=by
 have rA:=S.r je;have rG:=S.r od;have s1:=kTSu nx;refine S.Ft.call ?_;simp[Cy];simp[DB];simp[DC];simp[DD];have G0:zf nx nx (mc mi) [] ⟨0,fun _=>0,fun _=>false,fun _=>false,fun _=>0,fun _=>(0,0)⟩ 0 .nils .nils none none (au nx (Qw (gB (mc mi) .nils .nils ⟨0,fun _=>0,fun _=>false,fun _=>false,fun _=>0,fun _=>(0,0)⟩)) h) nx.succ:=⟨by simp,Gr.nil _ _ _,⟨0,dQ _,.inl ⟨rfl,rfl,rfl⟩⟩,dQ _,by omega,(fun b hb=>by cases hb),(fun b hb=>by cases hb)⟩;have e0:=E0 h nx (.cells (gB (mc mi) .nils .nils ⟨0,fun _=>0,fun _=>false,fun _=>false,fun _=>0,fun _=>(0,0)⟩) .fix);simp[gB]at G0 e0;refine W.eB (n:=most) (aJm mi ks.length most c1 nx h nx) ⟨0,[],_,_,_,_,_,by simp,by omega,by omega,rfl,by simp,by simp,by simp,by simp,G0,.nil _ rfl,by omega,fun b hb=>e0.g b hb⟩ ?_;rintro m dF h1 bW ⟨j,l,g,cL,cQ,oL,oQ,rfl,hjm,hjn,hlj,g1,g2,g7,g8,G,hr,O⟩;have nO:=O.n;refine W.of ?_;simp[DE];have hR:Rd 1 c1 (ai eI ks) ks.length h1 bW:=hc.rd _ _;have fin:∀tm2:T AV,ae (K 7) tm2=some (.ptr nx 0)→fJ C (.seq (.ops vY) .ret) (cY [.tmp (K 6)] (aBW mi most h nx)) tm2 h1 bW:=by intro tm2 q7;have fr:=G.L.OC pQ 9998;have hb:=G.mD;simp;simp[vY,q7,hb,gB];refine⟨_,l,g,rfl,fr.1,by omega,hr,by omega,fun b hb=>?_⟩;rw[fr.2 b (fun e=>by have:=(G.lo b e).1;omega)];exact O.g b hb
 simp only[bR,cp]at fin;by_cases bY:j<ks.length
 ·have Bh:(j:Int)<ks.length:=by omega
  by_cases aRv:j<most
  ·have aJo:(j:Int)<most:=by omega
   have hx:=Hn _ (DX bY);have cH:=aee (m:=1000000) (by omega) ks[j];have har:=WL S hx (m:=1000000) (by omega) (by omega) (h:=h1) (nx:=bW);simp[↓hR.ln,pF,g1,g2,g8,Bh,aJo];simp at har;simp[↓hR.ixI bY,DG,g1,g7,g8,rA];refine har.mono ?_;rintro o h2 aN ⟨rfl,rfl,rfl⟩;simp[rG];refine(aoI S G hi (by omega) (by omega) nO cH).mono ?_;rintro o h3 bP ⟨rfl,x,g',cL',ya,oL',yV,G3,O3,st⟩;simp;simp[DH,g8];rw[aH (by omega) (by omega)];exact⟨most-(j+1),by omega,j+1,l ++ [x],g',cL',ya,oL',yV,rfl,by omega,by omega,by simp[hlj],by simp[g1],by simp[g2],by simp[g7],by simp,G3,hr.snoc st,O.trans O3⟩
  ·have yi:j=most:=by omega
   subst yi;simp[↓hR.ln,pF,g1,g2,g8,Bh];refine fin _ ?_;simp[g7]
 ·have yi:j=ks.length:=by omega
  subst yi;simp[↓hR.ln,pF,g1,g2,g8];refine fin _ ?_;simp[g7]
end Ln
namespace Ln
open Go.Sx Go
theorem Rd.ord{c:AV}{l:List Int}{h:T ag}{nx:Key}(g:Rd 1 c (ai eI l) l.length h nx):Ord c l l.length h nx:=by
 refine⟨dQ _,?_⟩;rcases g with⟨e,_,e2⟩|⟨f,e⟩|⟨b,k,e,hb,hl,_⟩
 ·exact .inl ⟨e,e2⟩
 ·exact .inr (.inl ⟨f,by rw[List.take_length];exact e⟩)
 ·exact .inr (.inr ⟨b,k,e,hb,hl⟩)
theorem NC(n:Int):O4 n<3:=aee (by omega) n
variable{C:bU}{X:Kn}(S:Std C X)
include S
end Ln
namespace Ln
open Go.Sx Go
structure avl(c:AV)(h:T ag)(nx:Key):Prop where
 ex:∃ord:List Int,ord.length≤1000∧Ord c ord ord.length h nx
 bq:AV.beq c c=true
theorem avl.ext{c:AV}{h h':T ag}{nx nx':Key}(o:avl c h nx)(e:Ext h nx h' nx'):avl c h' nx':=by obtain⟨ord,h1,h2⟩:=o.ex;exact⟨⟨ord,h1,h2.ext e⟩,o.bq⟩
variable{C:bU}{X:Kn}(S:Std C X)
include S
end Ln
namespace Ln
open Go.Sx Go
variable{C:bU}{X:Kn}(S:Std C X)
include S
end Ln
namespace Ln
open Go.Sx Go
def vuF:Nat→Nat→List Nat
 |0,n=>[n]
 |k+1,n=>if n<128 then [n]else(128+n%128) ::vuF k (n / 128)
def vu(n:Nat):List Nat:=vuF 10 n
theorem Nu{C:bU}{l:List aB}{R:cJ}{tm:T AV}{h:T ag}{nx:Key}(hw:fJ C (.ops l) R tm h nx):ns C R l tm h nx:=by simpa using hw
def eY(b:Nat):List AV:=[.int .u8 (.lit (b:Int))]
theorem Jq:Flat 1 eY where
 len _:=rfl
 wH x y hy:=by simp[eY]at hy;subst hy;exact dG _ _
 cell x y hy:=by simp[eY]at hy;subst hy;rfl
 lits x:=rfl
structure WS(w:Key)(c:AV)(bs:List Nat)(h:T ag)(nx n0:Key):Prop where
 lo:n0.toNat≤w.toNat
 hi:w.toNat<nx.toNat
 n:n0.toNat≤nx.toNat
 at_:ae w h=Qw [c]
 app:App c (ai eY bs) bs.length 1 h nx n0
def Xp(w:Key)(h:T ag)(nx:Key)(h':T ag):Prop:=∀b:Key,b.toNat<nx.toNat→b≠w→(∀B,ae b h=some B→B≠.tok∧∀l,B≠.cells l .part)→ae b h'=ae b h
theorem Xp.refl(w:Key)(h:T ag)(nx:Key):Xp w h nx h:=fun _ _ _ _=>rfl
theorem Xp.trans{w:Key}{h h1 h2:T ag}{nx bW:Key}(a:Xp w h nx h1)(hn:nx.toNat≤bW.toNat)(b:Xp w h1 bW h2):Xp w h nx h2:=fun k hk hw hB=>by have e:=a k hk hw hB;rw[b k (by omega) hw (by rw[e];exact hB),e]
theorem Xp.new(w:Key)(h:T ag)(nx:Key)(B:Option ag):Xp w h nx (au nx B h):=fun _ hk _ _=>aw hk
theorem Ext.kp{h h':T ag}{nx nx':Key}(e:Ext h nx h' nx')(w:Key):Xp w h nx h':=fun b hb _ _=>e.g b hb
theorem WS.add{w:Key}{c:AV}{bs:List Nat}{h:T ag}{nx n0:Key}(W:WS w c bs h nx n0)(new:List Nat)(hl:bs.length+new.length≤1048576) :
  ∃c' h' nx',appendTo 1 c (ai eY new) new.length h nx=.val c' h' nx'∧c'.aV=true∧c'.cells=[c']∧ae w h'=Qw [c]∧WS w c' (bs++new) (au w (Qw [c']) h') nx' n0∧nx.toNat≤nx'.toNat∧(∀b:Key,b.toNat<n0.toNat→ae b (au w (Qw [c']) h')=ae b h)∧Xp w h nx (au w (Qw [c']) h'):=by
 obtain⟨c',h',nx',a1,a2,a3,a4,a5⟩:=W.app.fX (new:=ai eY new) (m:=new.length) W.n (by rw[Jq.rows]) hl (Jq.auW new);have hw:ae w h'=Qw [c]:=by rw[a5 w W.hi (fun B hB=>by rw[W.at_]at hB;cases hB;exact⟨by simp,by simp⟩)];exact W.at_
 have⟨x1,x2⟩:=a2.cell;refine⟨c',h',nx',a1,x1,x2,hw,⟨W.lo,by have:=W.hi;omega,by have:=W.n;omega,by rw[gTSm],?_⟩,a3,fun b hb=>by rw[aw (by have:=W.lo;omega)];exact a4 b hb,fun b hb Zp hB=>by rw[aG _ _ _ _ Zp];exact a5 b hb hB⟩;have:=a2.set (k:=w) (B:=Qw [c']) (fun B hB=>by rw[hw]at hB;cases hB;exact⟨by simp,by simp⟩);rw[kG,Ll];exact this
theorem WS.ext{w:Key}{c:AV}{bs:List Nat}{h h':T ag}{nx nx' n0:Key}(W:WS w c bs h nx n0)(e:Ext h nx h' nx'):WS w c bs h' nx' n0:=
 ⟨W.lo,by have:=W.hi;have:=e.n;omega,by have:=W.n;have:=e.n;omega,by rw[e.g w W.hi];exact W.at_,W.app.ext e⟩
def kC(w:Key)(bs:List Nat)(h:T ag)(nx n0:Key)(o:Out)(h':T ag)(nx':Key):Prop:=o=.ret (.tuple [])∧∃c',WS w c' bs h' nx' n0∧nx.toNat≤nx'.toNat∧(∀b:Key,b.toNat<n0.toNat→ae b h'=ae b h)∧Xp w h nx h'
theorem wrap_u8(n:Nat):bF .u8 (n:Int)=((n%256:Nat):Int):=by rw[jE];simp[IntKind.wrap,IntKind.bits,IntKind.signed]
theorem auX(n:Nat):arith .or .u8 (.lit ((n%256:Nat):Int)) (.lit 128)=some (.lit ((128+n%128:Nat):Int)):=by
 have key:∀x:Fin 256,bF .u8 (.ofNat (Nat.lor (QQ .u8 ((x.val:Nat):Int)) (QQ .u8 128)))=((128+x.val%128:Nat):Int):=by decide +kernel
 have e:=key ⟨n%256,Nat.mod_lt _ (by omega)⟩;have e2:arith .or .u8 (.lit ((n%256:Nat):Int)) (.lit 128)=some (.lit (bF .u8 (.ofNat (Nat.lor (QQ .u8 ((n%256:Nat):Int)) (QQ .u8 128))))):=rfl;rw[e2,e];simp only;congr 3;omega
theorem azC(orc:jZ)(n:Nat)(k:Key)(tm:T AV)(h:T ag)(hk:ae k tm=some (.int .u64 (.lit (n:Int)))):lightOp orc (.bin .shr (.t k) (.v (.int .u64 (.lit 7)))) tm h=some (.int .u64 (.lit ((n / 128:Nat):Int))):=by simp only[lightOp,at_t,at_v,hk];rfl
theorem as4(orc:jZ){k:Key}{v:AV}{tm:T AV}{h:T ag}(hk:ae k tm=some v):lightOp orc (.mov (.t k)) tm h=some v:=by simp[hk]
theorem auY{C:bU}{Q:cJ}{tm:T AV}{h:T ag}{nx:Key}{n d:Nat}(hd:d=n / 128)(f1:ae (K 1) tm=some (.int .u64 (.lit (n:Int))))
  (hQ:Q .norm (au (K 1) (some (.int .u64 (.lit (d:Int)))) (au (K 19) (some (.int .u64 (.lit (d:Int)))) (au (K 18) (some (.int .u64 (.lit (n:Int)))) tm))) h nx):fJ C (.ops qh) Q tm h nx:=by
 subst hd;have e1:=as4 C.orc (h:=h) f1;have e2:=azC C.orc n (K 18) (au (K 18) (some (.int .u64 (.lit (n:Int)))) tm) h (by simp);have e3:=as4 C.orc (k:=K 19) (v:=.int .u64 (.lit ((n / 128:Nat):Int))) (tm:=au (K 19) (some (.int .u64 (.lit ((n / 128:Nat):Int)))) (au (K 18) (some (.int .u64 (.lit (n:Int)))) tm)) (h:=h) (by simp);generalize n / 128=d at e2 e3 hQ;simp only[Ls,Lt,Lu,Lw,Lx,qh,aEu,azD,azE,cp,Z1,wants_none,Wi,aOp,okV,e1,e2,e3,putTm_some,aqn];exact hQ
variable{C:bU}
def as5(w:Key)(bs:List Nat)(n:Nat)(h:T ag)(nx n0:Key)(k:Nat)(tm':T AV)(h':T ag)(nx':Key):Prop:=
 ∃(n':Nat) (bs':List Nat) (c':AV),k≤10∧ae (K 0) tm'=some (.ptr w 0)∧ae (K 1) tm'=some (.int .u64 (.lit (n':Int)))∧WS w c' bs' h' nx' n0∧n'*128^(10-k)<18446744073709551616∧bs'++vuF k n'=bs++vu n∧bs'.length≤bs.length+(10-k)∧
  nx.toNat≤nx'.toNat∧(∀b:Key,b.toNat<n0.toNat→ae b h'=ae b h)∧Xp w h nx h'
theorem akP(S:Fn C gp o4){w:Key}{c:AV}{bs:List Nat}{h:T ag}{nx n0:Key}(Ws:WS w c bs h nx n0){n:Nat}(hn:n<18446744073709551616)(hl:bs.length≤100000) :
  aM C gp [.ptr w 0,.int .u64 (.lit (n:Int))] h nx (kC w (bs++vu n) h nx n0):=by
 refine S.call ?_;simp[o4];refine W.eB (n:=10) (as5 w bs n h nx n0) ?_ ?_
 ·exact⟨n,bs,c,by omega,by simp,by simp,Ws,by simpa using hn,rfl,by omega,dQ _,fun _ _=>rfl,Xp.refl _ _ _⟩
 ·rintro k dF h1 bW ⟨n',bs',c',hk,f0,f1,W1,cH,hbs,hlen,hnx,hfr,hkp⟩;refine W.of ?_;simp[yc];have s1:=kTSu bW;by_cases hsm:n'<128
  ·have auZ:(n':Int)<128:=by omega
   have hv:vuF k n'=[n']:=by cases k<;>simp[vuF,hsm]
   simp[ql,f1,auZ];obtain⟨m,hm⟩:∃m,m=n'%256:=⟨_,rfl⟩;have h12:bF .u8 (n':Int)=(m:Int):=by rw[wrap_u8,hm]
   have hmn:m=n':=by omega
   obtain⟨c2,h2,aN,g,x1,x2,x3,W2,x5,x6,x7⟩:=(W1.ext (E0 h1 bW (.cells [.int .u8 (.lit (m:Int))] .fix))).add [m] (by simp;omega);have EL:ai eY [m]=[.int .u8 (.lit (m:Int))]:=kD _ _;rw[EL]at g;simp only[List.length_singleton]at g;have hz:∀H,cn (aW 9999) [AV.int .u8 (.lit (m:Int))] H=([AV.int .u8 (.lit (m:Int))],H):=fun H=>dw (by intro y hy;simp at hy;subst hy;exact dG _ _);simp[-appendTo,yd,f0,f1,W1.at_,h12,hz,g,x1,x2,x3];refine⟨rfl,c2,by rw[←hbs,hv,←hmn];exact W2,by omega,fun b hb=>?_,(hkp.trans hnx (Xp.new w h1 bW _)).trans (by omega) x7⟩;rw[x6 b hb,aw (by have:=W1.n;omega)];exact hfr b hb
  ·have auZ:¬(n':Int)<128:=by omega
   cases k with
   |zero=>
    exfalso;have:(128:Nat)^(10-0)=1180591620717411303424:=by decide
    rw[this]at cH;omega
   |succ k=>
    simp[ql,f1,auZ];obtain⟨m,hm⟩:∃m,m=n'%256:=⟨_,rfl⟩;obtain⟨y,hy⟩:∃y,y=128+n'%128:=⟨_,rfl⟩;have h12:bF .u8 (n':Int)=(m:Int):=by rw[wrap_u8,hm]
    have h13:arith .or .u8 (.lit (m:Int)) (.lit 128)=some (.lit (y:Int)):=by rw[hm,auX,hy]
    obtain⟨c2,h2,aN,g,x1,x2,x3,W2,x5,x6,x7⟩:=(W1.ext (E0 h1 bW (.cells [.int .u8 (.lit (y:Int))] .fix))).add [y] (by simp;omega);have EL:ai eY [y]=[.int .u8 (.lit (y:Int))]:=kD _ _;rw[EL]at g;simp only[List.length_singleton]at g;have hz:∀H,cn (aW 9999) [AV.int .u8 (.lit (y:Int))] H=([AV.int .u8 (.lit (y:Int))],H):=fun H=>dw (by intro z hz;simp at hz;subst hz;exact dG _ _);simp[-appendTo,-arith,ye,f0,f1,W1.at_,h12,h13,hz,g,x1,x2,x3];refine Nu (auY (n:=n') (d:=n' / 128) rfl (by simp[f1]) ?_);simp;refine⟨k,by omega,?_⟩;unfold as5;have hp:10-k=(10-(k+1))+1:=by omega
    refine⟨n' / 128,bs' ++ [y],c2,by omega,?_,?_,W2,?_,?_,?_,by omega,fun b hb=>?_,(hkp.trans hnx (Xp.new w h1 bW _)).trans (by omega) x7⟩
    ·simp[f0]
    ·simp
    ·rw[hp,Nat.pow_succ];have:n' / 128*(128^(10-(k+1))*128)≤n'*128^(10-(k+1)):=by rw[Nat.mul_comm (128^_) 128,←Nat.mul_assoc];exact Nat.mul_le_mul_right _ (Nat.div_mul_le_self _ _)
     omega
    ·rw[←hbs,vuF,if_neg hsm,hy,List.append_assoc];rfl
    ·rw[Ll,List.length_singleton];omega
    ·rw[x6 b hb,aw (by have:=W1.n;omega)];exact hfr b hb
theorem ait(n:Int):bF .u64 n=((n.emod 18446744073709551616).toNat:Int):=by rw[jE];simp only[IntKind.wrap,IntKind.bits,IntKind.signed];have e:n.emod 18446744073709551616=n%18446744073709551616:=rfl;rw[e];simp;omega
theorem aqo{q n0:Key}{h:T ag}{nx:Key}(hq:ae q h=Qw [])(AO:n0.toNat≤q.toNat)(hn:n0.toNat≤nx.toNat)(m:List Nat)(hl:m.length≤1048576) :
  ∃c' h' nx',appendTo 1 (.slice q 0 0 1) (ai eY m) m.length h nx=.val c' h' nx'∧nx.toNat≤nx'.toNat∧gR 1 eY (aW 9999 c' h').1 m∧∀b:Key,b.toNat<n0.toNat→ae b (aW 9999 c' h').2=ae b h:=by
 by_cases hm:m=[]
 ·subst hm;have hz:=wF (n:=9998) (b:=q) (len:=0) (sz:=1) (l:=[]) (H:=au q (Qw []) h) (by rw[gTSm]) rfl (by simp);refine⟨.slice q 0 0 1,au q (Qw []) h,nx,by simp[hq],dQ _,?_,fun b hb=>?_⟩
  ·rw[hz];exact .inr rfl
  ·rw[hz,aw (by omega),aw (by omega)]
 ·have hmp:0<m.length:=List.length_pos_iff.2 hm;have Ki:¬m.length=0:=by omega
  have hr:=Jq.rows m;have Cq:=Jq.auW m;have hz:=CM (n:=9998) (b:=nx) (len:=m.length) (sz:=1) (l:=ai eY m) (H:=au nx (some (.cells (ai eY m) .part)) h) (by rw[gTSm]) hr (Jq.IL m);refine⟨.slice nx 0 m.length 1,au nx (some (.cells (ai eY m) .part)) h,nx.succ,?_,by rw[kTSu];omega,?_,fun b hb=>?_⟩
  ·simp[hq,hl,Cq,Ki]
  ·rw[hz];exact .inr rfl
  ·rw[hz,aw (by omega),aw (by omega)]
theorem alg(S:Fn C gx o5){w:Key}{c:AV}{bs:List Nat}{h:T ag}{nx n0:Key}(Ws:WS w c bs h nx n0)(hl:bs.length≤1048576) :
  aM C gx [.ptr w 0] h nx (fun o h' nx'=>(∃c',o=.ret c'∧gR 1 eY c' bs)∧Ext h nx h' nx'):=by
 have s1:=kTSu nx;refine S.call ?_;have Ec:ae w (au nx (Qw []) h)=Qw [c]:=by rw[aw Ws.hi];exact Ws.at_
 simp[o5];simp[yf];obtain⟨c',h',nx',g,hn,hR,hf⟩:=aqo (q:=nx) (n0:=nx) (h:=au nx (Qw []) h) (nx:=nx.succ) (by rw[gTSm]) (dQ _) (by omega) bs hl;have hE:Ext h nx (aW 9999 c' h').2 nx':=⟨by omega,fun b hb=>by rw[hf b hb,aw hb]⟩;rcases Ws.app.is with⟨rfl,e1,e2⟩|⟨b,rfl,hb,AO,cH,XG⟩|⟨t,rfl,ht,AO,cH⟩
 ·have:bs=[]:=zqr e2;subst this;simp only[aiu,List.length_nil]at g;simp[-appendTo,kv,Ec,g];exact⟨hR,hE⟩
 ·have IW:ae b (au nx (Qw []) h)=some (.cells (ai eY bs) .part):=by rw[aw cH];exact hb
  have hz:∀H,cn (aW 9999) (ai eY bs) H=(ai eY bs,H):=fun H=>dw (Jq.IL bs);have hle:bs.length≤(ai eY bs).length:=by rw[Jq.rows];omega
  have QV:List.take bs.length (ai eY bs)=ai eY bs:=PV (by rw[Jq.rows];omega);simp[-appendTo,kv,Ec,IW,hz,hle,QV,g];exact⟨hR,hE⟩
 ·simp[-appendTo,kv,Ec,g];exact⟨hR,hE⟩
end Ln
namespace Ln
open Go.Sx Go
abbrev np(n:Nat):AV:=.int .u64 (.lit (n:Int))
def PT(a b:Nat):Nat:=Nat.xor a b%18446744073709551616
def orU(a b:Nat):Nat:=Nat.lor a b%18446744073709551616
def agl(a b:Nat):Nat:=a*b%18446744073709551616
def adv(a k:Nat):Nat:=a*2^k%18446744073709551616
def UB(n:Int):Nat:=(n.emod 18446744073709551616).toNat
theorem Ow(n:Int):bF .u64 n=((UB n:Nat):Int):=ait n
theorem axi(a b:Nat):arith .mul .u64 (.lit (a:Int)) (.lit (b:Int))=some (.lit ((agl a b:Nat):Int)):=by show some (SI.lit (bF .u64 (Int.mul (a:Int) (b:Int))))=_;rw[Ow];rfl
section
variable{C:bU}{Q:cJ}{L:List aB}{tm:T AV}{h:T ag}{nx d x y:Key}
theorem u9{o:BinOp}{a b:PX}{v:AV}(hl:lightOp C.orc (.bin o a b) tm h=some v):ns C Q (⟨some d,.bin o a b,none⟩ ::L) tm h nx=ns C Q L (au d (some v) tm) h nx:=by simp only[Ls,Lt,Lu,Lw,Lx,Z1,wants_none,Wi,aOp,okV,hl,putTm_some]
theorem Xo(a b:Nat)(h1:ae x tm=some (np a))(h2:ae y tm=some (np b)):ns C Q (⟨some d,.bin .xor (.t x) (.t y),none⟩ ::L) tm h nx=ns C Q L (au d (some (np (PT a b))) tm) h nx:=
 u9 (by simp only[lightOp,at_t,h1,h2];rfl)
theorem avs(a b:Nat)(h1:ae x tm=some (np a))(h2:ae y tm=some (np b)):ns C Q (⟨some d,.bin .or (.t x) (.t y),none⟩ ::L) tm h nx=ns C Q L (au d (some (np (orU a b))) tm) h nx:=
 u9 (by simp only[lightOp,at_t,h1,h2];rfl)
theorem aoQ(a:Nat)(h1:ae x tm=some (np a)):ns C Q (⟨some d,.bin .mul (.t x) (.v (.int .u64 (.lit 11400714819323198485))),none⟩ ::L) tm h nx=ns C Q L (au d (some (np (agl a 11400714819323198485))) tm) h nx:=
 u9 (by simp only[lightOp,at_t,at_v,h1];show(match arith .mul .u64 (.lit (a:Int)) (.lit ((11400714819323198485:Nat):Int))with|some r=>some (AV.int .u64 r)|none=>none)=_;rw[axi])
theorem alR(a:Nat)(h1:ae x tm=some (np a)):ns C Q (⟨some d,.bin .shl (.t x) (.v (.int .u64 (.lit 8))),none⟩ ::L) tm h nx=ns C Q L (au d (some (np (adv a 8))) tm) h nx:=
 u9 (by simp only[lightOp,at_t,at_v,h1];show some (AV.int .u64 (.lit (bF .u64 (Int.mul (a:Int) (.ofNat (Nat.pow 2 8))))))=_;rw[Ow];rfl)
theorem aj1(a:Nat)(h1:ae x tm=some (np a)):ns C Q (⟨some d,.bin .shr (.t x) (.v (.int .u64 (.lit 32))),none⟩ ::L) tm h nx=ns C Q L (au d (some (np (a / 4294967296))) tm) h nx:=
 u9 (by simp only[lightOp,at_t,at_v,h1];rfl)
end
def MK(s w:Nat):Nat:=PT (agl (PT s w) 11400714819323198485) (agl (PT s w) 11400714819323198485 / 4294967296)
variable{C:bU}{X:Kn}(S:Std C X)(H:PU C)
include S H
theorem Y4(s w:Nat){h:T ag}{nx:Key}:aM C ik [np s,np w] h nx (fun o h' nx'=>o=.ret (np (MK s w))∧h'=h∧nx'=nx):=by refine H.Tk.call ?_;simp[Tl];simp[Py];simp[Pz,↓Xo s w,↓aoQ (PT s w)];simp[PA,↓aj1 (agl (PT s w) 11400714819323198485),↓Xo (agl (PT s w) 11400714819323198485) (agl (PT s w) 11400714819323198485 / 4294967296)];rfl
end Ln
namespace Ln
open Go.Sx Go
theorem aww{n:Int}(h:0≤n)(k:n<18446744073709551616):bF .u64 n=n:=by
 unfold bF full half;simp only[KB];have:Int.emod n 18446744073709551616=n:=Int.emod_eq_of_lt h k;rw[this];have hl:decide (n<18446744073709551616)=true:=by simpa using k
 rw[hl];rfl
def BsI(l:List Ci)(x:Ci)(c0:AV)(b4:Key)(h:T ag)(nx:Key)(m:Nat)(tm':T AV)(h':T ag)(nx':Key):Prop:=∃i j:Nat,m=j-i∧i≤j∧j≤l.length∧ae (K 0) tm'=some c0∧ae (K 2) tm'=some (.fn cd [] [])∧ae (K 4) tm'=some (.ptr b4 0)∧ae (K 8) tm'=some (I l.length)∧ae (K 9) tm'=some (I i)∧ae (K 10) tm'=some (I j)∧
 ae b4 h'=Qw (eD x)∧b4.toNat<nx'.toNat∧Ext h nx h' nx'∧(∀q (hq:q<l.length),q<i→Ke l[q] x)∧(∀q (hq:q<l.length),j≤q→¬Ke l[q] x)
variable{C:bU}{X:Kn}(S:Std C X)
include S
theorem aei{l:List Ci}(hl:l.length≤10000)(hk:∀y∈l,y.2.kids.length≤3)(hs:l.Pairwise Ke){x:Ci}(hx:x.2.kids.length≤3){c0:AV}(hc:gR 5 eD c0 l){h:T ag}{nx:Key} :
  aM C bz [c0,.agg (eD x),.fn cd [] []] h nx (fun o h' nx'=>(∃p:Int,o=.ret (.tuple [I p,.bool (decide (x∈l))]))∧Ext h nx h' nx'):=by
 have rC:=S.r cd;have s1:=kTSu nx;have hg:=List.pairwise_iff_getElem.1 hs;have hr:=Jm.rows l;refine S.eJ.call ?_;simp[da];simp[dY,ak5,Rr];have e0:=E0 h nx (.cells (eD x) .fix);have b4:ae nx (au nx (Qw (eD x)) h)=Qw (eD x):=by simp
 generalize au nx (Qw (eD x)) h=h1 at *;have R0:Rd 5 c0 (ai eD l) l.length h1 nx:=hc.rd _ _;simp[↓R0.ln,dZ];simp[eb];refine W.eB (n:=l.length) (BsI l x c0 nx h nx) ⟨0,l.length,by simp,by omega,by omega,by simp,by simp,by simp,by simp,by simp,by simp,b4,by omega,e0,fun q _ h=>absurd h (by omega),fun q hq h=>absurd h (by omega)⟩ ?_;rintro m dF h2 aN ⟨i,j,rfl,hij,hj,g0,g2,g4,g8,g9,g10,bx,ltx,e2,AO,hhi⟩;have n2:=e2.n;refine W.of ?_;simp[ed];by_cases cH:i<j
 ·have aIc:(i:Int)<j:=by omega
  have UE:c0=.sl (ai eD l) l.length 5 .any:=by
   rcases hc with⟨_,rfl⟩|e
   ·simp at hj;omega
   ·exact e
  have g0':=g0;rw[UE]at g0';simp[cK,g9,g10,aIc];have w1:bF .i64 ((i:Int)+j)=((i+j:Nat):Int):=by rw[aH (by omega) (by omega)];omega
  have w2:bF .u64 ((i+j:Nat):Int)=((i+j:Nat):Int):=aww (by omega) (by omega);obtain⟨md,hmd⟩:∃md,md=(i+j) / 2:=⟨_,rfl⟩;have w3:bF .i64 (((i+j).div 2:Nat):Int)=(md:Int):=by have:(i+j).div 2=md:=hmd.symm;rw[this,aH (by omega) (by omega)]
  have hm:md<l.length:=by omega
  have hmi:i≤md∧md<j:=by omega
  generalize i+j=ij at *;simp[ef,g9,g10,w1,w2,w3,F0];clear w1 w2 w3 hmd;have hkm:=hk _ (DX hm);have tx:5≤l.length*5-md*5:=by omega
  have ec:=Jm.at hm;simp[ei,g0',g2,g4,hm,hr,tx,ec,bx,Rq,Rr,rC,agN];refine(Al S hkm hx h2 aN).mono ?_;rintro o h3 bP ⟨rfl,e3⟩;have n3:=e3.n;have bx3:ae nx h3=Qw (eD x):=by rw[e3.g nx ltx];exact bx
  by_cases hlx:Ke l[md] x
  ·have uC:=IF.2 hlx;simp[uC];simp[ej];rw[aH (by omega) (by omega)];refine⟨j-(md+1),by omega,md+1,j,rfl,by omega,by omega,by simp[g0],by simp[g2],by simp[g4],by simp[g8],by simp,by simp[g10],bx3,by omega,e2.trans e3,?_,hhi⟩;intro q hq hqm;by_cases e:q=md
   ·subst e;exact hlx
   ·exact ady (hg q md hq hm (by omega)) hlx
  ·have uC:¬Tq l[md] x<0:=fun q=>hlx (IF.1 q);simp[uC];simp[ep];refine⟨md-i,by omega,i,md,rfl,by omega,by omega,by simp[g0],by simp[g2],by simp[g4],by simp[g8],by simp[g9],by simp,bx3,by omega,e2.trans e3,AO,?_⟩;intro q hq hqm hlq;by_cases e:q=md
   ·subst e;exact hlx hlq
   ·exact hlx (ady (hg md q hm hq (by omega)) hlq)
 ·have yi:j=i:=by omega
  subst yi;simp[cK,g9,g10];by_cases Ae:j<l.length
  ·have awx:(j:Int)<l.length:=by omega
   have UE:c0=.sl (ai eD l) l.length 5 .any:=by
    rcases hc with⟨_,rfl⟩|e
    ·simp at Ae
    ·exact e
   have g0':=g0;rw[UE]at g0';have hkm:=hk _ (DX Ae);have tx:5≤l.length*5-j*5:=by omega
   have ec:=Jm.at Ae;simp[cM,g0',g2,g4,g8,g9,awx,Ae,hr,tx,ec,bx,Rq,Rr,rC,agN];refine(Al S hkm hx h2 aN).mono ?_;rintro o h3 bP ⟨rfl,e3⟩;have hd:(Tq l[j] x==0)=decide (x∈l):=by
    rw[Bool.eq_iff_iff];simp only[beq_iff_eq,decide_eq_true_eq,Q1];constructor
    ·rintro rfl;exact DX Ae
    ·intro hm;obtain⟨q,hq,rfl⟩:=List.getElem_of_mem hm;rcases Jh q j with h1|h1
     ·exact absurd (AO q hq h1) (ahk _)
     ·rcases Jh j q with h2|h2
      ·exact absurd (hg j q Ae hq h2) (hhi j Ae (dQ _))
      ·have:q=j:=by omega
       subst this;rfl
   simp;exact⟨hd,e2.trans e3⟩
  ·have awx:¬(j:Int)<l.length:=by omega
   have lC:x∉l:=by intro hm;obtain⟨q,hq,rfl⟩:=List.getElem_of_mem hm;exact ahk _ (AO q hq (by omega))
   simp[cM,g8,g9,awx];exact⟨lC,e2⟩
end Ln
namespace Ln
open Go.Sx Go
def YK(os:List Op)(k d q:Nat):Bool:=!(d.testBit q&&before (os.getD k default) (os.getD q default)) && !(!d.testBit q&&decide (0≤(os.getD q default).e)&&before (os.getD q default) (os.getD k default))
def TU(os:List Op)(k d:Nat):Bool:=!d.testBit k&&(List.range os.length).all (YK os k d)
theorem ahW{os:List Op}(hb:∀o∈os,before o o=false){k d q:Nat}(hk:k<os.length):YK os k d q=Tb os k d q:=by
 unfold YK Tb;by_cases e:q=k
 ·subst e;have:=hb _ (DX hk);rw[kF hk,this];simp
 ·have:(q==k)=false:=by simpa using e
  rw[this,Bool.false_or];cases d.testBit q<;>cases before (os.getD k default) (os.getD q default)<;>cases before (os.getD q default) (os.getD k default)<;>cases decide (0≤(os.getD q default).e)<;>rfl
theorem ara{os:List Op}(hb:∀o∈os,before o o=false){k d:Nat}(hk:k<os.length):TU os k d=pg os k d:=by have:pg os k d=(!d.testBit k&&(List.range os.length).all (Tb os k d)):=rfl;rw[this];unfold TU;congr 1;rw[Bool.eq_iff_iff,AQ,AQ];exact⟨fun h q hq=>by rw[←ahW hb hk];exact h q hq,fun h q hq=>by rw[ahW hb hk];exact h q hq⟩
theorem ahX{d k:Nat}(hd:d<65536):bF .i64 ((QQ .i64 ((d.div (2^k):Nat):Int) &&& QQ .i64 1:Nat):Int)=if d.testBit k=true then 1 else 0:=by
 have h1:d.div (2^k)≤d:=Nat.div_le_self _ _;have h2:QQ .i64 ((d.div (2^k):Nat):Int)=d.div (2^k):=vD (by omega);have h3:QQ .i64 1=1:=by decide
 rw[h2,h3,Nat.and_one_is_mod,aH (by omega) (by omega),Nat.testBit_eq_decide_div_mod_eq];show(((d / 2^k)%2:Nat):Int)=_;by_cases h:d / 2^k%2=1
 ·simp[h]
 ·have:d / 2^k%2=0:=by omega
  simp[this]
def TiI(X:Kn)(os:List Op)(cells:List AV)(cO:AV)(k d:Nat)(bj:Key)(h:T ag)(nx:Key)(m:Nat)(tm':T AV)(h':T ag)(nx':Key):Prop:=∃j:Nat,m=os.length-j∧j≤os.length∧ae (K 0) tm'=some (.ptr bj 0)∧ae (K 1) tm'=some (I k)∧ae (K 2) tm'=some (I d)∧ae (K 18) tm'=some cO∧ae (K 19) tm'=some (I os.length)∧ae (K 20) tm'=some (I j)∧ae bj h'=Qw cells∧Ext h nx h' nx'∧∀q,q<j→YK os k d q=true
variable{C:bU}{X:Kn}(S:Std C X)
include S
theorem ai9{i:Nat}{os:List Op}(ho:os.length≤16){cO:AV}(hc:gR 10 eO cO os){s0:St}{en k d:Nat}(hk:k<os.length)(hd:d<65536){h:T ag}{nx bj:Key}(hb:ae bj h=Qw (jB X i cO s0 en))(Ch:bj.toNat<nx.toNat) :
  aM C fM [.ptr bj 0,I k,I d] h nx (fun o h' nx'=>o=.ret (.bool (TU os k d))∧Ext h nx h' nx'):=by
 have rB:=S.r b9;have Eh:cO=.sl (ai eO os) os.length 10 .any:=by
  rcases hc with⟨_,rfl⟩|e
  ·simp at hk
  ·exact e
 subst Eh;have hr:=dP.rows os;have Vi:=dP.at hk;have tk:10≤os.length*10-k*10:=by omega
 have Ed:k≤64:=by omega
 refine S.tT.call ?_;simp[oa];simp[sJ];have ab:=ahX (k:=k) hd;cases aja:d.testBit k with
 |true=>
  rw[aja,if_pos rfl]at ab;have:TU os k d=false:=by unfold TU;rw[aja];rfl
  simp[kX,F0,Ed,ab];simp[sK];exact⟨this,Ext.refl _ _⟩
 |false=>
  rw[aja,if_neg (by simp)]at ab;have Cq:TU os k d=(List.range os.length).all (YK os k d):=by unfold TU;rw[aja];rfl
  simp[kX,F0,Ed,ab];simp[sM,hb,jB];refine W.eB (n:=os.length) (TiI X os (jB X i (.sl (ai eO os) os.length 10 .any) s0 en) (.sl (ai eO os) os.length 10 .any) k d bj h nx) ⟨0,by simp,by omega,by simp,by simp,by simp,by simp,by simp,by simp,by simpa[jB]using hb,Ext.refl _ _,fun q hq=>absurd hq (by omega)⟩ ?_;rintro m dF h2 aN ⟨j,rfl,hj,g0,g1,g2,g18,g19,g20,bj2,e2,hq⟩;have n2:=e2.n;have s2:=kTSu aN;refine W.of ?_;simp[sN];by_cases bY:j<os.length
  ·have Bh:(j:Int)<os.length:=by omega
   have ecj:=dP.at bY;have tj:10≤os.length*10-j*10:=by omega
   have j64:j≤64:=by omega
   have P6:YK os k d j=(!(d.testBit j&&before os[k] os[j]) && !(!d.testBit j&&decide (0≤os[j].e)&&before os[j] os[k])):=by unfold YK;rw[kF bY,kF hk]
   have UH:(eO os[j]).all AV.aV=true:=AQ.2 (dP.cell _);have abj:=ahX (k:=j) hd;simp[kY,g19,g20,Bh];simp[sO,g18,g20,bY,hr,tj,ecj,Mg,De,UH];have e3:=E0 h2 aN (.cells (eO os[j]) .fix);have bo3:ae aN (au aN (Qw (eO os[j])) h2)=Qw (eO os[j]):=by simp
   have Ye:ae bj (au aN (Qw (eO os[j])) h2)=Qw (jB X i (.sl (ai eO os) os.length 10 .any) s0 en):=by rw[e3.g bj (by omega)];exact bj2
   have Ns:=e2.trans e3;generalize au aN (Qw (eO os[j])) h2=h3 at *;have fail:YK os k d j=false→∀h' nx',Ext h nx h' nx'→(TU os k d=false∧Ext h nx h' nx'):=fun hf h' nx' e'=>⟨by rw[Cq,ahe bY hf],e'⟩;have next:∀(tm2:T AV) (h':T ag) (nx':Key),ae (K 0) tm2=some (.ptr bj 0)→ae (K 1) tm2=some (I k)→ae (K 2) tm2=some (I d)→ae (K 18) tm2=some (.sl (ai eO os) os.length 10 .any)→ae (K 19) tm2=some (I os.length)→ae (K 20) tm2=some (I j)→ae bj h'=Qw (jB X i (.sl (ai eO os) os.length 10 .any) s0 en)→Ext h nx h' nx'→YK os k d j=true→
     ns C (aO (fun tm h' nx'=>∃m,m<os.length-j∧TiI X os (jB X i (.sl (ai eO os) os.length 10 .any) s0 en) (.sl (ai eO os) os.length 10 .any) k d bj h nx m tm h' nx') (az 0 (aO (fJ C (.seq (.ops j9) .ret) (cY [.tmp (K 6)] fun o h' nx'=>o=.ret (.bool (TU os k d))∧Ext h nx h' nx')) (cY [.tmp (K 6)] fun o h' nx'=>o=.ret (.bool (TU os k d))∧Ext h nx h' nx')))) kZ tm2 h' nx':=by
    intro tm2 h' nx' q0 q1 q2 q18 q19 q20 b' e' wQ;simp[kZ,q20];rw[aH (by omega) (by omega)];exact⟨os.length-(j+1),by omega,j+1,rfl,by omega,by simp[q0],by simp[q1],by simp[q2],by simp[q18],by simp[q19],by simp,b',e',Yg hq wQ⟩
   cases hbj:d.testBit j with
   |true=>
    rw[hbj,if_pos rfl]at abj;rw[hbj]at P6;simp[lf,g2,F0,j64,abj];simp[hJ,g0,g1,Ye,jB,bo3,hk,hr,tk,Vi,De,Mg,rB,Wz];refine(vo S os[k] os[j] _ _).mono ?_;rintro o h4 kK ⟨rfl,e4⟩;have bj4:ae bj h4=Qw (jB X i (.sl (ai eO os) os.length 10 .any) s0 en):=by rw[e4.g bj (by omega)];exact Ye
    cases BB:before os[k] os[j]with
    |true=>rw[BB]at P6;simp;simp[lj];exact fail (by rw[P6];rfl) _ _ (Ns.trans e4)
    |false=>rw[BB]at P6;simp;refine next _ _ _ ?_ ?_ ?_ ?_ ?_ ?_ bj4 (Ns.trans e4) (by rw[P6];rfl)<;>simp[g0,g1,g2,g18,g19,g20]
   |false=>
    rw[hbj,if_neg (by simp)]at abj;rw[hbj]at P6;simp[lf,g2,F0,j64,abj];by_cases he:os[j].e<0
    ·have he2:¬0≤os[j].e:=by omega
     simp[he2]at P6;have e2':(eO os[j])[2]?=some (I os[j].e):=rfl;simp[hJ,g0,g1,bo3,e2',he];refine next _ _ _ ?_ ?_ ?_ ?_ ?_ ?_ Ye Ns P6<;>simp[g0,g1,g2,g18,g19,g20]
    ·have he2:0≤os[j].e:=by omega
     simp[he2]at P6;have e2':(eO os[j])[2]?=some (I os[j].e):=rfl;simp[hJ,g0,g1,Ye,jB,bo3,hk,hr,tk,Vi,De,Mg,rB,Wz,e2',he];refine(vo S os[j] os[k] _ _).mono ?_;rintro o h4 kK ⟨rfl,e4⟩;have bj4:ae bj h4=Qw (jB X i (.sl (ai eO os) os.length 10 .any) s0 en):=by rw[e4.g bj (by omega)];exact Ye
     cases BB:before os[j] os[k]with
     |true=>rw[BB]at P6;simp;simp[lj];exact fail (by rw[P6];rfl) _ _ (Ns.trans e4)
     |false=>rw[BB]at P6;simp;refine next _ _ _ ?_ ?_ ?_ ?_ ?_ ?_ bj4 (Ns.trans e4) (by rw[P6];rfl)<;>simp[g0,g1,g2,g18,g19,g20]
  ·have yi:j=os.length:=by omega
   subst yi;have fin:TU os k d=true:=by rw[Cq];exact aog hq
   simp[kY,g19,g20];simp[j9];exact⟨fin,e2⟩
end Ln
namespace Go.Sx
def aic(ds:List Key):List Xj:=ds.map Xj.coll
abbrev pV:=Ex→List Key→T AV→T ag→Key→Prop
def ur(af:oG)(ds:List Key):oG:={af with dfs:=aic ds++af.dfs}
def aCi(Q:pV)(af:oG)(k:List dJ)(cs:List oG)(m:AM):Prop:=∃e ds tm' h' nx' fr,Q e ds tm' h' nx'∧Aft (ur af ds) k e tm' fr∧m=⟨fr,cs,h',nx'⟩
def VI(C:bU)(x:dJ)(Q:pV)(ds:List Key)(tm:T AV)(h:T ag)(nx:Key):Prop:=
 ∀(af:oG) (k:List dJ) (cs:List oG),af.mode=.run→af.wI=none→Ev C (aCi Q af k cs) ⟨{ur af ds with tm:=tm,todo:=x ::k},cs,h,nx⟩
abbrev V(C:bU)(c:aL):pV→List Key→T AV→T ag→Key→Prop:=VI C (.code c)
section
variable{C:bU}{Q Q':pV}{ds:List Key}{tm:T AV}{h:T ag}{nx:Key}
theorem VI.mono{x:dJ}(hw:VI C x Q ds tm h nx)(hq:∀e ds tm h nx,Q e ds tm h nx→Q' e ds tm h nx):VI C x Q' ds tm h nx:=by intro af k cs h1 h2;refine(hw af k cs h1 h2).mono ?_;rintro m ⟨e,BS,tm',h',nx',fr,q,a,t⟩;exact⟨e,BS,tm',h',nx',fr,hq _ _ _ _ _ q,a,t⟩
theorem V.acy{c:aL}(hw:W C c (fun e tm h nx=>Q e ds tm h nx) tm h nx):V C c Q ds tm h nx:=by intro af k cs h1 h2;refine(hw (ur af ds) k cs h1 trivial).mono ?_;rintro m ⟨e,tm',h',nx',fr,q,a,t⟩;exact⟨e,ds,tm',h',nx',fr,q,a,t⟩
def Uc(Wp:List Key→T AV→T ag→Key→Prop)(Q:pV):pV:=fun e ds tm h nx=>match e with
 |.norm=>Wp ds tm h nx
 |e=>Q e ds tm h nx
def si(id:Nat)(Q:pV):pV:=fun e ds tm h nx=>match e with
 |.exit j=>if j=id then Q .norm ds tm h nx else Q (.exit j) ds tm h nx
 |e=>Q e ds tm h nx
theorem V.seq{a b:aL}(hw:V C a (Uc (V C b Q) Q) ds tm h nx):V C (.seq a b) Q ds tm h nx:=by
 intro af k cs h1 h2;refine .step (m':=⟨{ur af ds with tm:=tm,todo:=.code a ::.code b ::k},cs,h,nx⟩) (bH h1 rfl) ((hw af (.code b ::k) cs h1 h2).bind ?_);rintro m ⟨e,BS,tm',h',nx',fr,q,ha,rfl⟩;cases e with
 |norm=>cases ha;exact q af k cs h1 h2
 |ret=>exact .now ⟨.ret,BS,tm',h',nx',fr,q,ha,rfl⟩
 |exit id=>obtain⟨k2,e1,e2⟩:=ha;exact .now ⟨.exit id,BS,tm',h',nx',fr,q,⟨k2,e1,e2⟩,rfl⟩
 |pan a=>exact .now ⟨.pan a,BS,tm',h',nx',fr,q,ha,rfl⟩
theorem V.cond{x:PX}{a b:aL}{t:Bool}(hx:x.at tm=some (.bool t))(hw:V C (if t then a else b) Q ds tm h nx):V C (.cond x a b) Q ds tm h nx:=by intro af k cs h1 h2;refine .step (m':=⟨{ur af ds with tm:=tm,todo:=.code (if t then a else b) ::k},cs,h,nx⟩) (bH h1 ?_) (hw af k cs h1 h2);simp only[cV,hx];cases t<;>rfl
theorem V.block{id:Nat}{c:aL}(hw:V C c (si id Q) ds tm h nx):V C (.block id c) Q ds tm h nx:=by
 intro af k cs h1 h2;refine .step (m':=⟨{ur af ds with tm:=tm,todo:=.code c ::.inBlock id ::k},cs,h,nx⟩) (bH h1 rfl) ((hw af (.inBlock id ::k) cs h1 h2).bind ?_);rintro m ⟨e,BS,tm',h',nx',fr,q,ha,rfl⟩;cases e with
 |norm=>cases ha;exact .step (m':=⟨{ur af BS with tm:=tm',todo:=k},cs,h',nx'⟩) (bH h1 rfl) (.now ⟨.norm,BS,tm',h',nx',_,q,rfl,rfl⟩)
 |ret=>exact .now ⟨.ret,BS,tm',h',nx',fr,q,ha,rfl⟩
 |exit j=>
  obtain⟨k2,e1,rfl⟩:=ha;by_cases hj:j=id
  ·subst hj;simp only[si,if_true]at q;refine .step (m':=⟨{ur af BS with tm:=tm',todo:=k},cs,h',nx'⟩) (bH h1 ?_) (.now ⟨.norm,BS,tm',h',nx',_,q,rfl,rfl⟩);simp only[cV,e1,oV,beqN_eq,decide_true,cond_true]
  ·simp only[si,if_neg hj]at q;refine .now ⟨.exit j,BS,tm',h',nx',_,q,⟨k2,?_,rfl⟩,rfl⟩;rw[e1];simp only[oV,beqN_eq,show ¬id=j from fun e=>hj e.symm,decide_false,cond_false]
 |pan a=>exact .now ⟨.pan a,BS,tm',h',nx',fr,q,ha,rfl⟩
theorem V.eB{c:aL}(Inv:Nat→List Key→T AV→T ag→Key→Prop){n:Nat}(hi:Inv n ds tm h nx)
  (hw:∀n ds tm h nx,Inv n ds tm h nx→V C c (Uc (fun ds tm h nx=>∃m,m<n∧Inv m ds tm h nx) Q) ds tm h nx):V C (.loop c) Q ds tm h nx:=by
 have key:∀(n:Nat) (ds:List Key) (tm:T AV) (h:T ag) (nx:Key),Inv n ds tm h nx→VI C (.inLoop c) Q ds tm h nx:=by
  intro n
  induction n using Nat.strongRecOn with
  |_ n ih=>
   intro ds tm h nx hi af k cs h1 h2;refine .step (m':=⟨{ur af ds with tm:=tm,todo:=.code c ::.inLoop c ::k},cs,h,nx⟩) (bH h1 rfl) ((hw n ds tm h nx hi af (.inLoop c ::k) cs h1 h2).bind ?_);rintro m ⟨e,BS,tm',h',nx',fr,q,ha,rfl⟩;cases e with
   |norm=>cases ha;obtain⟨m,hm,him⟩:=q;exact ih m hm BS tm' h' nx' him af k cs h1 h2
   |ret=>exact .now ⟨.ret,BS,tm',h',nx',fr,q,ha,rfl⟩
   |exit id=>obtain⟨k2,e1,e2⟩:=ha;exact .now ⟨.exit id,BS,tm',h',nx',fr,q,⟨k2,e1,e2⟩,rfl⟩
   |pan a=>exact .now ⟨.pan a,BS,tm',h',nx',fr,q,ha,rfl⟩
 intro af k cs h1 h2;refine .step (m':=⟨{ur af ds with tm:=tm,todo:=.code c ::.inLoop c ::k},cs,h,nx⟩) (bH h1 rfl) ((hw n ds tm h nx hi af (.inLoop c ::k) cs h1 h2).bind ?_);rintro m ⟨e,BS,tm',h',nx',fr,q,ha,rfl⟩;cases e with
 |norm=>cases ha;obtain⟨m,hm,him⟩:=q;exact key m BS tm' h' nx' him af k cs h1 h2
 |ret=>exact .now ⟨.ret,BS,tm',h',nx',fr,q,ha,rfl⟩
 |exit id=>obtain⟨k2,e1,e2⟩:=ha;exact .now ⟨.exit id,BS,tm',h',nx',fr,q,⟨k2,e1,e2⟩,rfl⟩
 |pan a=>exact .now ⟨.pan a,BS,tm',h',nx',fr,q,ha,rfl⟩
def aJQ(Q:pV):Option aL→List Key→T AV→T ag→Key→Prop
 |none,ds,tm,h,nx=>Q .norm ds tm h nx
 |some .ret,ds,tm,h,nx=>Q .ret ds tm h nx
 |some (.exit i),ds,tm,h,nx=>Q (.exit i) ds tm h nx
 |some _,_,_,_,_=>False
def YL(Q:pV)(d l:Key)(fn:Nat)(tm:T AV)(res:List RV)(ps:List Key)(a b:aL)(ds:List Key):Out→T ag→Key→Prop:=fun o h' nx'=>∃v,o=.ret v∧∃st pd,ae l h'=some (.loop st pd fn tm res ps a b d)∧st≠.busy∧aJQ Q pd (d ::ds) tm (au l (some (.loop .exhausted pd fn tm res ps a b d)) h') nx'
noncomputable def kW(fn:Nat)(tm:T AV)(res:List RV)(ps:List Key)(a b:aL)(h:T ag)(nx:Key):T ag:=au nx.succ (some (.loop .ready none fn tm res ps a b nx)) (au nx (some (.dfs false)) h)
theorem V.rangeF{f:PX}{ps:List Key}{a b:aL}{g:Nat}{first cap:List AV}(hf:f.at tm=some (.fn g first cap))(hs:∀l h nx,C.sum g l h nx=none)
  (hc:∀fn res,aM C g (first ++ .yld nx.succ ::cap) (kW fn tm res ps a b h nx) nx.succ.succ (YL Q nx nx.succ fn tm res ps a b ds)):V C (.rangeF f ps a b) Q ds tm h nx:=by
 intro af k cs h1 h2;rcases hc af.fn af.res with⟨v,h',nx',e,_⟩|⟨_,p,hp,fp⟩
 ·rw[hs]at e;cases e
 ·refine .step (m':=⟨ah g p (first ++ .yld nx.succ ::cap),{ur af (nx ::ds)with tm:=tm,todo:=.inRF nx.succ ::k} ::cs,kW af.fn tm af.res ps a b h nx,nx.succ.succ⟩) (bH h1 ?_) ((fp _).bind ?_)
  ·have hp':(bif Nat.beq (Key.gK 12 g).toNat g then ae (Key.gK 12 g) C.fns else none)=some p:=hp;have hr:(ur af ds).wI=none:=h2;simp only[cV,hf,hr,sTCe,GH,hp',DZ];have ND:(ur af (nx ::ds)).wI=none:=h2;rw[ND];rfl
  ·rintro m2 ⟨o,h',nx',MZ,h3,⟨v,rfl,st,pd,hl,fI,hq⟩,hfn,hdf,⟨hd,Mm,l,Wm,rfl,rfl⟩,rfl⟩;have e1:kj C ⟨MZ,{ur af (nx ::ds)with tm:=tm,todo:=.inRF nx.succ ::k} ::cs,h3,nx'⟩=.next ⟨{ur af (nx ::ds)with tm:=tm,todo:=.endRF nx.succ ::k},cs,(dd (C.nD g) l h3).2,nx'⟩:=by unfold kj;simp only[Mm];unfold Bi;simp only[hd,Mm,Wm,hfn,zq];unfold Lp;simp only[hdf,cond_false,dD]
   refine .step e1 ?_;refine .step (m':=⟨{ur af (nx ::ds)with tm:=tm,todo:=(pd.map dJ.code).toList++k},cs,au nx.succ (some (.loop .exhausted pd af.fn tm af.res ps a b nx)) (dd (C.nD g) l h3).2,nx'⟩) (bH h1 ?_) ?_
   ·cases st with
    |busy=>exact absurd rfl fI
    |_=>simp only[cV,hl,sTCe];cases pd<;>rfl
   ·cases pd with
    |none=>exact .now ⟨.norm,_,_,_,_,_,hq,rfl,rfl⟩
    |some c=>
     cases c with
     |ret=>exact .now ⟨.ret,_,_,_,_,_,hq,⟨k,rfl⟩,rfl⟩
     |exit i=>exact .now ⟨.exit i,_,_,_,_,_,hq,⟨k,rfl,rfl⟩,rfl⟩
     |_=>exact hq.elim
end
noncomputable def MJ(C:bU):aL→pV→List Key→T AV→T ag→Key→Prop
 |.seq a b,Q,ds,tm,h,nx=>MJ C a (Uc (MJ C b Q) Q) ds tm h nx
 |.cond x a b,Q,ds,tm,h,nx=>match x.at tm with
  |some (.bool t)=>(t=true→MJ C a Q ds tm h nx)∧(t=false→MJ C b Q ds tm h nx)
  |_=>False
 |.block id c,Q,ds,tm,h,nx=>MJ C c (si id Q) ds tm h nx
 |.loop c,Q,ds,tm,h,nx=>V C (.loop c) Q ds tm h nx
 |.rangeF f ps a b,Q,ds,tm,h,nx=>V C (.rangeF f ps a b) Q ds tm h nx
 |.skip,Q,ds,tm,h,nx=>Q .norm ds tm h nx
 |.exit id,Q,ds,tm,h,nx=>Q (.exit id) ds tm h nx
 |.ret,Q,ds,tm,h,nx=>Q .ret ds tm h nx
 |.ops l,Q,ds,tm,h,nx=>ns C (fun e tm h nx=>Q e ds tm h nx) l tm h nx
 |.staged l d,Q,ds,tm,h,nx=>wpS C (fun e tm h nx=>Q e ds tm h nx) d l [] tm h nx
section
variable{C:bU}
theorem sQ:∀{c:aL} {Q:pV} {ds:List Key} {tm:T AV} {h:T ag} {nx:Key},MJ C c Q ds tm h nx→V C c Q ds tm h nx
 |.seq a b,Q,ds,tm,h,nx,hw=>by
  have hw:MJ C a (Uc (MJ C b Q) Q) ds tm h nx:=hw;refine V.seq ((sQ hw).mono fun e ds tm h nx hq=>?_);cases e with
  |norm=>exact sQ hq
  |_=>exact hq
 |.cond x a b,Q,ds,tm,h,nx,hw=>by
  unfold MJ at hw;split at hw
  ·rename_i t hx;refine V.cond hx ?_;cases t with
   |true=>exact sQ (hw.1 rfl)
   |false=>exact sQ (hw.2 rfl)
  ·exact hw.elim
 |.block id c,Q,ds,tm,h,nx,hw=>by have hw:MJ C c (si id Q) ds tm h nx:=hw;exact V.block (sQ hw)
 |.loop c,Q,ds,tm,h,nx,hw=>hw
 |.rangeF f ps a b,Q,ds,tm,h,nx,hw=>hw
 |.skip,Q,ds,tm,h,nx,hw=>V.acy (W.skip hw)
 |.exit id,Q,ds,tm,h,nx,hw=>V.acy (W.exit hw)
 |.ret,Q,ds,tm,h,nx,hw=>V.acy (W.ret hw)
 |.ops l,Q,ds,tm,h,nx,hw=>V.acy (W.ops (DI hw))
 |.staged l d,Q,ds,tm,h,nx,hw=>V.acy (W.staged (DJ hw))
variable(Q:pV)(ds:List Key)(tm:T AV)(h:T ag)(nx:Key)
@[simp] theorem aDO(a b:aL):MJ C (.seq a b) Q ds tm h nx=MJ C a (Uc (MJ C b Q) Q) ds tm h nx:=yg Iff.rfl
@[simp] theorem aCj(x:PX)(a b:aL):MJ C (.cond x a b) Q ds tm h nx=(match x.at tm with
  |some (.bool t)=>(t=true→MJ C a Q ds tm h nx)∧(t=false→MJ C b Q ds tm h nx)
  |_=>False):=yg Iff.rfl
@[simp] theorem azc(id:Nat)(c:aL):MJ C (.block id c) Q ds tm h nx=MJ C c (si id Q) ds tm h nx:=yg Iff.rfl
@[simp] theorem aCk(c:aL):MJ C (.loop c) Q ds tm h nx=V C (.loop c) Q ds tm h nx:=yg Iff.rfl
@[simp] theorem axs(f:PX)(ps:List Key)(a b:aL):MJ C (.rangeF f ps a b) Q ds tm h nx=V C (.rangeF f ps a b) Q ds tm h nx:=yg Iff.rfl
@[simp] theorem aCl:MJ C .skip Q ds tm h nx=Q .norm ds tm h nx:=yg Iff.rfl
@[simp] theorem aCm(id:Nat):MJ C (.exit id) Q ds tm h nx=Q (.exit id) ds tm h nx:=yg Iff.rfl
@[simp] theorem aDP:MJ C .ret Q ds tm h nx=Q .ret ds tm h nx:=yg Iff.rfl
def atD(Q:pV)(ds:List Key):cJ:=fun e tm h nx=>Q e ds tm h nx
@[simp] theorem aJR(e:Ex):atD Q ds e tm h nx=Q e ds tm h nx:=yg Iff.rfl
@[simp] theorem aDQ(l:List aB):MJ C (.ops l) Q ds tm h nx=ns C (atD Q ds) l tm h nx:=yg Iff.rfl
@[simp] theorem axt(l:List aS)(d:SD):MJ C (.staged l d) Q ds tm h nx=wpS C (atD Q ds) d l [] tm h nx:=yg Iff.rfl
@[simp] theorem azd(Wp:List Key→T AV→T ag→Key→Prop):Uc Wp Q .norm ds tm h nx=Wp ds tm h nx:=yg Iff.rfl
@[simp] theorem aCn(Wp:List Key→T AV→T ag→Key→Prop):Uc Wp Q .ret ds tm h nx=Q .ret ds tm h nx:=yg Iff.rfl
@[simp] theorem aze(Wp:List Key→T AV→T ag→Key→Prop)(i:Nat):Uc Wp Q (.exit i) ds tm h nx=Q (.exit i) ds tm h nx:=yg Iff.rfl
@[simp] theorem aCo(Wp:List Key→T AV→T ag→Key→Prop)(a:AV):Uc Wp Q (.pan a) ds tm h nx=Q (.pan a) ds tm h nx:=yg Iff.rfl
@[simp] theorem aup(j:Nat):si j Q .norm ds tm h nx=Q .norm ds tm h nx:=yg Iff.rfl
@[simp] theorem axu(j:Nat):si j Q .ret ds tm h nx=Q .ret ds tm h nx:=yg Iff.rfl
@[simp] theorem auq(j i:Nat):si j Q (.exit i) ds tm h nx=if i=j then Q .norm ds tm h nx else Q (.exit i) ds tm h nx:=yg Iff.rfl
@[simp] theorem axv(j:Nat)(a:AV):si j Q (.pan a) ds tm h nx=Q (.pan a) ds tm h nx:=yg Iff.rfl
end
def MI(res:List RV)(R:Out→T ag→Key→Prop):pV:=fun e ds tm h nx=>match e with
 |.norm|.ret=>ds.Nodup∧(∀b∈ds,ae b h=some (.dfs false))∧∀h2:T ag,(∀b,b∉ds→ae b h2=ae b h)→∃l,resultsA h2 tm res=some l∧R (.ret (qg (cn (aW 9999) l h2).1)) (cn (aW 9999) l h2).2 nx
 |_=>False
theorem PL{C:bU}{S:AM→Prop}:∀(ds:List Key) (fr:oG) (cs:List oG) (h:T ag) (nx:Key),ds.Nodup→(∀b∈ds,ae b h=some (.dfs false))→fr.mode=.ret→fr.dfs=aic ds→
  (∀h2:T ag,(∀b,b∉ds→ae b h2=ae b h)→Ev C S ⟨{fr with dfs:=[]},cs,h2,nx⟩)→Ev C S ⟨fr,cs,h,nx⟩
 | [],fr,cs,h,nx,_,_,_,hd,hk=>by
  have:=hk h (fun _ _=>rfl);have e:({fr with dfs:=[]}:oG)=fr:=by cases fr;cases hd;rfl
  rw[e]at this;exact this
 |b ::ds,fr,cs,h,nx,hn,hb,hm,hd,hk=>by
  rw[List.nodup_cons]at hn;refine .step (m':=⟨{fr with dfs:=aic ds},cs,au b (some (.dfs true)) h,nx⟩) ?_ (PL ds _ cs _ nx hn.2 (fun c hc=>?_) hm rfl fun h2 h3=>?_)
  ·have hd:fr.dfs=.coll b ::aic ds:=hd;unfold kj;simp only[hm];unfold Bi;simp only[hd,hb b (by simp),sTCe,hm]
  ·rw[aG _ _ _ _ (fun e=>hn.1 (by rw[←e];exact hc))];exact hb c (by simp[hc])
  ·refine hk h2 fun c hc=>?_;simp only[M4,not_or]at hc;rw[h3 c hc.2,aG _ _ _ _ hc.1]
theorem aM.aJJ{C:bU}{f:Nat}{p:gE}{l:List AV}{h:T ag}{nx:Key}{R:Out→T ag→Key→Prop}(hs:C.sum f l h nx=none)(hp:HF C f=some p)(hr:C.nD f=false)(hw:V C p.body (MI p.res R) [] (iu l (K 0) .nil) h nx):aM C f l h nx R:=by
 refine .inr ⟨hs,p,hp,fun cs=>(hw (ah f p l) [] cs rfl rfl).bind ?_⟩;have fin:∀(tm':T AV) (t:List dJ) (ds:List Key) (h':T ag) (nx':Key),ds.Nodup→(∀b∈ds,ae b h'=some (.dfs false))→(∀h2:T ag,(∀b,b∉ds→ae b h2=ae b h')→∃l,resultsA h2 tm' p.res=some l∧R (.ret (qg (cn (aW 9999) l h2).1)) (cn (aW 9999) l h2).2 nx')→
   Ev C (aBN C f R cs) ⟨{ur (ah f p l) ds with tm:=tm',todo:=t,mode:=.ret},cs,h',nx'⟩:=by
  intro tm' t ds h' nx' q1 q2 q3;refine PL ds _ cs h' nx' q1 q2 rfl (List.append_nil _) fun h2 h3=>?_;obtain⟨l1,hl,hR⟩:=q3 h2 h3;refine .now ⟨_,_,nx',_,h2,hR,rfl,rfl,⟨rfl,rfl,l1,hl,?_,?_⟩,rfl⟩<;>rw[hr]<;>rfl
 rintro m ⟨e,ds,tm',h',nx',fr,q,ha,rfl⟩;cases e with
 |norm=>cases ha;exact .step (m':=⟨{ur (ah f p l) ds with tm:=tm',todo:=[],mode:=.ret},cs,h',nx'⟩) (bH rfl rfl) (fin _ _ _ _ _ q.1 q.2.1 q.2.2)
 |ret=>obtain⟨t',rfl⟩:=ha;exact .step (m':=⟨{ur (ah f p l) ds with tm:=tm',todo:=.code .ret ::t',mode:=.ret},cs,h',nx'⟩) (bH rfl rfl) (fin _ _ _ _ _ q.1 q.2.1 q.2.2)
 |exit id=>exact q.elim
 |pan a=>exact q.elim
theorem AU.mono{C:bU}{l:Key}{args:List AV}{h:T ag}{nx:Key}{R R':Out→T ag→Key→Prop}(hy:AU C l args h nx R)(hr:∀o h nx,R o h nx→R' o h nx):AU C l args h nx R':=by
 obtain⟨fn,tm,res,ps,a,b,d,hl,dF,hz,hw⟩:=hy;refine⟨fn,tm,res,ps,a,b,d,hl,dF,hz,hw.mono ?_⟩;rintro e tm2 h2 aN ⟨he,p,hp,Zp⟩;refine⟨he,p,hp,Zp.mono ?_⟩;rintro e3 K1 h3 bP ⟨hp3,q⟩;refine⟨hp3,?_⟩;cases e3 with
 |norm=>exact hr _ _ _ q
 |ret=>exact hr _ _ _ q
 |exit i=>exact hr _ _ _ q
 |pan a=>exact q
end Go.Sx
namespace Ln
open Go.Sx Go
theorem Tn(os:List Op)(q:Nat):∀n:Nat,(iN os n).testBit q=(decide (q<n)&&decide (0≤(os.getD q default).e))
 |0=>by simp[iN]
 |n+1=>by
  unfold iN;have ih:=Tn os q n;by_cases he:0≤(os.getD n default).e
  ·rw[if_pos he,Nat.testBit_or,ih,Nat.testBit_two_pow];by_cases e:n=q
   ·subst e;simp;simpa using he
   ·by_cases hq:q<n
    ·simp[hq,show q<n+1 by omega,e]
    ·simp[hq,show ¬q<n+1 by omega,e]
  ·rw[if_neg he,ih];by_cases e:q=n
   ·subst e;simp;simpa using he
   ·by_cases hq:q<n
    ·simp[hq,show q<n+1 by omega]
    ·simp[hq,show ¬q<n+1 by omega]
theorem aq9(os:List Op)(d:Nat):(d &&& iN os os.length=iN os os.length)↔ve os d=true:=by
 unfold ve;rw[AQ];constructor
 ·intro h q hq;have hq:=List.mem_range.1 hq;have h2:=congrArg (fun x=>Nat.testBit x q) h;simp only[Nat.testBit_and,Tn,hq,decide_true,Bool.true_and]at h2;cases h3:decide (0≤(os.getD q default).e)with
  |false=>rfl
  |true=>rw[h3,Bool.and_true]at h2;rw[h2];rfl
 ·intro h;apply Nat.eq_of_testBit_eq;intro q;rw[Nat.testBit_and,Tn];by_cases hq:q<os.length
  ·have:=h q (List.mem_range.2 hq);cases h3:decide (0≤(os.getD q default).e)with
   |false=>simp
   |true=>rw[h3]at this;simp at this;simp[hq,this]
  ·simp[hq]
variable{C:bU}{X:Kn}(S:Std C X)
include S
theorem Yd{i:Nat}{os:List Op}(ho:os.length≤16){cO:AV}{s0:St}{c:Cf St}(hd:c.1<65536){h:T ag}{nx bj:Key}(hb:ae bj h=Qw (jB X i cO s0 (iN os os.length)))(Ch:bj.toNat<nx.toNat) :
  aM C bS [.ptr bj 0,.agg (eC c)] h nx (fun o h' nx'=>o=.ret (.bool (ve os c.1))∧Ext h nx h' nx'):=by
 refine S.sF.call ?_;simp[mH];simp[qL,Mf,wR];have e0:=E0 h nx (.cells (eC c) .fix);have bc:ae nx (au nx (Qw (eC c)) h)=Qw (eC c):=by simp
 have bj1:ae bj (au nx (Qw (eC c)) h)=Qw (jB X i cO s0 (iN os os.length)):=by rw[e0.g bj Ch];exact hb
 generalize au nx (Qw (eC c)) h=h1 at *;have elt:=Yn os os.length;have p16:=tz (j:=os.length) ho;have Wr:QQ .i64 (c.1:Int)=c.1:=vD (by omega);have Wm:QQ .i64 ((iN os os.length:Nat):Int)=iN os os.length:=vD (by omega);have hle:c.1 &&& iN os os.length≤c.1:=Nat.and_le_left;have hw:bF .i64 ((c.1 &&& iN os os.length:Nat):Int)=((c.1 &&& iN os os.length:Nat):Int):=aH (by omega) (by omega);have ec0:(eC c)[0]?=some (I c.1):=rfl;simp[qM,bc,bj1,jB,ec0,Wr,Wm,hw];refine⟨?_,e0⟩;rw[Bool.eq_iff_iff,beq_iff_eq,←aq9];omega
theorem WJ{bj:Key}{c:Cf St}{h:T ag}{nx:Key}:aM C dA [.ptr bj 0,.agg (eC c)] h nx (fun o h' nx'=>o=.ret (.fn bM [] [.ptr nx 0,.ptr nx.succ 0])∧ae nx h'=Qw [.ptr bj 0]∧ae nx.succ h'=Qw (eC c)∧nx'=nx.succ.succ∧Ext h nx h' nx'):=by have s1:=kTSu nx;have s2:=kTSu nx.succ;refine S.uJ.call ?_;simp[qx];simp[tL,Mf,wR];simp[tM];exact(E0 h nx _).trans (E0 _ nx.succ _)
structure awk(C:bU)(X:Kn)(i:Nat)(os:List Op)(cO:AV)(s0:St)(bj b2 b3 lk:Key)(c:Cf St)(Inv:Nat→T ag→Key→Prop)(R:Out→T ag→Key→Prop):Prop where
 bZ:∀k h nx h' nx',Inv k h nx→Ext h nx h' nx'→Inv k h' nx'
 has:∀k h nx,Inv k h nx→ae bj h=Qw (jB X i cO s0 (iN os os.length))∧ae b2 h=Qw [.ptr bj 0]∧ae b3 h=Qw (eC c)∧bj.toNat<nx.toNat∧b2.toNat<nx.toNat∧b3.toNat<nx.toNat
 skip:∀k h nx,k<os.length→(aK X i os).step c k=none→Inv k h nx→Inv (k+1) h nx
 yld:∀k x h nx,k<os.length→(aK X i os).step c k=some (k,x)→Inv k h nx→AU C lk [I k,.agg (eC x)] h nx (fun o h' nx'=>(o=.ret (.bool true)∧Inv (k+1) h' nx')∨(o=.ret (.bool false)∧R (.ret (.tuple [])) h' nx'))
 fin:∀h nx,Inv os.length h nx→R (.ret (.tuple [])) h nx
def S1I(os:List Op)(b2 b3 lk:Key)(Inv:Nat→T ag→Key→Prop)(m:Nat)(tm':T AV)(h':T ag)(nx':Key):Prop:=∃k:Nat,m=os.length-k∧k≤os.length∧ae (K 0) tm'=some (.yld lk)∧ae (K 1) tm'=some (.ptr b2 0)∧ae (K 2) tm'=some (.ptr b3 0)∧ae (K 11) tm'=some (I os.length)∧ae (K 12) tm'=some (I k)∧Inv k h' nx'
theorem WK{i:Nat}(hi:i<3){os:List Op}(yb:ux i os=0)(sR:∀o∈os,before o o=false)(ho:os.length≤16){cO:AV}(hc:gR 10 eO cO os){s0:St}{bj b2 b3 lk:Key}{c:Cf St}(hd:c.1<65536)(hs:iX i c.2){Inv:Nat→T ag→Key→Prop}{R:Out→T ag→Key→Prop}(A:awk C X i os cO s0 bj b2 b3 lk c Inv R){h:T ag}{nx:Key}(h0:Inv 0 h nx) :
  aM C bM [.yld lk,.ptr b2 0,.ptr b3 0] h nx R:=by
 have rT:=S.r fM;have rP:=S.r dz;refine S.gJ.call ?_;simp[lZ];obtain⟨bj0,b20,b30,_⟩:=A.has _ _ _ h0;have start:∀n:Nat,n=os.length→W C (.loop jl) (az 0 (cY [] R)) (au (K 12) (some (I 0)) (au (K 11) (some (I n)) (au (K 10) (some cO) (au (K 9) (some (.ptr bj 2)) (au (K 8) (some (.ptr bj 0)) (au (K 7) (some (.ptr bj 0)) (au (K 2) (some (.ptr b3 0)) (au (K 1) (some (.ptr b2 0)) (au (K 0) (some (.yld lk)) .nil))))))))) h nx:=by
  rintro _ rfl;refine W.eB (n:=os.length) (S1I os b2 b3 lk Inv) ⟨0,by simp,by omega,by simp,by simp,by simp,by simp,by simp,h0⟩ ?_;rintro m dF h1 bW ⟨k,rfl,hk,g0,g1,g2,g11,g12,h1k⟩;obtain⟨bj1,b21,b31,ltj,lt2,lt3⟩:=A.has _ _ _ h1k;refine W.of ?_;simp[jl];by_cases hkl:k<os.length
  ·have hki:(k:Int)<os.length:=by omega
   have ec0:(eC c)[0]?=some (I c.1):=rfl;simp[jm,g11,g12,hki];simp[pS,g12];simp[pT,g1,g2,b21,b31,ec0,rT];refine(ai9 S ho hc hkl hd bj1 ltj).mono ?_;rintro o h2 aN ⟨rfl,e2⟩;rw[ara sR hkl];have n2:=e2.n;have h2k:=A.bZ _ _ _ _ _ h1k e2;obtain⟨bj2,b22,b32,aHO,aP7,aP8⟩:=A.has _ _ _ h2k;have next:∀(tm2:T AV) (h':T ag) (nx':Key),ae (K 0) tm2=some (.yld lk)→ae (K 1) tm2=some (.ptr b2 0)→ae (K 2) tm2=some (.ptr b3 0)→ae (K 11) tm2=some (I os.length)→ae (K 12) tm2=some (I k)→Inv (k+1) h' nx'→
     ns C (aO (fun tm h nx=>∃m,m<os.length-k∧S1I os b2 b3 lk Inv m tm h nx) (az 0 (cY [] R))) jn tm2 h' nx':=by
    intro tm2 h' nx' q0 q1 q2 UG JA hI;simp[jn,JA];rw[aH (by omega) (by omega)];exact⟨os.length-(k+1),by omega,k+1,rfl,by omega,by simp[q0],by simp[q1],by simp[q2],by simp[UG],by simp,hI⟩
   have fI:(aK X i os).step c k=if pg os k c.1=true then(X.take (cm i os[k]) os[k] c.2).map (fun s=>(k,(c.1+2^k,s)))else none:=by rw[aiR,kF hkl]
   cases qE:pg os k c.1 with
   |false=>rw[qE]at fI;simp;refine next _ _ _ ?_ ?_ ?_ ?_ ?_ (A.skip _ _ _ hkl (by rw[fI];rfl) h2k)<;>simp[g0,g1,g2,g11,g12]
   |true=>
    rw[qE,if_pos rfl]at fI;have hco:=Xx hi yb (A6 hkl);have tk:List.take 4 (eC c).tail=eS c.2:=rfl;have aja:c.1.testBit k=false:=ID X i os k c.1 qE;simp;simp[pU,g1,g2,b22,b32,wR,tk,rP,CZ];refine(aaN S hc hco hs bj2 aHO).mono ?_;rintro o h3 bP ⟨⟨u,rfl,hu⟩,e3⟩;have n3:=e3.n;have s3:=kTSu bP;simp[C7,lenS,aay];have e4:=E0 h3 bP (.cells (eS u) .fix);have b5:ae bP (au bP (Qw (eS u)) h3)=Qw (eS u):=by simp
    generalize au bP (Qw (eS u)) h3=h4 at *;have h4k:=A.bZ _ _ _ _ _ h2k (e3.trans e4);obtain⟨bj4,b24,b34,aQa,aQb,aQc⟩:=A.has _ _ _ h4k;cases ht:X.take (cm i os[k]) os[k] c.2 with
    |none=>rw[ht]at fI;simp[jq];refine next _ _ _ ?_ ?_ ?_ ?_ ?_ (A.skip _ _ _ hkl fI h4k)<;>simp[g0,g1,g2,g11,g12]
    |some v=>
     rw[ht]at fI;have:=hu v ht;subst this;have hsh:F0 .i64 k=true:=by unfold F0;exact Nat.ble_eq_true_of_le (by omega)
     have hp2:2^k≤65536:=tz (by omega);have hw:bF .i64 ((2^k:Nat):Int)=((2^k:Nat):Int):=by obtain⟨z,hz,hzl⟩:∃z:Nat,z=2^k∧z≤65536:=⟨_,rfl,hp2⟩;rw[←hz];exact aH (by omega) (by omega)
     have Wr:QQ .i64 ((2^k:Nat):Int)=2^k:=vD hp2;have Wm:QQ .i64 (c.1:Int)=c.1:=vD (by omega);have hor:=Cp k c.1 aja;have Zp:bF .i64 ((c.1 ||| 2^k:Nat):Int)=((c.1+2^k:Nat):Int):=by obtain⟨z,hz,hzl⟩:∃z:Nat,z=c.1+2^k∧z≤200000:=⟨_,rfl,by omega⟩;rw[hor,←hz];exact aH (by omega) (by omega)
     simp[jq,g0,g2,b34,ec0,b5,lenS,zR,hsh,-Int.natCast_pow,-Int.natCast_add,hw,Wr,Wm,Zp];refine(A.yld k (c.1+2^k,u) _ _ hkl fI h4k).mono ?_;rintro o h5 nx5 (⟨rfl,h5k⟩|⟨rfl,hR⟩)
     ·simp;refine next _ _ _ ?_ ?_ ?_ ?_ ?_ h5k<;>simp[g0,g1,g2,g11,g12]
     ·simp;exact hR
  ·have hke:k=os.length:=by omega
   subst hke;simp[jm,g11,g12];exact A.fin _ _ h1k
 rcases id hc with⟨e0,e1⟩|e0
 ·have Zx:os.length=0:=by rw[e1];rfl
  have:=start 0 Zx.symm;simp[jr,b20,bj0,jB,e0];simpa[e0]using this
 ·have:=start os.length rfl;simp[jr,b20,bj0,jB,e0];simpa[e0]using this
end Ln
namespace Go.Sx
theorem V.aue{C:bU}{c:aL}{j:Nat}{Q:pV}{ds:List Key}{tm:T AV}{h:T ag}{nx:Key}(hw:W C (.loop c) (az j (atD Q ds)) tm h nx):V C (.loop c) (si j Q) ds tm h nx:=
 V.acy (hw.mono fun e tm h nx hq=>by cases e<;>exact hq)
end Go.Sx
namespace Ln
open Go.Sx Go
variable{C:bU}{X:Kn}(S:Std C X)
include S
theorem ah5{l:List Ci}(hl:l.length≤10000)(hk:∀y∈l,y.2.kids.length≤3)(hs:l.Pairwise Ke){x:Ci}(hx:x.2.kids.length≤3){c0:AV}(hc:gR 5 eD c0 l){h:T ag}{nx b8:Key}(hb:ae b8 h=Qw [c0])(Ch:b8.toNat<nx.toNat) :
  aM C bE [.agg (eD x),.ptr b8 0] h nx (fun o h' nx'=>o=.ret (.bool (decide (x∈l)))∧Ext h nx h' nx'):=by
 have rB:=S.r bz;have hz:∀H,aW 9999 c0 H=(c0,H):=fun H=>hc.wH _ _;refine S.Av.call ?_;simp[vL];simp[yD,ak5,Rr];have e0:=E0 h nx (.cells (eD x) .fix);have bx:ae nx (au nx (Qw (eD x)) h)=Qw (eD x):=by simp
 have b81:ae b8 (au nx (Qw (eD x)) h)=Qw [c0]:=by rw[e0.g b8 Ch];exact hb
 generalize au nx (Qw (eD x)) h=h1 at *;simp[yE,bx,b81,Rq,Rr,rB,hz,agN];refine(aei S hl hk hs hx hc).mono ?_;rintro o h2 aN ⟨⟨p,rfl⟩,e2⟩;simp;simp[yF];exact e0.trans e2
structure RfA(X:Kn)(i:Nat)(os:List Op)(cO c3:AV)(b8 b10 bj:Key)(tm:T AV)(h:T ag)(nx:Key):Prop where
 k8:ae (K 8) tm=some (.ptr b8 0)
 cW:ae (K 10) tm=some (.ptr b10 0)
 dU:ae (K 11) tm=some (.ptr bj 0)
 v8:ae b8 h=Qw [c3]
 v10:ae b10 h=Qw [I 0]
 vj:ae bj h=Qw (jB X i cO (aQ i) (iN os os.length))
 lt:b8.toNat<nx.toNat∧b10.toNat<nx.toNat∧bj.toNat<nx.toNat
omit S in
theorem RfA.ext{i:Nat}{os:List Op}{cO c3:AV}{b8 b10 bj:Key}{tm tm':T AV}{h h':T ag}{nx nx':Key}(A:RfA X i os cO c3 b8 b10 bj tm h nx)(e:Ext h nx h' nx')(h8:ae (K 8) tm'=ae (K 8) tm)(h10:ae (K 10) tm'=ae (K 10) tm)(h11:ae (K 11) tm'=ae (K 11) tm):RfA X i os cO c3 b8 b10 bj tm' h' nx':=by have n:=e.n;have lt:=A.lt;exact⟨h8.trans A.k8,h10.trans A.cW,h11.trans A.dU,(e.g b8 lt.1).trans A.v8,(e.g b10 lt.2.1).trans A.v10,(e.g bj lt.2.2).trans A.vj,by omega⟩
def FoI(X:Kn)(i:Nat)(os:List Op)(cO c3:AV)(b8 b10 bj:Key)(l:List Ci)(h:T ag)(nx:Key)(m:Nat)(tm':T AV)(h':T ag)(nx':Key):Prop:=∃j:Nat,m=l.length-j∧j≤l.length∧RfA X i os cO c3 b8 b10 bj tm' h' nx'∧ae (K 32) tm'=some c3∧ae (K 33) tm'=some (I l.length)∧ae (K 34) tm'=some (I j)∧Ext h nx h' nx'∧Co os.length l j
theorem ajV{i:Nat}{os:List Op}(ho:os.length≤16){cO:AV}(Wt:gR 10 eO cO os){l:List Ci}(hl:l.length≤10000)(hk:∀y∈l,y.2.kids.length≤3){c3:AV}(hc:gR 5 eD c3 l){b8 b10 bj:Key}{Q:cJ}{tm:T AV}{h h1:T ag}{nx bW:Key}{m:Nat}(hn:nx.toNat≤b10.toNat)(A:FoI X i os cO c3 b8 b10 bj l h nx m tm h1 bW)
  (uz:∀tm' h' nx',ae (K 10) tm'=some (.ptr b10 0)→ae b10 h'=Qw [I 1]→¬gL os.length l→Ext h nx h' nx'→Q .ret tm' h' nx')
  (gC:∀tm' h' nx',RfA X i os cO c3 b8 b10 bj tm' h' nx'→gL os.length l→Ext h nx h' nx'→Q .norm tm' h' nx') :
  W C (.loop pD) (az 0 Q) tm h1 bW:=by
 have rC:=S.r cd;have hr:=Jm.rows l;refine W.eB (FoI X i os cO c3 b8 b10 bj l h nx) A ?_;rintro m dF h2 aN ⟨j,rfl,hj,B,g32,g33,g34,e2,hf⟩;have n2:=e2.n;have lt:=B.lt;have s2:=kTSu aN;refine W.of ?_;simp[pD];by_cases bY:j<l.length
 ·have Bh:(j:Int)<l.length:=by omega
  have UE:c3=.sl (ai eD l) l.length 5 .any:=by
   rcases hc with⟨_,rfl⟩|e
   ·simp at bY
   ·exact e
  have aBI:=g32;rw[UE]at aBI;have tx:5≤l.length*5-j*5:=by omega
  have ec:=Jm.at bY;have n64:os.length≤64:=by omega
  have hkj:=hk _ (DX bY);simp[vQ,g33,g34,Bh];simp[Dw,aBI,g34,bY,hr,tx,ec,Rr,Rq,ak5];have e3:=E0 h2 aN (.cells (eD l[j]) .fix);have bc:ae aN (au aN (Qw (eD l[j])) h2)=Qw (eD l[j]):=by simp
  have B8:=B.v8;rw[UE]at B8;have b83:ae b8 (au aN (Qw (eD l[j])) h2)=Qw [.sl (ai eD l) l.length 5 .any]:=by rw[e3.g b8 lt.1];exact B8
  have Ye:ae bj (au aN (Qw (eD l[j])) h2)=Qw (jB X i cO (aQ i) (iN os os.length)):=by rw[e3.g bj lt.2.2];exact B.vj
  have aI1:ae b10 (au aN (Qw (eD l[j])) h2)=Qw [I 0]:=by rw[e3.g b10 lt.2.1];exact B.v10
  generalize au aN (Qw (eD l[j])) h2=h3 at *;have bad:∀(tm2:T AV) (h':T ag) (nx':Key),ae (K 10) tm2=some (.ptr b10 0)→Ext h3 aN.succ h' nx'→¬gL os.length l→
    ns C (aO (fJ C .ret (az 1 (aO (fJ C (.ops lp) (aO (fun tm h' nx'=>∃m,m<l.length-j∧FoI X i os cO c3 b8 b10 bj l h nx m tm h' nx') (az 0 Q))) (aO (fun tm h' nx'=>∃m,m<l.length-j∧FoI X i os cO c3 b8 b10 bj l h nx m tm h' nx') (az 0 Q))))) (az 1 (aO (fJ C (.ops lp) (aO (fun tm h' nx'=>∃m,m<l.length-j∧FoI X i os cO c3 b8 b10 bj l h nx m tm h' nx') (az 0 Q))) (aO (fun tm h' nx'=>∃m,m<l.length-j∧FoI X i os cO c3 b8 b10 bj l h nx m tm h' nx') (az 0 Q))))) vR tm2 h' nx':=by
   intro tm2 h' nx' Gm e' lC;have aI2:ae b10 h'=Qw [I 0]:=by rw[e'.g b10 (by omega)];exact aI1
   simp[vR,Gm,aI2];refine uz _ _ _ ?_ ?_ lC (((e2.trans e3).trans e').put hn)<;>simp[Gm]
  have next:∀(tm2:T AV) (h':T ag) (nx':Key),(∀k:Key,k=K 8∨k=K 10∨k=K 11∨k=K 32∨k=K 33∨k=K 34→ae k tm2=ae k dF)→Ext h3 aN.succ h' nx'→Co os.length l (j+1)→
    ns C (aO (fun tm h' nx'=>∃m,m<l.length-j∧FoI X i os cO c3 b8 b10 bj l h nx m tm h' nx') (az 0 Q)) lp tm2 h' nx':=by
   intro tm2 h' nx' q e' hf';have q32:=(q (K 32) (by simp)).trans g32;have q33:=(q (K 33) (by simp)).trans g33;have q34:=(q (K 34) (by simp)).trans g34;simp[lp,q34];rw[aH (by omega) (by omega)];exact⟨l.length-(j+1),by omega,j+1,rfl,by omega,B.ext (e3.trans e') (by simpa using q _ (by simp)) (by simpa using q _ (by simp)) (by simpa using q _ (by simp)),by simp[q32],by simp[q33],by simp,(e2.trans e3).trans e',hf'⟩
  have ed0:(eD l[j])[0]?=some (I l[j].1):=rfl;have IN:∀k:Int,(k==0)=decide (k=0):=fun k=>by by_cases h:k=0<;>simp[h]
  have hO:∀(tm:T AV) (hh:T ag) (k:Key),ae k tm=some cO→lightOp C.orc (.lenL (.t k)) tm hh=some (I os.length):=by intro tm hh k hk;rcases id Wt with⟨rfl,rfl⟩|rfl<;>simp[hk]
  by_cases hj0:j=0
  ·have aou:¬0<j:=by omega
   by_cases nq:l[j].1<0
   ·have lC:¬gL os.length l:=fun h=>by have:=(h j bY).1;omega
    simp[lq,aou,g34,bc,ed0,nq];refine bad _ _ _ ?_ (Ext.refl _ _) lC;simp[B.cW]
   ·obtain⟨a,ha⟩:=Int.eq_ofNat_of_zero_le (show 0≤l[j].1 by omega);have agb:=ed0;rw[ha]at agb;have Th:¬(a:Int)<0:=by omega
    have hdv:a.div (2^os.length)=a / 2^os.length:=rfl;have Ef:0<2^os.length:=Nat.two_pow_pos _;by_cases hz:a<2^os.length
    ·have h0:a / 2^os.length=0:=Nat.div_eq_of_lt hz;simp[lq,aou,g34,bc,agb,Th,B.dU,Ye,jB,↓hO,F0,n64,hdv,h0];refine next _ _ _ ?_ (Ext.refl _ _) (hf.step bY (by omega) (by rw[ha];omega) (by omega))
     rintro k (rfl|rfl|rfl|rfl|rfl|rfl)<;>simp
    ·have h0:a / 2^os.length≠0:=by intro q;exact hz ((Nat.div_eq_zero_iff_lt Ef).1 q)
     have h0':((a / 2^os.length:Nat):Int)≠0:=by omega
     have lC:¬gL os.length l:=fun h=>by have:=(h j bY).2.1;rw[ha]at this;omega
     simp[lq,aou,g34,bc,agb,Th,B.dU,Ye,jB,↓hO,F0,n64,hdv,-Int.natCast_ediv,h0',bq h0'];refine bad _ _ _ ?_ (Ext.refl _ _) lC;simp[B.cW]
  ·have aou:0<j:=by omega
   have hj1:j-1<l.length:=by omega
   have w1:bF .i64 ((j:Int)-1)=((j-1:Nat):Int):=by rw[aH (by omega) (by omega)];omega
   have tx1:5≤l.length*5-(j-1)*5:=by omega
   have ec1:=Jm.at hj1;have hk1:=hk _ (DX hj1);simp[lq,g34,aou,B.k8,b83,w1,hj1,hr,tx1,ec1,Rq,Rr,bc,rC,agN];refine(Al S hk1 hkj _ _).mono ?_;rintro o h4 kK ⟨rfl,e4⟩;have bc4:ae aN h4=Qw (eD l[j]):=by rw[e4.g aN (by omega)];exact bc
   have bj4:ae bj h4=Qw (jB X i cO (aQ i) (iN os os.length)):=by rw[e4.g bj (by omega)];exact Ye
   by_cases cH:Ke l[j-1] l[j]
   ·have uC:=IF.2 cH;by_cases nq:l[j].1<0
    ·have lC:¬gL os.length l:=fun h=>by have:=(h j bY).1;omega
     simp[uC,g34,bc4,ed0,nq];refine bad _ _ _ ?_ e4 lC;simp[B.cW]
    ·obtain⟨a,ha⟩:=Int.eq_ofNat_of_zero_le (show 0≤l[j].1 by omega);have agb:=ed0;rw[ha]at agb;have Th:¬(a:Int)<0:=by omega
     have hdv:a.div (2^os.length)=a / 2^os.length:=rfl;have Ef:0<2^os.length:=Nat.two_pow_pos _;by_cases hz:a<2^os.length
     ·have h0:a / 2^os.length=0:=Nat.div_eq_of_lt hz;simp[uC,g34,bc4,agb,Th,B.dU,bj4,jB,↓hO,F0,n64,hdv,h0];refine next _ _ _ ?_ e4 (hf.step bY (by omega) (by rw[ha];omega) (fun _=>cH))
      rintro k (rfl|rfl|rfl|rfl|rfl|rfl)<;>simp
     ·have h0:a / 2^os.length≠0:=by intro q;exact hz ((Nat.div_eq_zero_iff_lt Ef).1 q)
      have h0':((a / 2^os.length:Nat):Int)≠0:=by omega
      have lC:¬gL os.length l:=fun h=>by have:=(h j bY).2.1;rw[ha]at this;omega
      simp[uC,g34,bc4,agb,Th,B.dU,bj4,jB,↓hO,F0,n64,hdv,-Int.natCast_ediv,h0',bq h0'];refine bad _ _ _ ?_ e4 lC;simp[B.cW]
   ·have uC:¬Tq l[j-1] l[j]<0:=fun q=>cH (IF.1 q);have lC:¬gL os.length l:=fun h=>cH ((h j bY).2.2 (by omega));simp[uC];refine bad _ _ _ ?_ e4 lC;simp[B.cW]
 ·have yi:j=l.length:=by omega
  subst yi;simp[vQ,g33,g34];refine gC _ _ _ (B.ext (Ext.refl _ _) ?_ ?_ ?_) hf.all e2<;>simp
end Ln
namespace Go.Sx
theorem Fn.callV{C:bU}{f:Nat}{p:gE}(S:Fn C f p){l:List AV}{h:T ag}{nx:Key}{R:Out→T ag→Key→Prop}(hw:MJ C p.body (MI p.res R) [] (iu l (K 0) .nil) h nx):aM C f l h nx R:=
 aM.aJJ (S.off _ _ _) S.get S.nD (sQ hw)
theorem AU.intro{C:bU}{l:Key}{args:List AV}{h:T ag}{nx:Key}{R:Out→T ag→Key→Prop}{fn:Nat}{tm dF:T AV}{res:List RV}{ps:List Key}{a b:aL}{d:Key}(M:T AV→T ag→Key→Prop)(hl:ae l h=some (.loop .ready none fn tm res ps a b d))(hz:asd ps args tm=some dF)
  (ha:fJ C a (fun e tm2 h2 aN=>e=.norm∧M tm2 h2 aN) dF h nx) (hb:∀tm2 h2 aN,M tm2 h2 aN→ae l h2=some (.loop .ready none fn tm res ps a b d)∧fJ C b (HS R l fn tm res ps a b d) tm2 (au l (some (.loop .busy none fn tm res ps a b d)) h2) aN):AU C l args h nx R:=by
 refine⟨fn,tm,res,ps,a,b,d,⟨_,hl⟩,dF,hz,(pw ha).mono ?_⟩;rintro e tm2 h2 aN ⟨he,hm⟩;exact⟨he,none,(hb _ _ _ hm).1,pw (hb _ _ _ hm).2⟩
section
variable(R:Out→T ag→Key→Prop)(l:Key)(fn:Nat)(tm tm2:T AV)(res:List RV)(ps:List Key)(a b:aL)(d:Key)(h:T ag)(nx:Key)
@[simp] theorem auo:HS R l fn tm res ps a b d .norm tm2 h nx=((∃p,ae l h=some (.loop .busy p fn tm res ps a b d))∧R (.ret (.bool true)) (au l (some (.loop .ready none fn tm res ps a b d)) h) nx):=yg Iff.rfl
@[simp] theorem axq:HS R l fn tm res ps a b d .ret tm2 h nx=((∃p,ae l h=some (.loop .busy p fn tm res ps a b d))∧R (.ret (.bool false)) (au l (some (.loop .done (some .ret) fn tm res ps a b d)) h) nx):=yg Iff.rfl
end
structure jO(n0:Key)(ds:List Key)(h:T ag)(nx:Key):Prop where
 nodup:ds.Nodup
 get:∀b∈ds,ae b h=some (.dfs false)
 ge:∀b∈ds,n0.toNat≤b.toNat
 lt:∀b∈ds,b.toNat<nx.toNat
theorem jO.nil(n0:Key)(h:T ag)(nx:Key):jO n0 [] h nx:=⟨by simp,by simp,by simp,by simp⟩
theorem jO.bZ{n0:Key}{ds:List Key}{h h':T ag}{nx nx':Key}(A:jO n0 ds h nx)(hn:nx.toNat≤nx'.toNat)(hg:∀b,b.toNat<nx.toNat→ae b h=some (.dfs false)→ae b h'=some (.dfs false)):jO n0 ds h' nx':=
 ⟨A.nodup,fun b hb=>hg b (A.lt b hb) (A.get b hb),A.ge,fun b hb=>by have:=A.lt b hb;omega⟩
theorem jO.ext{n0:Key}{ds:List Key}{h h':T ag}{nx nx':Key}(A:jO n0 ds h nx)(e:Ext h nx h' nx'):jO n0 ds h' nx':=A.bZ e.n fun b hb hg=>(e.g b hb).trans hg
theorem jO.cons{n0 d:Key}{ds:List Key}{h:T ag}{nx:Key}(A:jO n0 ds h nx)(hd:d∉ds)(hg:ae d h=some (.dfs false))(Gx:n0.toNat≤d.toNat)(cH:d.toNat<nx.toNat):jO n0 (d ::ds) h nx:=by
 refine⟨List.nodup_cons.2 ⟨hd,A.nodup⟩,?_,?_,?_⟩
 ·intro b hb;rcases M4.1 hb with rfl|hb
  ·exact hg
  ·exact A.get b hb
 ·intro b hb;rcases M4.1 hb with rfl|hb
  ·exact Gx
  ·exact A.ge b hb
 ·intro b hb;rcases M4.1 hb with rfl|hb
  ·exact cH
  ·exact A.lt b hb
end Go.Sx
namespace Ln
open Go.Sx Go
theorem H9{b10 n0:Key}{code:Int}{ds:List Key}{tm:T AV}{h h':T ag}{nx':Key}(h10:ae (K 10) tm=some (.ptr b10 0))(hb:ae b10 h'=Qw [I code])(D:jO n0 ds h' nx')(e:Ext h n0 h' nx') :
  MI [.cell (K 10) false 1] (fun o h' nx'=>o=.ret (I code)∧Ext h n0 h' nx') .ret ds tm h' nx':=by
 refine⟨D.nodup,D.get,fun h2 h3=>?_⟩;have hn:b10∉ds:=fun hm=>by have:=D.get b10 hm;rw[hb]at this;cases this
 have IW:ae b10 h2=Qw [I code]:=by rw[h3 b10 hn];exact hb
 refine⟨[I code],by simp[h10,IW],by simp,e.n,fun b Ch=>?_⟩;have:b∉ds:=fun hm=>by have:=D.ge b hm;omega
 simp;rw[h3 b this];exact e.g b Ch
structure RfB(X:Kn)(i:Nat)(os:List Op)(cO c3:AV)(b8 b10 bj b15 n0:Key)(h0:T ag)(ds:List Key)(tm:T AV)(h:T ag)(nx:Key):Prop where
 a:RfA X i os cO c3 b8 b10 bj tm h nx
 fc:ae (K 15) tm=some (.ptr b15 0)
 v15:ae b15 h=Qw [.fn bE [] [.ptr b8 0]]
 lt:b15.toNat<nx.toNat
 d:jO n0 ds h nx
 e:Ext h0 n0 h nx
 ge:n0.toNat≤b10.toNat
theorem RfB.ext{X:Kn}{i:Nat}{os:List Op}{cO c3:AV}{b8 b10 bj b15 n0:Key}{h0:T ag}{ds:List Key}{tm tm':T AV}{h h':T ag}{nx nx':Key}(A:RfB X i os cO c3 b8 b10 bj b15 n0 h0 ds tm h nx)(e:Ext h nx h' nx')(h8:ae (K 8) tm'=ae (K 8) tm)(h10:ae (K 10) tm'=ae (K 10) tm)(h11:ae (K 11) tm'=ae (K 11) tm)(h15:ae (K 15) tm'=ae (K 15) tm) :
  RfB X i os cO c3 b8 b10 bj b15 n0 h0 ds tm' h' nx':=
 ⟨A.a.ext e h8 h10 h11,h15.trans A.fc,(e.g b15 A.lt).trans A.v15,by have:=e.n;have:=A.lt;omega,A.d.ext e,A.e.trans e,A.ge⟩
def asy(S:Sys St)(L:List (Cf St))(c:Cf St)(k:Nat):Prop:=∀x∈S.kx c k,x.2∈L
def RfI(X:Kn)(i:Nat)(os:List Op)(cO c3:AV)(b8 b10 bj b15 n0:Key)(h0:T ag)(l:List Ci)(m:Nat)(ds:List Key)(tm':T AV)(h':T ag)(nx':Key):Prop:=∃j:Nat,m=l.length-j∧j≤l.length∧RfB X i os cO c3 b8 b10 bj b15 n0 h0 ds tm' h' nx'∧ae (K 78) tm'=some c3∧ae (K 79) tm'=some (I l.length)∧ae (K 80) tm'=some (I j)∧ak7 (aK X i os) l j
variable{C:bU}{X:Kn}(S:Std C X)
include S
omit S in
theorem RfB.put{i:Nat}{os:List Op}{cO c3:AV}{b8 b10 bj b15 n0 lk:Key}{h0:T ag}{ds:List Key}{tm:T AV}{h:T ag}{nx:Key}{v:Option ag}(A:RfB X i os cO c3 b8 b10 bj b15 n0 h0 ds tm h nx)(h1:∀l k,ae lk h≠some (.cells l k))(h2:ae lk h≠some (.dfs false))(Gx:n0.toNat≤lk.toNat) :
  RfB X i os cO c3 b8 b10 bj b15 n0 h0 ds tm (au lk v h) nx:=by
 have hc:∀b l k,ae b h=some (.cells l k)→ae b (au lk v h)=some (.cells l k):=fun b l k hb=>by rw[aG _ _ _ _ (by rintro rfl;exact h1 l k hb)];exact hb
 refine⟨⟨A.a.k8,A.a.cW,A.a.dU,hc _ _ _ A.a.v8,hc _ _ _ A.a.v10,hc _ _ _ A.a.vj,A.a.lt⟩,A.fc,hc _ _ _ A.v15,A.lt,A.d.bZ (dQ _) fun b _ hg=>?_,A.e.put Gx,A.ge⟩;rw[aG _ _ _ _ (by rintro rfl;exact h2 hg)];exact hg
structure RrI(X:Kn)(i:Nat)(os:List Op)(cO c3:AV)(b8 b10 bj b15 n0:Key)(h0:T ag)(ds:List Key)(tm:T AV)(L:List (Cf St))(c:Cf St)(b2 b3 d lk:Key)(fn:Nat)(res:List RV)(ps:List Key)(a b:aL)(k:Nat)(h:T ag)(nx:Key):Prop where
 fb:RfB X i os cO c3 b8 b10 bj b15 n0 h0 (d ::ds) tm h nx
 fl:ae lk h=some (.loop .ready none fn tm res ps a b d)
 f2:ae b2 h=Qw [.ptr bj 0]
 f3:ae b3 h=Qw (eC c)
 flt:lk.toNat<nx.toNat∧b2.toNat<nx.toNat∧b3.toNat<nx.toNat
 fin:asy (aK X i os) L c k
omit S in
theorem asy.succ{Sy:Sys St}{L:List (Cf St)}{c:Cf St}{k:Nat}(h:asy Sy L c k)(hk:∀x,Sy.step c k=some x→x.2∈L):asy Sy L c (k+1):=by
 intro x hx;rw[lO,List.mem_append]at hx;rcases hx with hx|hx
 ·exact h x hx
 ·cases hs:Sy.step c k with
  |none=>rw[hs]at hx;simp at hx
  |some y=>rw[hs]at hx;simp at hx;subst hx;exact hk _ hs
theorem aka{i:Nat}(hi:i<3){os:List Op}(yb:ux i os=0)(sR:∀o∈os,before o o=false)(ho:os.length≤16){cO:AV}(Wt:gR 10 eO cO os){l:List Ci}(hl:l.length≤10000)(Hn:∀y∈l,iX i y.2)(hf:gL os.length l){c3:AV}(hc:gR 5 eD c3 l){b8 b10 bj b15 n0 b2 b3:Key}{h0:T ag}{c:Cf St}(cH:c.1<2^os.length)(hs:iX i c.2)
  {Q:pV} {ds:List Key} {tm:T AV} {h:T ag} {nx:Key} (B:RfB X i os cO c3 b8 b10 bj b15 n0 h0 ds tm h nx) (g89:ae (K 89) tm=some (.fn bM [] [.ptr b2 0,.ptr b3 0])) (v2:ae b2 h=Qw [.ptr bj 0]) (v3:ae b3 h=Qw (eC c)) (lt:b2.toNat<nx.toNat∧b3.toNat<nx.toNat)
  (xK:∀ds h' nx',ae b10 h'=Qw [I 18]→jO n0 ds h' nx'→Ext h0 n0 h' nx'→¬(∀x∈(aK X i os).steps c,x.2∈l.map AN)→Q .ret ds tm h' nx')
  (ME:∀ds h' nx',RfB X i os cO c3 b8 b10 bj b15 n0 h0 ds tm h' nx'→(∀x∈(aK X i os).steps c,x.2∈l.map AN)→Q .norm ds tm h' nx') :
  V C (.rangeF (.t (K 89)) [K 90,K 91] (.ops aJ) (.block 5 (.seq (.ops jX) (.cond (.t (K 95)) (.seq (.ops jY) .ret) .skip)))) Q ds tm h nx:=by
 have rH:=S.r bE;have hd:c.1<65536:=Lm cH (tz ho);have s1:=kTSu nx;have s2:=kTSu nx.succ;have n0x:=B.e.n;have hk3:∀y∈l,y.2.kids.length≤3:=fun y hy=>Jn (Hn y hy);have aoG:l.Pairwise Ke:=by have:=hf.sorted;rw[List.pairwise_map]at this;exact this.imp_of_mem fun ha hb hab=>(QP (hf.pos _ ha) (hf.pos _ hb)).1 hab
 refine V.rangeF (g:=bM) (first:=[]) (cap:=[.ptr b2 0,.ptr b3 0]) g89 S.gJ.off ?_;intro fn res;have e1:=(E0 h nx (.dfs false)).trans (E0 _ nx.succ (.loop .ready none fn tm res [K 90,K 91] (.ops aJ) (.block 5 (.seq (.ops jX) (.cond (.t (K 95)) (.seq (.ops jY) .ret) .skip))) nx));generalize Zr:(aL.block 5 (.seq (.ops jX) (.cond (.t (K 95)) (.seq (.ops jY) .ret) .skip)))=body at *;have I6:nx∉ds:=fun hm=>by have:=B.d.lt nx hm;omega
 have gd:ae nx (kW fn tm res [K 90,K 91] (.ops aJ) body h nx)=some (.dfs false):=by unfold kW;rw[aw (by omega)];simp
 have gl:ae nx.succ (kW fn tm res [K 90,K 91] (.ops aJ) body h nx)=some (.loop .ready none fn tm res [K 90,K 91] (.ops aJ) body nx):=by unfold kW;simp
 have B1:=B.ext (tm':=tm) e1 rfl rfl rfl rfl;have B1':RfB X i os cO c3 b8 b10 bj b15 n0 h0 (nx ::ds) tm (kW fn tm res [K 90,K 91] (.ops aJ) body h nx) nx.succ.succ:=⟨B1.a,B1.fc,B1.v15,B1.lt,B1.d.cons I6 gd n0x (by omega),B1.e,B1.ge⟩;have gl2:∀b l k,ae b h=some (.cells l k)→b.toNat<nx.toNat→ae b (kW fn tm res [K 90,K 91] (.ops aJ) body h nx)=some (.cells l k):=fun b l k hb Ch=>by rw[show ae b (kW fn tm res [K 90,K 91] (.ops aJ) body h nx)=ae b h from e1.g b Ch];exact hb
 refine WK S hi yb sR ho Wt hd hs (bj:=bj) (b2:=b2) (b3:=b3) (lk:=nx.succ) (c:=c) (s0:=aQ i) (Inv:=RrI X i os cO c3 b8 b10 bj b15 n0 h0 ds tm (l.map AN) c b2 b3 nx nx.succ fn res [K 90,K 91] (.ops aJ) body) ⟨?_,?_,?_,?_,?_⟩ ⟨B1',gl,gl2 _ _ _ v2 lt.1,gl2 _ _ _ v3 lt.2,by omega,fun x hx=>by simp[Sys.kx]at hx⟩
 ·rintro k h1 bW h2 aN ⟨a1,a2,a3,a4,a5,a6⟩ e;have n:=e.n;exact⟨a1.ext e rfl rfl rfl rfl,by rw[e.g _ a5.1];exact a2,by rw[e.g _ a5.2.1];exact a3,by rw[e.g _ a5.2.2];exact a4,by omega,a6⟩
 ·rintro k h1 bW ⟨a1,a2,a3,a4,a5,a6⟩;exact⟨a1.a.vj,a3,a4,a1.a.lt.2.2,a5.2.1,a5.2.2⟩
 ·rintro k h1 bW hk fI ⟨a1,a2,a3,a4,a5,a6⟩;exact⟨a1,a2,a3,a4,a5,a6.succ fun x hx=>by rw[fI]at hx;cases hx⟩
 ·rintro k x h1 bW hk fI ⟨a1,a2,a3,a4,a5,a6⟩;have t1:=kTSu bW;have hxs:iX i x.2:=Nk S hi yb hs (k,x) (by obtain⟨b,e⟩:=KJ (aK X i os) c hk fI;rw[e];simp)
  suffices hs2:∀R1:Out→T ag→Key→Prop,(∀h' nx',RrI X i os cO c3 b8 b10 bj b15 n0 h0 ds tm (l.map AN) c b2 b3 nx nx.succ fn res [K 90,K 91] (.ops aJ) body (k+1) h' nx'→R1 (.ret (.bool true)) h' nx')→(∀h' nx',YL Q nx nx.succ fn tm res [K 90,K 91] (.ops aJ) body ds (.ret (.tuple [])) h' nx'→R1 (.ret (.bool false)) h' nx')→AU C nx.succ [I k,.agg (eC x)] h1 bW R1 from
   hs2 _ (fun _ _ h=>.inl ⟨rfl,h⟩) (fun _ _ h=>.inr ⟨rfl,h⟩)
  intro R1 hT hF;refine AU.intro (fun tm2 h2 aN=>aN=bW.succ∧h2=au bW (Qw (eC x)) h1∧ae (K 19) tm2=some (.ptr bW 0)∧ae (K 15) tm2=ae (K 15) tm∧ae (K 10) tm2=ae (K 10) tm) a2 rfl ?_ ?_
  ·simp[aJ,Mf,wR]
  ·rintro tm2 h2 aN ⟨rfl,hh2,g19,g15,g10⟩;have e2:=E0 h1 bW (.cells (eC x) .fix);have vx:ae bW (au bW (Qw (eC x)) h1)=Qw (eC x):=by simp
   have lk2:ae nx.succ (au bW (Qw (eC x)) h1)=some (.loop .ready none fn tm res [K 90,K 91] (.ops aJ) body nx):=by rw[e2.g _ a5.1];exact a2
   have A2:=a1.ext (tm':=tm) e2 rfl rfl rfl rfl;have v22:ae b2 (au bW (Qw (eC x)) h1)=Qw [.ptr bj 0]:=by rw[e2.g _ a5.2.1];exact a3
   have v32:ae b3 (au bW (Qw (eC x)) h1)=Qw (eC c):=by rw[e2.g _ a5.2.2];exact a4
   rw[←hh2]at e2 vx lk2 A2 v22 v32;clear hh2;refine⟨lk2,?_⟩;have nc2:∀l k,ae nx.succ h2≠some (.cells l k):=fun l k q=>by rw[lk2]at q;cases q
   have pc:∀(B:Option ag) (b:Key) (l:List AV) (k:CK),ae b h2=some (.cells l k)→ae b (au nx.succ B h2)=some (.cells l k):=fun B b l k hb=>by rw[aG _ _ _ _ (by rintro rfl;exact nc2 l k hb)];exact hb
   have A3:=A2.put (v:=some (.loop .busy none fn tm res [K 90,K 91] (.ops aJ) body nx)) nc2 (by rw[lk2];simp) (by omega);have lk3:ae nx.succ (au nx.succ (some (.loop .busy none fn tm res [K 90,K 91] (.ops aJ) body nx)) h2)=some (.loop .busy none fn tm res [K 90,K 91] (.ops aJ) body nx):=by simp
   have vx3:=pc (some (.loop .busy none fn tm res [K 90,K 91] (.ops aJ) body nx)) _ _ _ vx;have v23:=pc (some (.loop .busy none fn tm res [K 90,K 91] (.ops aJ) body nx)) _ _ _ v22;have v33:=pc (some (.loop .busy none fn tm res [K 90,K 91] (.ops aJ) body nx)) _ _ _ v32;generalize au nx.succ (some (.loop .busy none fn tm res [K 90,K 91] (.ops aJ) body nx)) h2=h3 at *;have aRZ:=Zr;generalize hrq:HS R1 nx.succ fn tm res [K 90,K 91] (.ops aJ) body nx=RQ;rw[←Zr];simp;simp[jX,g15,g19,A3.fc,A3.v15,vx3,Ks,wR,rH,JD];have hm:∀y:Ci,AN y=x→0≤y.1→y=Gj x:=fun y e hy=>by rw[←e];unfold Gj AN;exact Prod.ext (by simp;omega) rfl
   have hph:=ah5 S hl hk3 aoG (x:=Gj x) (Jn hxs) hc (h:=h3) (nx:=bW.succ) A3.a.v8 A3.a.lt.1;rw[Rs]at hph;refine hph.mono ?_;rintro o h4 kK ⟨rfl,e4⟩;have Ae:Gj x∈l↔x∈l.map AN:=by
    constructor
    ·intro h;exact KT.2 ⟨_,h,Ea x⟩
    ·intro h;obtain⟨y,hy,e⟩:=KT.1 h;have:=hm y e (hf.pos _ hy);rw[←this];exact hy
   have n4:=e4.n;have A4:=A3.ext (tm':=tm) e4 rfl rfl rfl rfl;have lk4:ae nx.succ h4=some (.loop .busy none fn tm res [K 90,K 91] (.ops aJ) body nx):=by rw[e4.g _ (by omega)];exact lk3
   have v24:ae b2 h4=Qw [.ptr bj 0]:=by rw[e4.g _ (by omega)];exact v23
   have v34:ae b3 h4=Qw (eC c):=by rw[e4.g _ (by omega)];exact v33
   have nc4:∀l k,ae nx.succ h4≠some (.cells l k):=fun l k q=>by rw[lk4]at q;cases q
   have pc4:∀(B:Option ag) (b:Key) (l:List AV) (k:CK),ae b h4=some (.cells l k)→ae b (au nx.succ B h4)=some (.cells l k):=fun B b l k hb=>by rw[aG _ _ _ _ (by rintro rfl;exact nc4 l k hb)];exact hb
   by_cases M7:x∈l.map AN
   ·have hxo:=Ae.2 M7;simp[hxo];rw[←hrq];simp;refine⟨⟨_,lk4⟩,hT _ _ ⟨A4.put nc4 (by rw[lk4];simp) (by omega),by simp,pc4 _ _ _ _ v24,pc4 _ _ _ _ v34,by omega,a6.succ fun y hy=>?_⟩⟩;rw[fI]at hy;cases hy;exact M7
   ·have hxo:¬Gj x∈l:=fun q=>M7 (Ae.1 q);simp[hxo];simp[jY,g10,A4.a.cW,A4.a.v10];rw[←hrq];have bT:nx.succ≠b10:=by rintro rfl;exact nc4 _ _ A4.a.v10
    simp;refine⟨⟨none,by rw[aG _ _ _ _ bT];exact lk4⟩,hF _ _ ⟨_,rfl,.done,some .ret,by simp,by simp,?_⟩⟩;have hds:jO n0 (nx ::ds) (au b10 (Qw [I 18]) h4) kK:=A4.d.bZ (dQ _) fun b _ hg=>by rw[aG _ _ _ _ (by rintro rfl;rw[A4.a.v10]at hg;cases hg)];exact hg
    have lk5:ae nx.succ (au b10 (Qw [I 18]) h4)=some (.loop .busy none fn tm res [K 90,K 91] (.ops aJ) body nx):=by rw[aG _ _ _ _ bT];exact lk4
    rw[set_set];refine xK _ _ _ ?_ (hds.bZ (dQ _) fun b _ hg=>?_) ((A4.e.put A4.ge).put (by omega)) ?_
    ·rw[aG _ _ _ _ (fun e=>bT e.symm)];simp
    ·rw[aG _ _ _ _ (by rintro rfl;rw[lk5]at hg;cases hg)];exact hg
    ·intro Cq;refine M7 (Cq (k,x) ?_);obtain⟨b,e⟩:=KJ (aK X i os) c hk fI;rw[e];simp
 ·rintro h1 bW ⟨a1,a2,a3,a4,a5,a6⟩;refine⟨_,rfl,.ready,none,a2,by simp,?_⟩;have hnc:∀l k,ae nx.succ h1≠some (.cells l k):=fun l k q=>by rw[a2]at q;cases q
  exact ME _ _ _ (a1.put hnc (by rw[a2];simp) (by omega)) a6
theorem aoH{i:Nat}(hi:i<3){os:List Op}(yb:ux i os=0)(sR:∀o∈os,before o o=false)(ho:os.length≤16){cO:AV}(Wt:gR 10 eO cO os){l:List Ci}(hl:l.length≤10000)(Hn:∀y∈l,iX i y.2)(hf:gL os.length l){c3:AV}(hc:gR 5 eD c3 l){b8 b10 bj b15 n0:Key}{h0:T ag}{Q:pV}{ds:List Key}{tm:T AV}{h1:T ag}{bW:Key}{m:Nat}(A:RfI X i os cO c3 b8 b10 bj b15 n0 h0 l m ds tm h1 bW)
  (uz:∀ds tm' h' nx',ae (K 10) tm'=some (.ptr b10 0)→ae b10 h'=Qw [I 18]→jO n0 ds h' nx'→Ext h0 n0 h' nx'→¬(∀c∈l.map AN,(aK X i os).acc c.1=false∧∀x∈(aK X i os).steps c,x.2∈l.map AN)→Q .ret ds tm' h' nx')
  (gC:∀ds tm' h' nx',RfB X i os cO c3 b8 b10 bj b15 n0 h0 ds tm' h' nx'→(∀c∈l.map AN,(aK X i os).acc c.1=false∧∀x∈(aK X i os).steps c,x.2∈l.map AN)→Q .norm ds tm' h' nx') :
  V C (.loop lu) (si 2 Q) ds tm h1 bW:=by
 have rA:=S.r bS;have rS:=S.r dA;have rH:=S.r bE;have hr:=Jm.rows l;refine V.eB (RfI X i os cO c3 b8 b10 bj b15 n0 h0 l) A ?_;rintro m ds dF h2 aN ⟨j,rfl,hj,B,g78,g79,g80,hg⟩;refine sQ ?_;simp[lu];by_cases bY:j<l.length
 ·have Bh:(j:Int)<l.length:=by omega
  have UE:c3=.sl (ai eD l) l.length 5 .any:=by
   rcases hc with⟨_,rfl⟩|e
   ·simp at bY
   ·exact e
  have aCg:=g78;rw[UE]at aCg;have tx:5≤l.length*5-j*5:=by omega
  have Ef:=hf.pos _ (DX bY);have ec:=Jm.at bY;rw[←auQ Ef]at ec;have cH:=hf.lt (AN l[j]) (KT.2 ⟨_,DX bY,rfl⟩);have hd:(AN l[j]).1<65536:=Lm cH (tz ho);have hs:iX i (AN l[j]).2:=Hn _ (DX bY);have uB:AN l[j]∈l.map AN:=KT.2 ⟨_,DX bY,rfl⟩;have aNJ:∀P:Cf St→Prop,(∀c∈l.map AN,P c)→P (AN l[j]):=fun P h=>h _ uB;have hgs:∀(a1:(aK X i os).acc (AN l[j]).1=false) (a2:∀x∈(aK X i os).steps (AN l[j]),x.2∈l.map AN),ak7 (aK X i os) l (j+1):=by
   intro a1 a2 q hq hqj;by_cases e:q=j
   ·subst e;exact⟨a1,a2⟩
   ·exact hg q hq (by omega)
  generalize AN l[j]=c at *;have s2:=kTSu aN;simp[uq,g79,g80,Bh];simp[B6,aCg,g80,bY,hr,tx,ec,wR,Ks,Mf];have e3:=E0 h2 aN (.cells (eC c) .fix);have b17:ae aN (au aN (Qw (eC c)) h2)=Qw (eC c):=by simp
  generalize au aN (Qw (eC c)) h2=h3 at *;have B3:=B.ext e3 (tm':=dF) rfl rfl rfl rfl;simp[B7,B.a.dU,b17,Ks,wR,rA,JD];refine(Yd S ho hd B3.a.vj B3.a.lt.2.2).mono ?_;rintro o h4 kK ⟨rfl,e4⟩;have B4:=B3.ext e4 (tm':=dF) rfl rfl rfl rfl;have n4:=e4.n;have aJM:ae aN h4=Qw (eC c):=by rw[e4.g aN (by omega)];exact b17
  cases UH:ve os c.1 with
  |true=>
   have lC:¬(∀c∈l.map AN,(aK X i os).acc c.1=false∧∀x∈(aK X i os).steps c,x.2∈l.map AN):=fun h=>by have:=(h c uB).1;have e:(aK X i os).acc c.1=ve os c.1:=rfl;rw[e,UH]at this;cases this
   simp;simp[B9,B4.a.cW,B4.a.v10];refine uz _ _ _ _ ?_ ?_ ?_ (B4.e.put B4.ge) lC
   ·simp[B4.a.cW]
   ·simp
   ·refine B4.d.bZ (dQ _) fun b _ hg=>?_;rw[aG _ _ _ _ (by rintro rfl;rw[B4.a.v10]at hg;cases hg)];exact hg
  |false=>
   simp;simp[Ca,B4.a.dU,aJM,Ks,wR,rS,JD];refine(WJ S).mono ?_;rintro o h5 nx5 ⟨rfl,b25,b35,rfl,e5⟩;simp;have B5:=B4.ext e5 (tm':=dF) rfl rfl rfl rfl;have t1:=kTSu kK;have t2:=kTSu kK.succ;have aJN:(aK X i os).acc c.1=false:=UH;refine aka S hi yb sR ho Wt hl Hn hf hc cH hs (b2:=kK) (b3:=kK.succ) (n0:=n0) (h0:=h0) (b15:=b15) (B5.ext (Ext.refl _ _) ?_ ?_ ?_ ?_) ?_ b25 b35 (by omega) ?_ ?_
   ·simp
   ·simp
   ·simp
   ·simp
   ·simp
   ·intro BS h' nx' hb D e lC;simp;refine uz _ _ _ _ ?_ hb D e fun h=>lC (h c uB).2;simp[B5.a.cW]
   ·intro BS h' nx' B' Cq;simp;simp[Cb,g80];rw[aH (by omega) (by omega)];refine⟨l.length-(j+1),by omega,j+1,rfl,by omega,B'.ext (Ext.refl _ _) ?_ ?_ ?_ ?_,by simp[g78],by simp[g79],by simp,hgs aJN Cq⟩<;>simp
 ·have yi:j=l.length:=by omega
  subst yi;simp[uq,g79,g80];refine gC _ _ _ _ (B.ext (Ext.refl _ _) ?_ ?_ ?_ ?_) ?_
  ·simp
  ·simp
  ·simp
  ·simp
  ·intro c hc2;obtain⟨x,hx,rfl⟩:=KT.1 hc2;obtain⟨q,hq,rfl⟩:=List.getElem_of_mem hx;exact hg q hq hq
end Ln
