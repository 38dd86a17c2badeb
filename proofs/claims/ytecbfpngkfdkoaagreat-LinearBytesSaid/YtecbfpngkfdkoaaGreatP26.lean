/- A part of the proof. No condition. -/
import Derived.Test.YtecbfpngkfdkoaaGreatP25
set_option linter.unusedSimpArgs false
set_option linter.unusedVariables false
set_option linter.unusedSectionVars false
namespace Ln
open Go.Sx Go
variable{C:cX}(S:tq C)
include S
theorem Qa{w:Key}{c:AV}{bs:List Nat}{h:T ab}{nx n0:Key}(Ws:WS w c bs h nx n0)(hl:bs.length≤90000){v:Vt}(afP:eB v.k){en:List Nat}
  (hk:(v.k=0∧eB v.n∧en=vu (zz v.n))∨(v.k=1∧en=[if v.n=1 then 1 else 0])∨(v.k=2∧∀{c':AV} {Gk:List Nat} {h':T ab} {nx':Key},WS w c' Gk h' nx' n0→Gk.length=bs.length+(vu (zz v.k)).length→ax C bw [.ptr w 0,.agg (eV v)] h' nx' (dh w (Gk++en) h' nx' n0))∨(v.k=3∧∀{c':AV} {Gk:List Nat} {h':T ab} {nx':Key},WS w c' Gk h' nx' n0→Gk.length=bs.length+(vu (zz v.k)).length→ax C bX [.ptr w 0,.agg (eV v)] h' nx' (dh w (Gk++en) h' nx' n0))) :
  ax C aH [.ptr w 0,.agg (eV v)] h nx (dh w (bs++vu (zz v.k)++en) h nx n0):=by
 have rI:C.raw aM=false:=S.nr (by decide);have rK:C.raw dp=false:=S.nr (by decide);have r0:C.raw b6=false:=S.nr (by decide);have r1:C.raw cA=false:=S.nr (by decide);have r2:C.raw bw=false:=S.nr (by decide);have r3:C.raw bX=false:=S.nr (by decide);have s1:=kTSu nx;refine S.nL.call ?_;simp[kq];simp[mq,ew,cZ];have e1:=E0 h nx (.cells (eV v) .fix);have b1:ae nx (ar nx (some (.cells (eV v) .fix)) h)=some (.cells (eV v) .fix):=by simp
 have W1:=Ws.ext e1;generalize ar nx (some (.cells (eV v) .fix)) h=h1 at *;have lz:=eV0 v;have cK:=Om v;simp[mr,b1,lz,cK,rI];refine(BD S W1 (by omega) afP).mono ?_;rintro o h2 aP ⟨rfl,c2,W2,Gl,Jl,Tf⟩;have b2:ae nx h2=some (.cells (eV v) .fix):=by have hw:=Ws.hi;rw[Tf nx (by omega) (fun e=>by rw[e]at hw;omega) (fun B hB=>by rw[b1]at hB;cases hB;exact⟨by simp,by simp⟩)];exact b1
 have Qb:=lF (zz v.k);have fin:∀{o h' nx'},dh w (bs++vu (zz v.k)++en) h2 aP n0 o h' nx'→dh w (bs++vu (zz v.k)++en) h nx n0 o h' nx':=by rintro o h' nx' ⟨ho,c',W',hx,hf,vO⟩;exact dh.up e1 Ws.n ⟨ho,c',W',by omega,fun b hb=>by rw[hf b hb,Jl b hb],Tf.trans Gl vO⟩
 simp;simp[mu,b2,lz,cK,cZ,dI,rK];refine(TP S).mono ?_;rintro o h3 bu ⟨rfl,e3⟩;have n3:=e3.n;have W3:=W2.ext e3;have b3:ae nx h3=some (.cells (eV v) .fix):=by rw[e3.g nx (by omega)];exact b2
 have bq:AV.beq (.agg (eV v)) (.agg (eV v))=true:=afQ v;have bk:AV.beq (I v.k) (I v.k)=true:=beq_refl _ rfl;have abS:∀{o h' nx'},dh w (bs++vu (zz v.k)++en) h3 bu n0 o h' nx'→dh w (bs++vu (zz v.k)++en) h nx n0 o h' nx':=fun W=>fin (dh.up e3 W2.n W);have hl3:(bs++vu (zz v.k)).length≤100000:=by rw[fO];omega
 have abT:(bs++vu (zz v.k)).length=bs.length+(vu (zz v.k)).length:=fO;have ha:bs++vu (zz v.k)++en=bs++(vu (zz v.k)++en):=List.append_assoc _ _ _;rw[ha]at abS;have TQ:∀{o h' nx'},dh w (bs++vu (zz v.k)++en) h3 bu n0 o h' nx'→o=.ret (.tuple [])∧dh w (bs++(vu (zz v.k)++en)) h nx n0 (.ret (.tuple [])) h' nx':=fun W=>by rw[ha]at W;have W':=abS W;obtain⟨rfl,_⟩:=W;exact⟨rfl,W'⟩
 generalize vY:vu (zz v.k)=ek at *;rcases hk with⟨k0,kn,rfl⟩|⟨k0,rfl⟩|⟨k0,hL⟩|⟨k0,hL⟩
 ·rw[k0]at lz cK bk;simp[b3,lz,cK,cZ,dI,bq,bk,TR,r0,DM,eL,k0];refine(TS S W3 hl3 v kn).mono ?_;rintro o h4 sw W4;obtain⟨rfl,W5⟩:=TQ W4;simp;exact W5
 ·rw[k0]at lz cK bk;simp[b3,lz,cK,cZ,dI,bq,bk,TR,r1,DM,eL,k0];refine(TU S W3 hl3 v).mono ?_;rintro o h4 sw W4;obtain⟨rfl,W5⟩:=TQ W4;simp;exact W5
 ·rw[k0]at lz cK bk;simp[b3,lz,cK,cZ,dI,bq,bk,TR,r2,DM,eL,k0];refine(hL W3 abT).mono ?_;rintro o h4 sw W4;obtain⟨rfl,W5⟩:=TQ W4;simp;exact W5
 ·rw[k0]at lz cK bk;simp[b3,lz,cK,cZ,dI,bq,bk,TR,r3,DM,eL,k0];refine(hL W3 abT).mono ?_;rintro o h4 sw W4;obtain⟨rfl,W5⟩:=TQ W4;simp;exact W5
end Ln
namespace Ln
open Go.Sx Go
theorem zc:∀l m:List Vt,bj (l++m)=bj l++bj m
 | [],m=>by simp[bj]
 |v ::l,m=>by simp[bj,zc l m]
theorem O4(v:Vt):bj [v]=bT v:=by simp[bj]
theorem Dt{l:List Vt}{j:Nat}(hj:j<l.length):bj (l.take (j+1))=bj (l.take j)++bT l[j]:=by rw[Th hj,zc,O4]
theorem KT{l:List Vt}{j:Nat}:(bj (l.take j)).length≤(bj l).length:=by have h:=congrArg List.length (zc (l.take j) (l.drop j));rw[List.take_append_drop,fO]at h;omega
theorem EW(v:Vt):1≤(bT v).length:=by
 cases v with
 |mk k n a b l=>have:=Mv (zz k);rw[bT,fO];omega
theorem uP:∀l:List Vt,l.length≤(bj l).length
 | []=>by simp
 |v ::l=>by have h1:=uP l;have h2:=EW v;rw[bj,fO,Ci];omega
def CvT(w:Key)(kids:List Vt)(bs:List Nat)(h:T ab)(nx n0:Key)(m:Nat)(aD:T AV)(h':T ab)(nx':Key):Prop:=∃(j:Nat) (c':AV),m=kids.length-j∧j≤kids.length∧ae (K 0) aD=some (.ptr w 0)∧ae (K 14) aD=some (kV kids)∧ae (K 15) aD=some (I kids.length)∧ae (K 16) aD=some (I j)∧WS w c' (bs++bj (kids.take j)) h' nx' n0∧nx.toNat≤nx'.toNat∧(∀b:Key,b.toNat<n0.toNat→ae b h'=ae b h)∧Iw w h nx h'
theorem _root_.Go.Sx.Rd.lnT{z:Nat}{c:AV}{l:List AV}{len:Nat}{h:T ab}{nx:Key}(g:Rd z c l len h nx){C:cX}{Q:cu}{ds:List Key}{ak:List (Nat×Key×ab)}{L:List aT}{tm:T AV}{h2:T ab}{n2 k1 d1:Key}{a:Nat}(h1:ae k1 tm=some c) :
  wpS C Q ⟨ds,[]⟩ (.L a ⟨some d1,.lenL (.t k1),none⟩ ::L) ak tm h2 n2=wpS C Q ⟨ds,[]⟩ L ak (ar d1 (some (I len)) tm) h2 n2:=by
 rcases g with⟨rfl,_,rfl⟩|⟨f,rfl⟩|⟨b,k,rfl,_⟩<;>simp[h1]
variable{C:cX}(S:tq C)
include S
theorem Mw{w n0:Key}{kids:List Vt}(hv:∀u∈kids,∀{c:AV} {bs:List Nat} {h:T ab} {nx:Key},WS w c bs h nx n0→bs.length+(bT u).length≤90000→ax C aH [.ptr w 0,.agg (eV u)] h nx (dh w (bs++bT u) h nx n0)){bs:List Nat}(hl:bs.length+(bj kids).length≤90000){h:T ab}{nx:Key}{Q:cu}{m:Nat}{tm:T AV}{h1:T ab}{nx1:Key}(A:CvT w kids bs h nx n0 m tm h1 nx1)
  (xS:∀aD h' nx',dh w (bs++bj kids) h nx n0 (.ret (.tuple [])) h' nx'→Q .norm aD h' nx') :
  W C (.loop iJ) (cz 0 Q) tm h1 nx1:=by
 have rV:C.raw aH=false:=S.nr (by decide);have Cr:=uP kids;refine W.hO (CvT w kids bs h nx n0) A ?_;rintro m dT h2 aP ⟨j,c',rfl,hj,g0,g14,Tx,OT,Ws,hn,hf,hkp⟩;refine W.of ?_;simp[iJ];by_cases eo:j<kids.length
 ·have nK:(j:Int)<kids.length:=by omega
  have hR:=(jz kids).rd h2 aP;have s2:=kTSu aP;have sE:=Dt eo;have hle:=KT (l:=kids) (j:=j+1);rw[sE,fO]at hle;have jM:=Lt eo;have JM:=ew kids[j];have Gm:=cZ kids[j];have Oq:=dI kids[j];have hdU:List.drop 4 [AV.int .i64 (.lit 0),.int .i64 (.lit 0),.str 0 0,.nils]=[]:=rfl;simp[iK,Tx,OT,nK];simp only[nP,hU,jk,jl,hZ,jm,ia,jn,jo,ib,ic,jq,jr,js,jt];simp[↓hR.ix dq eo,g14,OT,JM,Gm];simp[nQ,g0,Gm,Oq,rV,DM];have RY:(bs++bj (kids.take j)).length+(bT kids[j]).length≤90000:=by rw[fO];omega
  have e1:=E0 h2 aP (.cells (eV kids[j]) .fix);have W1:=Ws.ext e1;refine(hv _ jM W1 RY).mono ?_;rintro o h3 bu ⟨rfl,c3,W3,hn3,hf3,hk3⟩;simp;simp[nR,OT];rw[aJ (by omega) (by omega)];refine⟨kids.length-(j+1),by omega,j+1,c3,rfl,by omega,by simp[g0],by simp[g14],by simp[Tx],by simp,?_,by omega,fun b hb=>?_,?_⟩
  ·rw[sE,←List.append_assoc];exact W3
  ·have:=Ws.n;rw[hf3 b hb,al (by omega)];exact hf b hb
  ·exact hkp.trans hn (((Ext.kp e1 w).trans (by omega) hk3))
 ·have wy:j=kids.length:=by omega
  subst wy;rw[List.take_length]at Ws;simp[iK,Tx,OT];exact xS _ _ _ ⟨rfl,c',Ws,hn,hf,hkp⟩
theorem Ki{w n0:Key}{v:Vt}(hv:∀u∈v.kids,∀{c:AV} {bs:List Nat} {h:T ab} {nx:Key},WS w c bs h nx n0→bs.length+(bT u).length≤90000→ax C aH [.ptr w 0,.agg (eV u)] h nx (dh w (bs++bT u) h nx n0)){c:AV}{bs:List Nat}(hl:bs.length+(vu (zz v.kids.length)++bj v.kids).length≤90000){h:T ab}{nx:Key}(Ws:WS w c bs h nx n0) :
  ax C bw [.ptr w 0,.agg (eV v)] h nx (dh w (bs++(vu (zz v.kids.length)++bj v.kids)) h nx n0):=by
 have rI:C.raw aM=false:=S.nr (by decide);have s1:=kTSu nx;have Cr:=uP v.kids;rw[fO]at hl;refine S.pT.call ?_;simp[lX];simp[nS,ew,cZ];have e1:=E0 h nx (.cells (eV v) .fix);have b1:ae nx (ar nx (some (.cells (eV v) .fix)) h)=some (.cells (eV v) .fix):=by simp
 have W1:=Ws.ext e1;generalize ar nx (some (.cells (eV v) .fix)) h=h1 at *;have tP:=TV v;have hR:=(jz v.kids).rd h1 nx.succ;simp[nT,b1,tP,↓hR.lnT,rI];refine(BD S W1 (by omega) (n:=(v.kids.length:Int)) ⟨by omega,by omega⟩).mono ?_;rintro o h2 aP ⟨rfl,c2,W2,Gl,Jl,Tf⟩;have b2:ae nx h2=some (.cells (eV v) .fix):=by have hw:=Ws.hi;rw[Tf nx (by omega) (fun e=>by rw[e]at hw;omega) (fun B hB=>by rw[b1]at hB;cases hB;exact⟨by simp,by simp⟩)];exact b1
 have ha:bs++vu (zz (v.kids.length:Int))++bj v.kids=bs++(vu (zz (v.kids.length:Int))++bj v.kids):=List.append_assoc _ _ _;have hR2:=(jz v.kids).rd h2 aP;simp;simp[↓hR2.ln,nU,b2,tP];refine Mw S hv (bs:=bs++vu (zz (v.kids.length:Int))) (by rw[fO];omega) (h:=h2) (nx:=aP) (m:=v.kids.length) ⟨0,c2,by simp,by omega,by simp,by simp,by simp,by simp,by simpa[bj]using W2,cI _,fun _ _=>rfl,Iw.refl _ _ _⟩ ?_;intro aD h' nx' W;rw[ha]at W;obtain⟨ho,c',W',hx,hf,vO⟩:=W;simp;exact dh.up e1 Ws.n ⟨rfl,c',W',by omega,fun b hb=>by rw[hf b hb,Jl b hb],Tf.trans Gl vO⟩
theorem Rm{w n0:Key}{v:Vt}(ha:v.a≤100000)(hv:∀u∈v.kids,∀{c:AV} {bs:List Nat} {h:T ab} {nx:Key},WS w c bs h nx n0→bs.length+(bT u).length≤90000→ax C aH [.ptr w 0,.agg (eV u)] h nx (dh w (bs++bT u) h nx n0)){c:AV}{bs:List Nat}(hl:bs.length+(vu v.a++sb v.a v.b++(vu (zz v.kids.length)++bj v.kids)).length≤90000){h:T ab}{nx:Key}(Ws:WS w c bs h nx n0) :
  ax C bX [.ptr w 0,.agg (eV v)] h nx (dh w (bs++(vu v.a++sb v.a v.b++(vu (zz v.kids.length)++bj v.kids))) h nx n0):=by
 have rT:C.raw dc=false:=S.nr (by decide);have rL:C.raw bw=false:=S.nr (by decide);have s1:=kTSu nx;have es:=v9 v.a v.b;rw[fO]at hl;refine S.pU.call ?_;simp[lY];simp[nV,ew,cZ];have e1:=E0 h nx (.cells (eV v) .fix);have b1:ae nx (ar nx (some (.cells (eV v) .fix)) h)=some (.cells (eV v) .fix):=by simp
 have W1:=Ws.ext e1;generalize ar nx (some (.cells (eV v) .fix)) h=h1 at *;have JK:=eV2 v;simp[nW,b1,JK,rT];refine(Qq S.rv S.eh (S.nr (by decide)) W1 v.a v.b ha (by omega)).mono ?_;rintro o h2 aP ⟨rfl,c2,W2,Gl,Jl,Tf⟩;have b2:ae nx h2=some (.cells (eV v) .fix):=by have hw:=Ws.hi;rw[Tf nx (by omega) (fun e=>by rw[e]at hw;omega) (fun B hB=>by rw[b1]at hB;cases hB;exact⟨by simp,by simp⟩)];exact b1
 have ha:bs++(vu v.a++sb v.a v.b)++(vu (zz (v.kids.length:Int))++bj v.kids)=bs++(vu v.a++sb v.a v.b++(vu (zz (v.kids.length:Int))++bj v.kids)):=by simp only[List.append_assoc]
 simp;simp[nX,b2,cZ,dI,rL,DM];refine(Ki S hv (by rw[fO];omega) W2).mono ?_;rintro o h3 bu W3;simp only[List.append_assoc]at W3;obtain⟨rfl,c',W',hx,hf,vO⟩:=W3;simp;exact dh.up e1 Ws.n ⟨rfl,c',W',by omega,fun b hb=>by rw[hf b hb,Jl b hb],Tf.trans Gl vO⟩
end Ln
namespace Ln
open Go.Sx Go
theorem kT:∀{l:List Vt} {v:Vt},v∈l→bV v≤bS l
 |u ::l,v,h=>by
  rcases zk.1 h with rfl|h
  ·rw[bS];omega
  ·have:=kT h;rw[bS];omega
theorem eN(v:Vt):bV v=bS v.kids+1:=by cases v;rw[bV];rfl
theorem xT:∀{l:List Vt} {v:Vt},II l→v∈l→DN v
 |u ::l,v,h,hm=>by
  rcases zk.1 hm with rfl|hm
  ·exact h.1
  ·exact xT h.2 hm
theorem yZ:∀{l:List Vt} {v:Vt},fH l=true→v∈l→ku v=true
 |u ::l,v,h,hm=>by
  simp only[fH,fa]at h;rcases zk.1 hm with rfl|hm
  ·exact h.1
  ·exact yZ h.2 hm
theorem Il{v:Vt}(h:DN v):eB v.k∧eB v.n∧v.a<18446744073709551616∧v.b<256^v.a∧II v.kids:=by cases v;exact h
theorem Im{v:Vt}(h:ku v=true):iT v.k v.n v.a v.b v.kids.length=true∧fH v.kids=true:=by cases v;simp only[ku,fa]at h;exact h
theorem Nn(v:Vt):bT v=vu (zz v.k)++(if v.k=0 then vu (zz v.n)else if v.k=1 then [v.n.toNat]else if v.k=2 then vu (zz v.kids.length)++bj v.kids else vu v.a++sb v.a v.b++(vu (zz v.kids.length)++bj v.kids)):=by cases v;rw[bT];rfl
theorem Rk{k n:Int}{a b m:Nat}(h:iT k n a b m=true):k=0∨(k=1∧(n=0∨n=1))∨k=2∨(k=3∧a≤16):=by
 unfold iT at h;split at h
 ·exact .inl ‹_›
 ·split at h
  ·simp only[fa,Bool.or_eq_true,decide_eq_true_eq]at h;exact .inr (.inl ⟨‹_›,h.1.1⟩)
  ·split at h
   ·exact .inr (.inr (.inl ‹_›))
   ·split at h
    ·unfold qo at h;simp only[fa,decide_eq_true_eq]at h;exact .inr (.inr (.inr ⟨‹_›,h.2.1.1.2⟩))
    ·cases h
variable{C:cX}(S:tq C)
include S
theorem Rl:∀(N:Nat) {v:Vt},bV v≤N→DN v→ku v=true→∀{w n0:Key} {c:AV} {bs:List Nat} {h:T ab} {nx:Key},WS w c bs h nx n0→bs.length+(bT v).length≤90000→ax C aH [.ptr w 0,.agg (eV v)] h nx (dh w (bs++bT v) h nx n0)
 |0,v,hs,_,_,_,_,_,_,_,_,_,_=>by rw[eN]at hs;omega
 |N+1,v,hs,hi,hf,w,n0,c,bs,h,nx,Ws,hl=>by
  obtain⟨i1,i2,i3,i4,i5⟩:=Il hi;obtain⟨f1,f2⟩:=Im hf;rw[eN]at hs;have hv:∀u∈v.kids,∀{c:AV} {bs:List Nat} {h:T ab} {nx:Key},WS w c bs h nx n0→bs.length+(bT u).length≤90000→ax C aH [.ptr w 0,.agg (eV u)] h nx (dh w (bs++bT u) h nx n0):=fun u hu {c bs h nx} W hl=>Rl N (by have:=kT hu;omega) (xT i5 hu) (yZ f2 hu) W hl;rw[Nn]at hl ⊢;rw[fO]at hl;rw[←List.append_assoc];have key:=fun en hk=>Qa S Ws (by omega) (v:=v) i1 (en:=en) hk;have hlen:=lF (zz v.k);rcases Rk f1 with e|⟨e,en⟩|e|⟨e,ea⟩
  ·rw[if_pos e];exact key _ (.inl ⟨e,i2,rfl⟩)
  ·rw[if_neg (by omega),if_pos e];refine key _ (.inr (.inl ⟨e,?_⟩));rcases en with en|en<;>rw[en]<;>rfl
  ·rw[if_neg (by omega),if_neg (by omega),if_pos e]at hl ⊢;exact key _ (.inr (.inr (.inl ⟨e,fun {c' Gk h' nx'} W' IA=>Ki S hv (by omega) W'⟩)))
  ·rw[if_neg (by omega),if_neg (by omega),if_neg (by omega)]at hl ⊢;exact key _ (.inr (.inr (.inr ⟨e,fun {c' Gk h' nx'} W' IA=>Rm S (by omega) hv (by omega) W'⟩)))
theorem T9{v:Vt}(hi:DN v)(hf:ku v=true){w n0:Key}{c:AV}{bs:List Nat}{h:T ab}{nx:Key}(Ws:WS w c bs h nx n0)(hl:bs.length+(bT v).length≤90000):ax C aH [.ptr w 0,.agg (eV v)] h nx (dh w (bs++bT v) h nx n0):=Rl S (bV v) (cI _) hi hf Ws hl
end Ln
namespace Ln
open Go.Sx Go
mutual
theorem Lc:∀v:Vt,ku v=true→(bT v).length≤60*bV v
 |.mk k n a b l,hf=>by
  simp only[ku,fa]at hf;have h1:=lF (zz k);have h2:=lF (zz n);have h3:=lF (zz l.length);have h4:=lF a;have h5:=v9 a b;have h6:=H0 l hf.2;have h7:=Rk hf.1;rw[bT,bV,fO];split
  ·omega
  ·split
   ·simp;omega
   ·split
    ·rw[fO];omega
    ·rw[fO,fO,fO];omega
theorem H0:∀l:List Vt,fH l=true→(bj l).length≤60*bS l
 | [],_=>by simp[bj]
 |v ::l,hf=>by simp only[fH,fa]at hf;have h1:=Lc v hf.1;have h2:=H0 l hf.2;rw[bj,bS,fO];omega
end
theorem Lj{f:Nat}(ih:∀{p:Nat} {s:fE} {v:Vt} {p':Nat} {s':fE},vR f p s=some (v,p',s')→p'=p+bV v∧p'≤1024):∀{m p:Nat} {s:fE} {l:List Vt} {p':Nat} {s':fE},p≤1024→nf (vR f) m p s=some (l,p',s')→p'=p+bS l∧p'≤1024∧l.length=m
 |0,p,s,l,p',s',hp,h=>by simp only[nf,bB,Prod.mk.injEq]at h;obtain⟨rfl,rfl,_⟩:=h;simp[bS,hp]
 |m+1,p,s,l,p',s',hp,h=>by
  rw[nf]at h;split at h
  ·cases h
  ·rename_i v q t e;split at h
   ·cases h
   ·rename_i l' q' t' e';simp only[bB,Prod.mk.injEq]at h;obtain⟨rfl,rfl,rfl⟩:=h;obtain⟨h1,h2⟩:=ih e;obtain⟨k1,k2,k3⟩:=Lj ih h2 e';rw[bS,Ci];omega
theorem N7{f:Nat}(ih:∀{p:Nat} {s:fE} {v:Vt} {p':Nat} {s':fE},vR f p s=some (v,p',s')→p'=p+bV v∧p'≤1024){k:Int}{a b p:Nat}{s:fE}{v:Vt}{p':Nat}{s':fE}(hp:p≤1024)(h:OX k a b (OY (vR f) p s)=some (v,p',s')):p'+1=p+bV v∧p'≤1024:=by
 unfold OY at h;split at h
 ·cases h
 ·cases hR:nf (vR f) (rI s).1.toNat p (rI s).2 with
  |none=>rw[hR]at h;cases h
  |some w=>obtain⟨l,q,t⟩:=w;rw[hR]at h;simp only[OX,bB,Prod.mk.injEq]at h;obtain⟨rfl,rfl,rfl⟩:=h;obtain⟨h1,h2,_⟩:=Lj ih hp hR;rw[bV];omega
theorem Iv:∀{f p:Nat} {s:fE} {v:Vt} {p':Nat} {s':fE},vR f p s=some (v,p',s')→p'=p+bV v∧p'≤1024
 |0,p,s,v,p',s',h=>by cases h
 |f+1,p,s,v,p',s',h=>by
  have ih:∀{p:Nat} {s:fE} {v:Vt} {p':Nat} {s':fE},vR f p s=some (v,p',s')→p'=p+bV v∧p'≤1024:=Iv;rw[vR]at h;split at h
  ·cases h
  ·split at h
   ·simp only[bB,Prod.mk.injEq]at h;obtain⟨rfl,rfl,_⟩:=h;simp[bV,bS];omega
   ·split at h
    ·simp only[bB,Prod.mk.injEq]at h;obtain⟨rfl,rfl,_⟩:=h;simp[bV,bS];omega
    ·split at h
     ·have:=N7 ih (by omega) h;omega
     ·split at h
      ·have:=N7 ih (by omega) h;omega
      ·cases h
theorem MV(st:fE):rI st=(bk (uV (uO st)),(uO st).map (·.2)):=by
 cases st with
 |none=>rfl
 |some bs=>
  show(match M4 bs with|none=>((0:Int),(none:fE))|some (z,r)=>(bk z,some r))=(bk (uV (M4 bs)),(M4 bs).map (·.2));cases M4 bs with
  |none=>rfl
  |some p=>rfl
theorem RS.ext{r:Key}{bs:List Nat}{e:Int}{h h':T ab}{nx nx' n0:Key}(R:RS r bs e h nx n0)(x:Ext h nx h' nx'):RS r bs e h' nx' n0:=by obtain⟨r1,r2,b,off,all,k,a1,a2,a3,a4,a5,a6,a7,a9⟩:=R;have a8:b≠r:=ay (by omega);have:=x.n;exact⟨r1,by omega,b,off,all,k,by rw[x.g r r2];exact a1,by rw[x.g b a7];exact a2,a3,a4,a5,a6,by omega,a9⟩
theorem RO.ext{r:Key}{st:Option (List Nat)}{h h':T ab}{nx nx' n0:Key}(R:RO r st h nx n0)(x:Ext h nx h' nx'):RO r st h' nx' n0:=by
 cases st with
 |none=>obtain⟨bs,e,he,R⟩:=R;exact⟨bs,e,he,R.ext x⟩
 |some bs=>exact⟨R.1.ext x,R.2⟩
theorem RO.hi{r:Key}{st:Option (List Nat)}{h:T ab}{nx n0:Key}(R:RO r st h nx n0):n0.toNat≤r.toNat∧r.toNat<nx.toNat:=by
 cases st with
 |none=>obtain⟨bs,e,he,R⟩:=R;exact⟨R.1,R.2.1⟩
 |some bs=>exact⟨R.1.1,R.1.2.1⟩
def LB(st:Option (List Nat)):Prop:=∀bs,st=some bs→bs.length≤1000000
theorem Ij:∀(bs:List Nat) (i a m:Nat) (r:List Nat),Lw i a bs=some (m,r)→r.length≤bs.length
 | [],i,a,m,r,h=>by simp[Lw]at h
 |b ::bs,i,a,m,r,h=>by
  rw[Lw]at h;split at h
  ·cases h
  ·split at h
   ·simp only[bB,Prod.mk.injEq]at h;rw[←h.2];simp
   ·have:=Ij bs _ _ m r h;simp;omega
theorem LB.u{st:Option (List Nat)}(h:LB st):LB ((uO st).map (·.2)):=by
 intro bs hb;cases st with
 |none=>cases hb
 |some q=>
  have hq:=h q rfl;cases hu:uO (some q)with
  |none=>rw[hu]at hb;cases hb
  |some p=>
   obtain⟨m,r⟩:=p;rw[hu]at hb;have GC:r=bs:=by simpa using hb
   subst GC;have:=Ij q 0 0 m r hu;omega
theorem LB.i{st:fE}(h:LB st):LB (rI st).2:=by rw[MV];exact h.u
theorem XY{q:List Nat}{x:Bool}{r:List Nat}(h:rB (some q)=(x,some r)):r.length≤q.length:=by rw[Qg h];simp
theorem LB.b{st:fE}(h:LB st):LB (rB st).2:=by
 intro bs hb;cases st with
 |none=>cases hb
 |some q=>have:=XY (q:=q) (x:=(rB (some q)).1) (r:=bs) (by rw[←hb]);have:=h q rfl;omega
theorem Qh(st:fE):rR st=(match lO st with|some (n,r)=>(r.take n,some (r.drop n))|none=>([],none)):=by
 cases st with
 |none=>rfl
 |some bs=>
  have e:uO (some bs)=M4 bs:=rfl;unfold rR lO;rw[e];simp only;cases M4 bs with
  |none=>rfl
  |some p=>obtain⟨n,r⟩:=p;simp only;split<;>rfl
theorem LB.r{st:fE}(h:LB st):LB (rR st).2:=by
 intro bs hb;have hh:=h.u;rw[Qh]at hb;unfold lO at hb;cases hu:uO st with
 |none=>rw[hu]at hb;cases hb
 |some p=>
  obtain⟨m,r⟩:=p;rw[hu]at hb hh;have hr:=hh r rfl;by_cases hm:m≤r.length
  ·simp[hm]at hb;rw[←hb,List.length_drop];omega
  ·simp[hm]at hb
theorem abZ(st:fE):tV (tO st)=.str (rR st).1.length (ub (rR st).1)∧(tO st).map (·.2)=(rR st).2:=by
 rw[Qh];unfold tO;cases h:lO st with
 |none=>exact⟨rfl,rfl⟩
 |some p=>
  obtain⟨n,r⟩:=p;have hn:n≤r.length:=by
   unfold lO at h;split at h
   ·split at h
    ·cases h;assumption
    ·cases h
   ·cases h
  have:(r.take n).length=n:=by rw[LF];omega
  constructor
  ·show AV.str n (ub (r.take n))=AV.str (r.take n).length (ub (r.take n));rw[this]
  ·rfl
theorem Kj{q:Key}{h:T ab}{nx:Key}(hq:ae q h=some (.cells [] .fix))(ZL:q.toNat<nx.toNat)(m:List Nat)(hl:m.length≤1048576) :
  ∃c' h' nx',appendTo 1 (.slice q 0 0 1) (an eY m) m.length h nx=.val c' h' nx'∧nx.toNat≤nx'.toNat∧py 1 eY (aK 9999 c' h').1 m∧∀b:Key,b.toNat<nx.toNat→b≠q→ae b (aK 9999 c' h').2=ae b h:=by
 by_cases hm:m=[]
 ·subst hm;have hz:=M9 (n:=9998) (b:=q) (len:=0) (sz:=1) (l:=[]) (H:=ar q (some (.cells [] .fix)) h) (by rw[gTSm]) rfl (by simp);refine⟨.slice q 0 0 1,ar q (some (.cells [] .fix)) h,nx,by simp[hq],cI _,?_,fun b hb Pz=>?_⟩
  ·rw[hz];exact .inr rfl
  ·rw[hz,bQ _ _ _ _ Pz,bQ _ _ _ _ Pz]
 ·have hmp:0<m.length:=List.length_pos_iff.2 hm;have yf:¬m.length=0:=by omega
  have hr:=bE.rows m;have qq:=bE.EH m;have hz:=EZ (n:=9998) (b:=nx) (len:=m.length) (sz:=1) (l:=an eY m) (H:=ar nx (some (.cells (an eY m) .part)) h) (by rw[gTSm]) hr (bE.H9 m);refine⟨.slice nx 0 m.length 1,ar nx (some (.cells (an eY m) .part)) h,nx.succ,?_,by rw[kTSu];omega,?_,fun b hb Pz=>?_⟩
  ·simp[hq,hl,qq,yf]
  ·rw[hz];exact .inr rfl
  ·rw[hz,al (by omega),al (by omega)]
theorem RS.mv{r q:Key}{bs:List Nat}{e:Int}{h h':T ab}{nx nx' n0:Key}(R:RS r bs e h nx n0)(hf:∀b:Key,b.toNat<nx.toNat→b≠q→ae b h'=ae b h)(hq:r.toNat<q.toNat)(hn:nx.toNat≤nx'.toNat):RS r bs e h' nx' n0:=by obtain⟨r1,r2,b2,ZM,ZN,k3,a1,a2,a3,a4,a5,a6,a7,a9⟩:=R;exact⟨r1,by omega,b2,ZM,ZN,k3,by rw[hf r (by omega) (ay (by omega))];exact a1,by rw[hf b2 (by omega) (ay (by omega))];exact a2,a3,a4,a5,a6,by omega,a9⟩
theorem RS.at0{x:Nat}{q:List Nat}{all:List Nat}{off:Nat}(h:all.drop off=x ::q):(an eY all)[off]?=some (.int .u8 (.lit (x:Int)))∧off<all.length∧all.drop (off+1)=q:=by
 have bF:off<all.length:=by have:=congrArg List.length h;rw[List.length_drop,Ci]at this;omega
 have e:all.drop off=all[off] ::all.drop (off+1):=zqt bF;rw[h]at e;obtain⟨e1,e2⟩:=List.cons.inj e;rw[e1];exact⟨X5 bF,bF,e2.symm⟩
variable{C:cX}(S:tq C)
include S
def adt(st:fE)(r:Key)(h:T ab)(nx n0:Key)(o:Out)(h':T ab)(nx':Key):Prop:=o=.ret (.bool (rB st).1)∧RO r (rB st).2 h' nx' n0∧Kr r h nx n0 h' nx'
theorem Mm{r:Key}{st:fE}{h:T ab}{nx n0:Key}(R:RO r st h nx n0):ax C df [.ptr r 0] h nx (adt st r h nx n0):=by
 have rF:C.raw az=false:=S.nr (by decide);refine S.ri.call ?_;simp[m8];simp[pM];cases st with
 |none=>obtain⟨bs,e,he,R⟩:=R;obtain⟨r1,r2,b,off,all,k,a1,a2,a3,a4,a5,a6,a7,a9⟩:=id R;have a8:b≠r:=ay (by omega);simp[jF,a1,he];simp[pN];exact⟨rfl,⟨bs,e,he,R⟩,Kr.refl _ _ _ _⟩
 |some rest=>
  obtain⟨R,hb⟩:=R;obtain⟨r1,r2,b,off,all,k,a1,a2,a3,a4,a5,a6,a7,a9⟩:=id R;have a8:b≠r:=ay (by omega);simp[jF,a1];cases rest with
  |nil=>simp[jG,a1];simp[pO,rF];refine(BK S.bN R 3).mono ?_;rintro o h3 bu ⟨rfl,R3,k3⟩;simp;simp[pP];exact⟨rfl,⟨[],3,by decide,by simpa using R3⟩,k3⟩
  |cons x q=>
   have hx:=hb x (by simp);obtain⟨er,bF,hd⟩:=RS.at0 a4;have hq0:¬((q.length:Int)+1=0):=by omega
   have hq1:((q.length:Int)+1==0)=false:=by simpa using hq0
   simp[jG,a1,hq0,hq1];simp[pQ,a1,a2,er];by_cases h1:1<x
   ·have sj:(1:Int)<x:=by omega
    simp[jH,sj];simp[pR,rF];refine(BK S.bN R 2).mono ?_;rintro o h3 bu ⟨rfl,R3,k3⟩;simp;simp[pS];refine⟨by simp[rB,h1],?_,k3⟩;simp only[rB,if_pos h1];exact⟨x ::q,2,by decide,by simpa using R3⟩
   ·have sj:¬(1:Int)<x:=by omega
    simp[jH,sj];simp[nM,a1];have g2:ae b (ar r (some (.cells [.slice b (off+1) q.length 1,I 0] .fix)) h)=some (.cells (an eY all) k):=by rw[bQ _ _ _ _ a8];exact a2
    have R2:RS r q 0 (ar r (some (.cells [.slice b (off+1) q.length 1,I 0] .fix)) h) nx n0:=⟨r1,r2,b,off+1,all,k,by rw[gTSm],g2,a3,hd,by omega,a6,a7,a9⟩;have ZO:(rB (some (x ::q)))=(decide (x=1),some q):=by simp only[rB,if_neg h1]
    have hq:∀b∈q,b<256:=fun b hm=>hb b (by simp[hm]);have key:Kr r h nx n0 (ar r (some (.cells [.slice b (off+1) q.length 1,I 0] .fix)) h) nx:=⟨cI _,fun p _ hp=>bQ _ _ _ _ hp⟩;simp[nN];have:x=0∨x=1:=by omega
    unfold adt;rw[ZO];rcases this with rfl|rfl
    ·simp;exact⟨⟨R2,hq⟩,key⟩
    ·simp;exact⟨⟨R2,hq⟩,key⟩
def adu(st:fE)(r:Key)(h:T ab)(nx n0:Key)(o:Out)(h':T ab)(nx':Key):Prop:=(∃c',o=.ret c'∧py 1 eY c' (rR st).1)∧RO r (rR st).2 h' nx' n0∧Kr r h nx n0 h' nx'
theorem Ho{r:Key}{st:fE}{h:T ab}{nx n0:Key}(R:RO r st h nx n0)(hl:LB st):ax C cN [.ptr r 0] h nx (adu st r h nx n0):=by
 have q1:C.raw bl=false:=S.nr (by decide);have q2:C.raw aZ=false:=S.nr (by decide);have s1:=kTSu nx;have Et:=R.hi;have cL:nx≠r:=ay (by omega);refine S.sL.call ?_;simp[o8];simp[rj];simp[rk,q1];refine(HI S.iH S.cY S.bN (S.nr (by decide)) (S.nr (by decide)) (R.ext (E0 h nx _)) hl).mono ?_;rintro o h1 nx1 ⟨rfl,R1,k1⟩;have n1:=k1.1;unfold adu;rw[Qh];simp[q2];cases hs:lO st with
 |none=>
  rw[hs]at R1;obtain⟨bs,e,he,R2⟩:=R1;refine(by simpa using BU S.gi R2 (n:=0) (by omega):ax C aZ [.ptr r 0,I 0] h1 nx1 (Rn r bs e 0 h1 nx1 n0)).mono ?_;rintro o h2 aP ⟨⟨b,off,all,k,rfl,g1,g2,g3,g4⟩,R3,k2⟩;have n2:=k2.1;have hq:ae nx h2=some (.cells [] .fix):=by rw[k2.2 nx (by omega) cL,k1.2 nx (by omega) cL,gTSm]
  obtain⟨c',h',nx',g,Gl,hR,hf⟩:=Kj (q:=nx) (h:=h2) (nx:=aP) hq (by omega) [] (by simp);simp only[tU,List.length_nil]at g;rw[List.drop_zero]at R3;simp[-appendTo,g1,g];refine⟨hR,⟨bs,e,he,R3.mv hf (by omega) Gl⟩,by omega,fun p hp VZ=>?_⟩;rw[hf p (by omega) (ay (by omega)),k2.2 p (by omega) VZ,k1.2 p (by omega) VZ,al hp]
 |some p=>
  obtain⟨n,rest⟩:=p;have hle:n≤rest.length:=by
   unfold lO at hs;split at hs
   ·split at hs
    ·rename_i hh;simp only[bB,Prod.mk.injEq]at hs;obtain⟨rfl,rfl⟩:=hs;exact hh
    ·cases hs
   ·cases hs
  have alN:rest.length≤1000000:=by
   have hu:=hl.u;unfold lO at hs;cases e:uO st with
   |none=>rw[e]at hs;cases hs
   |some p=>
    rw[e]at hs hu;obtain⟨m,q⟩:=p;simp only at hs;split at hs
    ·simp only[bB,Prod.mk.injEq]at hs;obtain⟨rfl,rfl⟩:=hs;exact hu _ rfl
    ·cases hs
  rw[hs]at R1;obtain⟨R2,hb⟩:=R1;simp only at R2 hb;simp only[uV];refine(BU S.gi R2 hle).mono ?_;rintro o h2 aP ⟨⟨b,off,all,k,rfl,g1,g2,g3,g4⟩,R3,k2⟩;have n2:=k2.1;have hq:ae nx h2=some (.cells [] .fix):=by rw[k2.2 nx (by omega) cL,k1.2 nx (by omega) cL,gTSm]
  have Ju:List.take n (List.drop off (an eY all))=an eY (rest.take n):=by have e1:=bE.drop all off;have e2:=bE.take (all.drop off) n;rw[Nat.mul_one]at e1 e2;rw[e1,e2,g4]
  have bF:(rest.take n).length=n:=by rw[LF];omega
  have hz:∀H,aO (aK 9999) (an eY (rest.take n)) H=(an eY (rest.take n),H):=fun H=>aG (bE.H9 _);have hlen:n≤(an eY all).length-off:=by rw[bE.rows];omega
  have qq:=bE.EH (rest.take n);have Ls:=bE.rows (rest.take n);have vS:n≤1048576:=by omega
  have Ir:∀b∈rest.drop n,b<256:=fun b hm=>hb b (List.mem_of_mem_drop hm);have hrr:RO r (some (rest.drop n)) h2 aP n0:=⟨R3,Ir⟩;obtain⟨c',h',nx',g,Gl,hR,hf⟩:=Kj (q:=nx) (h:=h2) (nx:=aP) hq (by omega) (rest.take n) (by rw[bF];omega);rw[bF]at g;simp[-appendTo,g1,hz,hlen,Ju,g];refine⟨hR,⟨?_,Ir⟩,by omega,fun p hp VZ=>?_⟩
  ·exact R3.mv hf (by omega) Gl
  ·rw[hf p (by omega) (ay (by omega)),k2.2 p (by omega) VZ,k1.2 p (by omega) VZ,al hp]
end Ln
namespace Ln
open Go.Sx Go
variable{C:cX}(S:tq C)
include S
theorem SC(c:Nat):∀{h:T ab} {nx:Key},ax C gz [.int .u8 (.lit (c:Int))] h nx (fun o h' nx'=>o=.ret (.bool (Aj c))∧h'=h∧nx'=nx):=by
 intro h nx;refine S.w8.call ?_;simp[tI];simp[vL];have e:Aj c=(!decide ((c:Int)<97) && !decide (122<(c:Int)) || !decide ((c:Int)<65) && !decide (90<(c:Int)) || !decide ((c:Int)<48) && !decide (57<(c:Int))||decide ((c:Int)=95)):=by unfold Aj;rw[Bool.eq_iff_iff];simp;omega
 rw[e];by_cases h1:(c:Int)<97<;>by_cases h2:122<(c:Int)<;>by_cases h3:(c:Int)<65<;>by_cases h4:90<(c:Int)<;>by_cases h5:(c:Int)<48<;>by_cases h6:57<(c:Int)<;>by_cases h7:(c:Int)=95
 all_goals first|omega|simp[vN,h1,h2,h3,h4,h5,h6,h7]
theorem VG(v:Vt)(hl:v.kids.length<9223372036854775808):∀{h:T ab} {nx:Key},ax C jT [.agg (eV v)] h nx (fun o h' nx'=>o=.ret (.bool (CP v.k v.kids.length))∧Ext h nx h' nx'):=by
 intro h nx;have s1:=kTSu nx;refine S.Ai.call ?_;simp[yr];simp[yQ,ew,cZ];have e1:=E0 h nx (.cells (eV v) .fix);have b1:ae nx (ar nx (some (.cells (eV v) .fix)) h)=some (.cells (eV v) .fix):=by simp
 generalize ar nx (some (.cells (eV v) .fix)) h=h1 at *;have lz:=eV0 v;have cK:=Om v;have tP:=TV v;have e:CP v.k v.kids.length=(!decide (256<(v.kids.length:Int))&&(!decide (v.k=3) || !decide (16<(v.kids.length:Int)))):=by unfold CP;rw[Bool.eq_iff_iff];simp;omega
 rw[e];by_cases h1:256<(v.kids.length:Int)<;>by_cases h2:v.k=3<;>by_cases h3:16<(v.kids.length:Int)
 all_goals
  obtain⟨ek,em⟩|ek:=jz v.kids
  ·rw[em]at h1 h3;rw[ek]at tP
   first|(exfalso;revert h1;simp;done)|(exfalso;revert h3;simp;done)|(simp[iQ,b1,lz,cK,tP,em,bq h2];exact e1)|(simp[iQ,b1,lz,cK,tP,em,h2];exact e1)
  ·rw[ek]at tP
   first|omega|(simp[iQ,b1,lz,cK,tP,h1,h2,h3,bq h2];exact e1)|(simp[iQ,b1,lz,cK,tP,h1,h2,h3];exact e1)
end Ln
namespace Ln
open Go.Sx Go
theorem MF:∀(n c j:Nat) (h:j<(sb n c).length),(sb n c)[j]=(c >>> (8*j))%256
 |0,c,j,h=>by simp[sb]at h
 |n+1,c,0,h=>by simp[sb]
 |n+1,c,j+1,h=>by have e:=MF n (c / 256) j (by simpa[sb]using h);have:(sb (n+1) c)[j+1]=(sb n (c / 256))[j]'(by simpa[sb]using h):=rfl;rw[this,e];congr 1;rw[show c / 256=c >>> 8 by rw[Nat.shiftRight_eq_div_pow],←Nat.shiftRight_add,show 8+8*j=8*(j+1) by omega]
def aee(a b:Nat)(h:T ab)(nx:Key)(k:Nat)(aD:T AV)(h':T ab)(nx':Key):Prop:=∃j:Nat,k=a-j∧1≤j∧j≤a∧ae (K 0) aD=some (.str a b)∧ae (K 3) aD=some (I j)∧((sb a b).take j).all Aj=true∧h'=h∧nx'=nx
variable{C:cX}(S:tq C)
include S
theorem MG{a b:Nat}(hb:b<256^a):∀{h:T ab} {nx:Key},ax C fK [.str a b] h nx (fun o h' nx'=>o=.ret (.bool (qo a b))∧h'=h∧nx'=nx):=by
 intro h nx;have rN:C.raw gz=false:=S.nr (by decide);refine S.vz.call ?_;simp[rb];simp[sY];by_cases h0:a=0
 ·subst h0;have:b=0:=by simpa using hb
  subst this;simp[dA];simp[eX,qo]
 ·have h0':¬(a:Int)=0:=by omega
  have Vw:0<a:=by omega
  have ajE:b.mod 256=b%256:=rfl;have no:∀{x:Bool},qo a b=false→∀{h':T ab} {nx':Key},h'=h→nx'=nx→x=false→x=qo a b∧h'=h∧nx'=nx:=fun e _ _ e1 e2 e3=>⟨e3.trans e.symm,e1,e2⟩;by_cases h16:16<(a:Int)
  ·have hc:qo a b=false:=by unfold qo;rw[decide_eq_false (p:=a≤16) (by omega)];simp
   simp[dA,h0,h16];simp[eX,hc]
  by_cases h65:((b.mod 256:Nat):Int)<65
  ·have hc:qo a b=false:=by unfold qo;rw[decide_eq_false (p:=65≤b%256) (by omega)];simp
   simp[dA,h0,h16,Vw,h65];simp[eX,hc]
  by_cases h90:90<((b.mod 256:Nat):Int)
  ·have hc:qo a b=false:=by unfold qo;rw[decide_eq_false (p:=b%256≤90) (by omega)];simp
   simp[dA,h0,h16,Vw,h65,h90];simp[eX,hc]
  have hlen:=v9 a b;have qZ:qo a b=(sb a b).all Aj:=by unfold qo;rw[decide_eq_true (p:=0<a) Vw,decide_eq_true (p:=a≤16) (by omega),decide_eq_true (p:=65≤b%256) (by omega),decide_eq_true (p:=b%256≤90) (by omega)];simp
  simp[dA,h0,h16,Vw,h65,h90];simp[sZ];refine W.hO (n:=a-1) (aee a b h nx) ⟨1,rfl,cI _,Vw,by simp,by simp,?_,rfl,rfl⟩ ?_
  ·have e:(sb a b).take 1=[b%256]:=by
    cases a with
    |zero=>omega
    |succ a=>simp[sb]
   rw[e];simp only[List.all_cons,List.all_nil,Bool.and_true];unfold Aj;rw[decide_eq_true (p:=65≤b%256) (by omega),decide_eq_true (p:=b%256≤90) (by omega)];simp
  rintro k dT h1 nx1 ⟨j,rfl,hj1,hja,g0,g3,qq,rfl,rfl⟩;refine W.of ?_;simp[s0];by_cases eo:j<a
  ·have nK:(j:Int)<a:=by omega
   have hg:((b >>> (8*j))%256)=(sb a b)[j]'(by omega):=(MF a b j (by omega)).symm;have ht:(sb a b).take (j+1)=(sb a b).take j ++ [(sb a b)[j]'(by omega)]:=Th (by omega);have hg2:(b >>> (8*j)).mod 256=(sb a b)[j]'(by omega):=hg;simp[mi,g0,g3,nK];simp[ta,g0,g3,eo,rN,hg2];refine(SC S _).mono ?_;rintro o h2 aP ⟨rfl,rfl,rfl⟩;cases Tq:Aj ((sb a b)[j]'(by omega))with
   |false=>
    have hf:(sb a b).all Aj=false:=by rw[Bool.eq_false_iff];intro hh;have:=Gj.1 hh _ (Lt (by omega:j<(sb a b).length));rw[Tq]at this;cases this
    simp;simp[tc,qZ,hf]
   |true=>simp;simp[td,g3];rw[aJ (by omega) (by omega)];exact⟨a-(j+1),by omega,j+1,rfl,by omega,by omega,by simp[g0],by simp,by rw[ht,List.all_append,qq];simp[Tq],rfl,rfl⟩
  ·have wy:j=a:=by omega
   subst wy;rw[Hf (by omega)]at qq;simp[mi,g0,g3];simp[te,qZ,qq]
end Ln
namespace Ln
open Go.Sx Go
variable{C:cX}(S:tq C)
include S
theorem Pr(v:Vt)(hb:v.b<256^v.a):∀{h:T ab} {nx:Key},ax C eF [.agg (eV v)] h nx (fun o h' nx'=>o=.ret (.bool (iT v.k v.n v.a v.b v.kids.length))∧Ext h nx h' nx'):=by
 intro h nx;obtain⟨k,n,a,b,l⟩:=v;replace hb:b<256^a:=hb;show ax C eF [.agg (eV (.mk k n a b l))] h nx (fun o h' nx'=>o=.ret (.bool (iT k n a b l.length))∧Ext h nx h' nx');have rC:C.raw fK=false:=S.nr (by decide);have s1:=kTSu nx;refine S.w7.call ?_;simp[tH];simp[vC,ew,cZ];have e1:=E0 h nx (.cells (eV (.mk k n a b l)) .fix);have b1:ae nx (ar nx (some (.cells (eV (.mk k n a b l)) .fix)) h)=some (.cells [I k,I n,.str a b,kV l] .fix):=by rw[gTSm,qM]
 generalize ar nx (some (.cells (eV (.mk k n a b l)) .fix)) h=h1 at *;by_cases k0:k=0
 ·subst k0;simp[dN,b1];simp[dO];by_cases a0:a=0
  ·subst a0;have:b=0:=by simpa using hb
   subst this;cases l with
   |nil=>simp[jg,b1,kV,iT];exact e1
   |cons u l=>simp[jg,b1,kV,iT];exact⟨by omega,e1⟩
  ·simp[jg,b1,a0,iT];exact e1
 by_cases k1:k=1
 ·subst k1;simp[dN,b1];simp[dO];simp[fN];by_cases n0:n=0
  ·subst n0;by_cases a0:a=0
   ·subst a0;have:b=0:=by simpa using hb
    subst this;cases l with
    |nil=>simp[cH,b1,kV,iT];exact e1
    |cons u l=>simp[cH,b1,kV,iT];exact⟨by omega,e1⟩
   ·simp[cH,b1,a0,iT];exact e1
  by_cases n1:n=1
  ·subst n1;by_cases a0:a=0
   ·subst a0;have:b=0:=by simpa using hb
    subst this;cases l with
    |nil=>simp[cH,b1,kV,iT];exact e1
    |cons u l=>simp[cH,b1,kV,iT];exact⟨by omega,e1⟩
   ·simp[cH,b1,a0,iT];exact e1
  ·simp[cH,b1,n0,n1,bq n0,bq n1,iT];exact e1
 by_cases k2:k=2
 ·subst k2;simp[dN,b1];simp[dO];simp[fN];simp[jh];by_cases n0:n=0
  ·subst n0;by_cases a0:a=0
   ·subst a0;have:b=0:=by simpa using hb
    subst this;simp[ji,b1,iT];exact e1
   ·simp[ji,b1,a0,iT];exact e1
  ·simp[ji,b1,n0,bq n0,iT];exact e1
 by_cases k3:k=3
 ·subst k3;simp[dN,b1];simp[dO];simp[fN];simp[jh];simp[nu];by_cases n0:n=0
  ·subst n0;simp[nv,b1,rC];refine(MG S hb).mono ?_;rintro o h2 aP ⟨rfl,rfl,rfl⟩;simp[iT];exact e1
  ·simp[nv,b1,n0,bq n0,iT];exact e1
 ·simp[dN,b1];simp[dO,k0,bq k0];simp[fN,k1,bq k1];simp[jh,k2,bq k2];simp[nu,k3,bq k3];simp[tj,iT,k0,k1,k2,k3];exact e1
end Ln
namespace Ln
open Go.Sx Go
theorem C7:∀l m:List Vt,bS (l++m)=bS l+bS m
 | [],m=>by simp[bS]
 |v ::l,m=>by simp[bS,C7 l m,Nat.add_assoc]
theorem CQ:∀l m:List Vt,fH (l++m)=(fH l&&fH m)
 | [],m=>by simp[fH]
 |v ::l,m=>by simp[fH,CQ l m,Bool.and_assoc]
theorem HZ:∀l m:List Vt,kY (l++m)=(kY l&&kY m)
 | [],m=>by simp[kY]
 |v ::l,m=>by simp[kY,HZ l m,Bool.and_assoc]
theorem De{l:List Vt}{j:Nat}(hj:j<l.length):bS (l.take (j+1))=bS (l.take j)+bV l[j]:=by rw[Th hj,C7];simp[bS]
theorem Kw{l:List Vt}{j:Nat}(hj:j<l.length):fH (l.take (j+1))=(fH (l.take j)&&ku l[j]):=by rw[Th hj,CQ];simp[fH]
theorem Kx{l:List Vt}{j:Nat}(hj:j<l.length):kY (l.take (j+1))=(kY (l.take j)&&wc l[j]):=by rw[Th hj,HZ];simp[kY]
theorem JJ{l:List Vt}{j:Nat}:bS (l.take j)≤bS l:=by have h:=C7 (l.take j) (l.drop j);rw[List.take_append_drop]at h;omega
theorem kS:∀l:List Vt,l.length≤bS l
 | []=>by simp
 |v ::l=>by have:=kS l;rw[bS,eN,Ci];omega
theorem SV(v:Vt):ku v=(iT v.k v.n v.a v.b v.kids.length&&fH v.kids):=by cases v;rw[ku];rfl
theorem K7(v:Vt):wc v=(CP v.k v.kids.length&&kY v.kids):=by cases v;rw[wc];rfl
structure VB(bn bg bs:Key)(n:Nat)(g s:Bool)(h:T ab):Prop where
 n:ae bn h=some (.cells [I n] .fix)
 g:ae bg h=some (.cells [.bool g] .fix)
 s:ae bs h=some (.cells [.bool s] .fix)
 ng:bn≠bg
 ns:bn≠bs
 gs:bg≠bs
theorem VB.aaD{bn bg bs:Key}{n:Nat}{g s:Bool}{h:T ab}(V:VB bn bg bs n g s h)(m:Nat):VB bn bg bs m g s (ar bn (some (.cells [I m] .fix)) h):=⟨by rw[gTSm],by rw[bQ _ _ _ _ (Ne.symm V.ng)];exact V.g,by rw[bQ _ _ _ _ (Ne.symm V.ns)];exact V.s,V.ng,V.ns,V.gs⟩
theorem VB.aaE{bn bg bs:Key}{n:Nat}{g s:Bool}{h:T ab}(V:VB bn bg bs n g s h)(m:Bool):VB bn bg bs n m s (ar bg (some (.cells [.bool m] .fix)) h):=⟨by rw[bQ _ _ _ _ V.ng];exact V.n,by rw[gTSm],by rw[bQ _ _ _ _ (Ne.symm V.gs)];exact V.s,V.ng,V.ns,V.gs⟩
theorem VB.S9{bn bg bs:Key}{n:Nat}{g s:Bool}{h:T ab}(V:VB bn bg bs n g s h)(m:Bool):VB bn bg bs n g m (ar bs (some (.cells [.bool m] .fix)) h):=⟨by rw[bQ _ _ _ _ V.ns];exact V.n,by rw[bQ _ _ _ _ V.gs];exact V.g,by rw[gTSm],V.ng,V.ns,V.gs⟩
theorem VB.ext{bn bg bs:Key}{n:Nat}{g s:Bool}{h h':T ab}{nx nx':Key}(V:VB bn bg bs n g s h)(e:Ext h nx h' nx')(l1:bn.toNat<nx.toNat)(l2:bg.toNat<nx.toNat)(l3:bs.toNat<nx.toNat):VB bn bg bs n g s h':=⟨by rw[e.g _ l1];exact V.n,by rw[e.g _ l2];exact V.g,by rw[e.g _ l3];exact V.s,V.ng,V.ns,V.gs⟩
def zC(bn bg bs:Key)(h:T ab)(nx:Key)(h':T ab)(nx':Key):Prop:=nx.toNat≤nx'.toNat∧∀b:Key,b.toNat<nx.toNat→b≠bn→b≠bg→b≠bs→ae b h'=ae b h
theorem zC.refl(bn bg bs:Key)(h:T ab)(nx:Key):zC bn bg bs h nx h nx:=⟨cI _,fun _ _ _ _ _=>rfl⟩
theorem zC.trans{bn bg bs:Key}{h h1 h2:T ab}{nx nx1 aP:Key}(a:zC bn bg bs h nx h1 nx1)(b:zC bn bg bs h1 nx1 h2 aP):zC bn bg bs h nx h2 aP:=⟨Nat.le_trans a.1 b.1,fun q h1 h2 h3 h4=>by rw[b.2 q (by have:=a.1;omega) h2 h3 h4,a.2 q h1 h2 h3 h4]⟩
theorem zC.of{bn bg bs:Key}{h h':T ab}{nx nx':Key}(e:Ext h nx h' nx'):zC bn bg bs h nx h' nx':=⟨e.n,fun b hb _ _ _=>e.g b hb⟩
theorem zC.aaD{bn bg bs:Key}{B:Option ab}{h:T ab}{nx:Key}:zC bn bg bs h nx (ar bn B h) nx:=⟨cI _,fun _ _ h1 _ _=>bQ _ _ _ _ h1⟩
theorem zC.aaE{bn bg bs:Key}{B:Option ab}{h:T ab}{nx:Key}:zC bn bg bs h nx (ar bg B h) nx:=⟨cI _,fun _ _ _ h1 _=>bQ _ _ _ _ h1⟩
theorem zC.S9{bn bg bs:Key}{B:Option ab}{h:T ab}{nx:Key}:zC bn bg bs h nx (ar bs B h) nx:=⟨cI _,fun _ _ _ _ h1=>bQ _ _ _ _ h1⟩
variable{C:cX}(S:tq C)
include S
theorem aaw{bn bg bs:Key}{n:Nat}{s:Bool}{v:Vt}(hb:v.b<256^v.a)(hm:v.kids.length<1000000)(hn:n<1000000){d:Int}{h:T ab}{nx:Key}(V:VB bn bg bs n true s h)(l1:bn.toNat<nx.toNat)(l2:bg.toNat<nx.toNat)(l3:bs.toNat<nx.toNat) :
  ax C dx [.agg (eV v),I d,.ptr bn 0,.ptr bg 0,.ptr bs 0] h nx (fun o h' nx'=>o=.ret (.bool (iT v.k v.n v.a v.b v.kids.length))∧VB bn bg bs (n+1) (iT v.k v.n v.a v.b v.kids.length) (s&&CP v.k v.kids.length) h'∧zC bn bg bs h nx h' nx'):=by
 have rF:C.raw eF=false:=S.nr (by decide);have rG:C.raw jT=false:=S.nr (by decide);have s1:=kTSu nx;refine S.sV.call ?_;simp[o9];simp[r8,ew,cZ];have e1:=E0 h nx (.cells (eV v) .fix);have b1:ae nx (ar nx (some (.cells (eV v) .fix)) h)=some (.cells (eV v) .fix):=by simp
 have V1:=V.ext e1 l1 l2 l3;have F1:zC bn bg bs h nx _ _:=zC.of e1;generalize ar nx (some (.cells (eV v) .fix)) h=h1 at *;have hw:aX .i64 ((n:Int)+1)=(n:Int)+1:=aJ (by omega) (by omega);simp[r9,V1.n,hw];have V2:VB bn bg bs (n+1) true s (ar bn (some (.cells [I ((n:Int)+1)] .fix)) h1):=V1.aaD (n+1);have F2:=F1.trans (zC.aaD (bn:=bn) (bg:=bg) (bs:=bs) (B:=some (.cells [I ((n:Int)+1)] .fix)));have b2:ae nx (ar bn (some (.cells [I ((n:Int)+1)] .fix)) h1)=some (.cells (eV v) .fix):=by rw[bQ _ _ _ _ (ay (by omega))];exact b1
 generalize ar bn (some (.cells [I ((n:Int)+1)] .fix)) h1=h2 at *;simp[sc,V2.g,b2,cZ,dI,rF,DM];refine(Pr S v hb).mono ?_;rintro o h3 bu ⟨rfl,e3⟩;have n3:=e3.n;have V3:=V2.ext e3 (by omega) (by omega) (by omega);have F3:=F2.trans (zC.of e3);have b3:ae nx h3=some (.cells (eV v) .fix):=by rw[e3.g nx (by omega)];exact b2
 generalize iT v.k v.n v.a v.b v.kids.length=g at *;simp[V3.g];have V4:=V3.aaE g;have F4:=F3.trans (zC.aaE (bn:=bn) (bg:=bg) (bs:=bs) (B:=some (.cells [.bool g] .fix)));have b4:ae nx (ar bg (some (.cells [.bool g] .fix)) h3)=some (.cells (eV v) .fix):=by rw[bQ _ _ _ _ (ay (by omega))];exact b3
 generalize ar bg (some (.cells [.bool g] .fix)) h3=h4 at *;cases s with
 |false=>simp[kL,V4.s];have V5:=V4.S9 false;have F5:=F4.trans (zC.S9 (bn:=bn) (bg:=bg) (bs:=bs) (B:=some (.cells [.bool false] .fix)));generalize ar bs (some (.cells [.bool false] .fix)) h4=h5 at *;simp[kM,V5.g];exact⟨V5,F5⟩
 |true=>simp[kL,V4.s,b4,cZ,dI,rG,DM];refine(VG S v (by omega)).mono ?_;rintro o h5 Dd ⟨rfl,e5⟩;have n5:=e5.n;have V5:=V4.ext e5 (by omega) (by omega) (by omega);have F5:=F4.trans (zC.of e5);generalize CP v.k v.kids.length=t at *;simp[V5.s];have V6:=V5.S9 t;have F6:=F5.trans (zC.S9 (bn:=bn) (bg:=bg) (bs:=bs) (B:=some (.cells [.bool t] .fix)));generalize ar bs (some (.cells [.bool t] .fix)) h5=h6 at *;simp[kM,V6.g];exact⟨V6,F6⟩
end Ln
namespace Ln
open Go.Sx Go
def Xm(bn bg bs:Key):AV:=.fn dx [] [.ptr bn 0,.ptr bg 0,.ptr bs 0]
def fnW(se wa:Key):AV:=.fn bK [] [.ptr se 0,.ptr wa 0]
structure VW(bn bg bs se wa:Key)(n:Nat)(g s:Bool)(h:T ab):Prop where
 v:VB bn bg bs n g s h
 ge:ae se h=some (.cells [Xm bn bg bs] .fix)
 gw:ae wa h=some (.cells [fnW se wa] .fix)
 s1:se≠bn
 s2:se≠bg
 s3:se≠bs
 w1:wa≠bn
 w2:wa≠bg
 w3:wa≠bs
structure VL(bn bg bs se wa nx:Key):Prop where
 n:bn.toNat<nx.toNat
 g:bg.toNat<nx.toNat
 s:bs.toNat<nx.toNat
 e:se.toNat<nx.toNat
 w:wa.toNat<nx.toNat
theorem VL.up{bn bg bs se wa nx nx':Key}(L:VL bn bg bs se wa nx)(h:nx.toNat≤nx'.toNat):VL bn bg bs se wa nx':=⟨by have:=L.n;omega,by have:=L.g;omega,by have:=L.s;omega,by have:=L.e;omega,by have:=L.w;omega⟩
theorem VW.ext{bn bg bs se wa:Key}{n:Nat}{g s:Bool}{h h':T ab}{nx nx':Key}(V:VW bn bg bs se wa n g s h)(L:VL bn bg bs se wa nx)(e:Ext h nx h' nx'):VW bn bg bs se wa n g s h':=⟨V.v.ext e L.n L.g L.s,by rw[e.g _ L.e];exact V.ge,by rw[e.g _ L.w];exact V.gw,V.s1,V.s2,V.s3,V.w1,V.w2,V.w3⟩
theorem VW.of3{bn bg bs se wa:Key}{n m:Nat}{g s g' s':Bool}{h h':T ab}{nx nx':Key}(V:VW bn bg bs se wa n g s h)(L:VL bn bg bs se wa nx)(F:zC bn bg bs h nx h' nx')(B:VB bn bg bs m g' s' h'):VW bn bg bs se wa m g' s' h':=⟨B,by rw[F.2 _ L.e V.s1 V.s2 V.s3];exact V.ge,by rw[F.2 _ L.w V.w1 V.w2 V.w3];exact V.gw,V.s1,V.s2,V.s3,V.w1,V.w2,V.w3⟩
def Z3(bn bg bs se wa:Key)(n:Nat)(s:Bool)(fr ft:Bool)(sz:Nat)(h:T ab)(nx:Key)(o:Out)(h':T ab)(nx':Key):Prop:=o=.ret (.bool fr)∧(∃n' s',VW bn bg bs se wa n' fr s' h'∧(fr=true→n'=n+sz∧s'=(s&&ft)))∧zC bn bg bs h nx h' nx'
def Xn(bn bg bs se wa:Key)(v:Vt)(d:Int)(n:Nat)(s:Bool)(h:T ab)(nx:Key)(k:Nat)(aD:T AV)(h':T ab)(nx':Key):Prop:=∃j:Nat,k=v.kids.length-j∧j≤v.kids.length∧ae (K 1) aD=some (I d)∧ae (K 3) aD=some (.ptr wa 0)∧ae (K 15) aD=some (kV v.kids)∧ae (K 16) aD=some (I v.kids.length)∧ae (K 17) aD=some (I j)∧fH (v.kids.take j)=true∧VW bn bg bs se wa (n+bS (v.kids.take j)) true (s&&kY (v.kids.take j)) h'∧zC bn bg bs h nx h' nx'
variable{C:cX}(S:tq C)
include S
theorem Ry{bn bg bs se wa:Key}{v:Vt}{d:Int}{n:Nat}{s:Bool}(hd:0≤d∧d<2000000)(hn:n+bS v.kids<1000000)
  (hv:∀u∈v.kids,∀{n:Nat} {s:Bool} {h:T ab} {nx:Key},VW bn bg bs se wa n true s h→VL bn bg bs se wa nx→n+bV u<1000000→ax C bK [.agg (eV u),I (d+1),.ptr se 0,.ptr wa 0] h nx (Z3 bn bg bs se wa n s (ku u) (wc u) (bV u) h nx))
  {h:T ab} {nx:Key} (L:VL bn bg bs se wa nx) {Q:cu} {m:Nat} {tm:T AV} {h1:T ab} {nx1:Key} (A:Xn bn bg bs se wa v d n s h nx m tm h1 nx1)
  (xS:∀aD h' nx',fH v.kids=true→VW bn bg bs se wa (n+bS v.kids) true (s&&kY v.kids) h'→zC bn bg bs h nx h' nx'→Q .norm aD h' nx')
  (P6:∀aD h' nx',fH v.kids=false→ae (K 6) aD=some (.bool false)→(∃n' s',VW bn bg bs se wa n' false s' h')→zC bn bg bs h nx h' nx'→Q .ret aD h' nx') :
  W C (.loop kI) (cz 0 Q) tm h1 nx1:=by
 have rV:C.raw bK=false:=S.nr (by decide);have Cr:=kS v.kids;refine W.hO (Xn bn bg bs se wa v d n s h nx) A ?_;rintro m dT h2 aP ⟨j,rfl,hj,g1,g3,Tx,OT,g17,GB,V,F⟩;refine W.of ?_;simp[kI];by_cases eo:j<v.kids.length
 ·have nK:(j:Int)<v.kids.length:=by omega
  have hR:=(jz v.kids).rd h2 aP;have s2:=kTSu aP;have jM:=Lt eo;have JM:=ew v.kids[j];have Gm:=cZ v.kids[j];have Oq:=dI v.kids[j];have hdU:List.drop 4 [AV.int .i64 (.lit 0),.int .i64 (.lit 0),.str 0 0,.nils]=[]:=rfl;have h1s:=De eo;have h2s:=Kw eo;have h3s:=Kx eo;have hle:=JJ (l:=v.kids) (j:=j+1);have hw:aX .i64 (d+1)=d+1:=aJ (by omega) (by omega);have L2:=L.up F.1;simp[kJ,OT,g17,nK];simp only[rn,hU,jk,jl,hZ,jm,ia,jn,jo,ib,ic,jq,jr,js,jt];simp[↓hR.ix dq eo,Tx,g17,JM,Gm];have e1:=E0 h2 aP (.cells (eV v.kids[j]) .fix);have V1:=V.ext L2 e1;have F1:=F.trans (zC.of e1);have b1:ae aP (ar aP (some (.cells (eV v.kids[j]) .fix)) h2)=some (.cells (eV v.kids[j]) .fix):=by simp
  generalize ar aP (some (.cells (eV v.kids[j]) .fix)) h2=h3 at *;simp[rp,g1,g3,V1.gw,b1,Gm,Oq,hw,rV,DM,fnW];refine(hv _ jM V1 (L2.up e1.n) (by omega)).mono ?_;rintro o h4 sw ⟨rfl,⟨n',s',V4,hgo⟩,F4⟩;have F5:=F1.trans F4;cases hfu:ku v.kids[j]with
  |false=>simp;simp[rq];rw[hfu]at V4;exact P6 _ _ _ (by rw[←List.take_append_drop (j+1) v.kids,CQ,h2s,hfu];simp) (by simp) ⟨n',s',V4⟩ F5
  |true=>obtain⟨rfl,rfl⟩:=hgo hfu;rw[hfu]at V4;simp;simp[ru,g17];rw[aJ (by omega) (by omega)];refine⟨v.kids.length-(j+1),by omega,j+1,rfl,by omega,by simp[g1],by simp[g3],by simp[Tx],by simp[OT],by simp,by rw[h2s,GB,hfu];rfl,?_,F5⟩;rw[h1s,h3s,←Bool.and_assoc,←Nat.add_assoc];exact V4
 ·have wy:j=v.kids.length:=by omega
  subst wy;rw[List.take_length]at V GB;simp[kJ,OT,g17];exact xS _ _ _ GB V F
end Ln
namespace Ln
open Go.Sx Go
def ajL(bn bg bs:Key)(n:Nat)(s:Bool)(v:Vt)(h:T ab)(nx:Key)(o:Out)(h':T ab)(nx':Key):Prop:=o=.ret (.tuple [])∧(∃n' s',VB bn bg bs n' (ku v) s' h'∧(ku v=true→n'=n+bV v∧s'=(s&&wc v)))∧zC bn bg bs h nx h' nx'
variable{C:cX}(S:tq C)
include S
theorem XE:∀(N:Nat) {v:Vt},bV v≤N→DN v→∀{d:Int},0≤d→d+N<2000000→∀{bn bg bs se wa:Key} {n:Nat} {s:Bool} {h:T ab} {nx:Key},VW bn bg bs se wa n true s h→VL bn bg bs se wa nx→n+bV v<1000000→ax C bK [.agg (eV v),I d,.ptr se 0,.ptr wa 0] h nx (Z3 bn bg bs se wa n s (ku v) (wc v) (bV v) h nx)
 |0,v,hs,_,_,_,_,_,_,_,_,_,_,_,_,_,_,_,_=>by rw[eN]at hs;omega
 |N+1,v,hs,hi,d,hd0,hd,bn,bg,bs,se,wa,n,s,h,nx,V,L,hn=>by
  obtain⟨i1,i2,i3,i4,i5⟩:=Il hi;rw[eN]at hs hn;have Cr:=kS v.kids;have rS:C.raw dx=false:=S.nr (by decide);have s1:=kTSu nx;have hv:∀u∈v.kids,∀{n:Nat} {s:Bool} {h:T ab} {nx:Key},VW bn bg bs se wa n true s h→VL bn bg bs se wa nx→n+bV u<1000000→ax C bK [.agg (eV u),I (d+1),.ptr se 0,.ptr wa 0] h nx (Z3 bn bg bs se wa n s (ku u) (wc u) (bV u) h nx):=fun u hu {n s h nx} V L hn=>XE N (by have:=kT hu;omega) (xT i5 hu) (by omega) (by omega) V L hn;refine S.sW.call ?_;simp[pg];simp[rQ,ew,cZ];have e1:=E0 h nx (.cells (eV v) .fix);have b1:ae nx (ar nx (some (.cells (eV v) .fix)) h)=some (.cells (eV v) .fix):=by simp
  have V1:=V.ext L e1;have L1:=L.up e1.n;generalize ar nx (some (.cells (eV v) .fix)) h=h1 at *;simp[rU,V1.ge,b1,cZ,dI,rS,DM,Xm];refine(aaw S i4 (by omega) (by omega) V1.v L1.n L1.g L1.s).mono ?_;rintro o h2 aP ⟨rfl,V2,F2⟩;have V3:=V1.of3 L1 F2 V2;have F3:=(zC.of e1).trans F2;have b2:ae nx h2=some (.cells (eV v) .fix):=by have:=L.n;have:=L.g;have:=L.s;rw[F2.2 nx (by omega) (ay (by omega)) (ay (by omega)) (ay (by omega))];exact b1
  have GB:=SV v;have XX:=K7 v;have oq:=eN v;cases hg:iT v.k v.n v.a v.b v.kids.length with
  |false=>rw[hg]at V3 GB;rw[Bool.false_and]at GB;simp;simp[rX];rw[GB];exact⟨rfl,⟨_,_,V3,fun h=>by cases h⟩,F3⟩
  |true=>
   rw[hg]at V3 GB;rw[Bool.true_and]at GB;have tP:=TV v;have hR:=(jz v.kids).rd h2 aP;simp;simp[↓hR.ln,rY,b2,tP];have L2:=L.up F3.1;refine Ry S (v:=v) (d:=d) (n:=n+1) (s:=s&&CP v.k v.kids.length) ⟨hd0,by omega⟩ (by omega) hv L2 (h:=h2) (nx:=aP) (m:=v.kids.length) ⟨0,by simp,by omega,by simp,by simp,by simp,by simp,by simp,by simp[fH],by simpa[bS,kY]using V3,zC.refl _ _ _ _ _⟩ ?_ ?_
   ·intro aD h' nx' f1 V4 F4;simp[rZ];rw[GB,f1];refine⟨rfl,⟨_,_,V4,fun _=>⟨by omega,by rw[XX,Bool.and_assoc]⟩⟩,F3.trans F4⟩
   ·intro aD h' nx' f1 f6 ⟨n',s',V4⟩ F4;simp[f6];rw[GB,f1];exact⟨rfl,⟨n',s',V4,fun h=>by cases h⟩,F3.trans F4⟩
theorem SW{v:Vt}(hi:DN v){bn bg bs:Key}{n:Nat}{s:Bool}{h:T ab}{nx:Key}(V:VB bn bg bs n true s h)(l1:bn.toNat<nx.toNat)(l2:bg.toNat<nx.toNat)(l3:bs.toNat<nx.toNat)(hn:n+bV v<1000000) :
  ax C iG [.agg (eV v),Xm bn bg bs] h nx (ajL bn bg bs n s v h nx):=by
 have rW:C.raw bK=false:=S.nr (by decide);have s1:=kTSu nx;have s2:=kTSu nx.succ;have s3:=kTSu nx.succ.succ;refine S.yN.call ?_;simp[wj];simp[w9,ew,cZ,Xm];simp[xa];simp[xb];obtain⟨H,hH⟩:∃H,H=ar nx.succ.succ (some (.cells [fnW nx.succ nx.succ.succ] .fix)) (ar nx.succ (some (.cells [Xm bn bg bs] .fix)) (ar nx (some (.cells (eV v) .fix)) h)):=⟨_,rfl⟩;have b1:ae nx H=some (.cells (eV v) .fix):=by rw[hH,al (by omega),al (by omega),gTSm]
 have b2:ae nx.succ H=some (.cells [Xm bn bg bs] .fix):=by rw[hH,al (by omega),gTSm]
 have b3:ae nx.succ.succ H=some (.cells [fnW nx.succ nx.succ.succ] .fix):=by rw[hH,gTSm]
 have e:Ext h nx H nx.succ.succ.succ:=⟨by omega,fun b hb=>by rw[hH,al (by omega),al (by omega),al hb]⟩;have V1:=V.ext e l1 l2 l3;have VW1:VW bn bg bs nx.succ nx.succ.succ n true s H:=⟨V1,b2,b3,ay (by omega),ay (by omega),ay (by omega),ay (by omega),ay (by omega),ay (by omega)⟩;unfold fnW Xm at hH;unfold fnW at b3;rw[←hH];simp[xc,b1,b3,cZ,dI,rW,DM];refine(XE S (bV v) (cI _) hi (d:=1) (by omega) (by omega) VW1 ⟨by omega,by omega,by omega,by omega,by omega⟩ hn).mono ?_;rintro o h2 aP ⟨rfl,⟨n',s',V2,hh⟩,F2⟩;simp;exact⟨rfl,⟨n',s',V2.v,hh⟩,(zC.of e).trans F2⟩
theorem JT{v:Vt}(hi:DN v)(hs:bV v<900000){h:T ab}{nx:Key}:ax C dU [.agg (eV v)] h nx (fun o h' nx'=>o=.ret (I (Io v))∧Ext h nx h' nx'):=by
 have rV:C.raw iG=false:=S.nr (by decide);have s1:=kTSu nx;have s2:=kTSu nx.succ;have s3:=kTSu nx.succ.succ;have s4:=kTSu nx.succ.succ.succ;refine S.yM.call ?_;simp[wi];simp[xd,ew,cZ];simp[xe];obtain⟨H,hH⟩:∃H,H=ar nx.succ.succ.succ (some (.cells [.bool true] .fix)) (ar nx.succ.succ (some (.cells [.bool true] .fix)) (ar nx.succ (some (.cells [.int .i64 (.lit 0)] .fix)) (ar nx.succ.succ.succ (some (.cells [.bool false] .fix)) (ar nx.succ.succ (some (.cells [.bool false] .fix)) (ar nx.succ (some (.cells [.int .i64 (.lit 0)] .fix)) (ar nx (some (.cells (eV v) .fix)) h)))))):=⟨_,rfl⟩;have b0:ae nx H=some (.cells (eV v) .fix):=by rw[hH,al (by omega),al (by omega),al (by omega),al (by omega),al (by omega),al (by omega),gTSm]
 have V:VB nx.succ nx.succ.succ nx.succ.succ.succ 0 true true H:=⟨by rw[hH,al (by omega),al (by omega),gTSm];rfl,by rw[hH,al (by omega),gTSm],by rw[hH,gTSm],ay (by omega),ay (by omega),ay (by omega)⟩;have e:Ext h nx H nx.succ.succ.succ.succ:=⟨by omega,fun b hb=>by rw[hH,al (by omega),al (by omega),al (by omega),al (by omega),al (by omega),al (by omega),al hb]⟩;rw[←hH];have key:=SW S hi V (by omega) (by omega) (by omega) (n:=0) (nx:=nx.succ.succ.succ.succ) (by omega);unfold Xm at key;simp[xf,b0,cZ,dI,rV,DM];refine key.mono ?_;rintro o h2 aP ⟨rfl,⟨n',s',V2,hh⟩,F2⟩;have e2:Ext h nx h2 aP:=⟨by have:=F2.1;omega,fun b hb=>by rw[F2.2 b (by omega) (ay (by omega)) (ay (by omega)) (ay (by omega)),e.g b hb]⟩;have iR:Io v=if ku v=true then(if wc v=true∧bV v≤1024 then 0 else 4)else 1:=rfl
 rw[iR];cases hf:ku v with
 |false=>rw[hf]at V2;simp[pr,V2.g];simp[xg];exact e2
 |true=>
  obtain⟨rfl,rfl⟩:=hh hf;rw[hf]at V2;simp[pr,V2.g];cases hw:wc v with
  |false=>rw[hw]at V2;simp[ko,V2.s];simp[pt];exact e2
  |true=>
   rw[hw]at V2;by_cases hc:bV v≤1024
   ·have Nb:¬1024<(bV v:Int):=by omega
    have n2:=V2.n;simp at n2;simp[ko,V2.s,n2,Nb];simp[xh,hc];exact e2
   ·have Nb:1024<(bV v:Int):=by omega
    have n2:=V2.n;simp at n2;simp[ko,V2.s,n2,Nb];simp[pt,hc];exact e2
end Ln
namespace Ln
open Go.Sx Go
theorem RS.low{r:Key}{bs:List Nat}{e:Int}{h h':T ab}{nx nx' n0:Key}(R:RS r bs e h nx n0)(hf:∀b:Key,b.toNat≤r.toNat→ae b h'=ae b h)(hn:nx.toNat≤nx'.toNat):RS r bs e h' nx' n0:=by obtain⟨r1,r2,b2,ZM,ZN,k3,a1,a2,a3,a4,a5,a6,a7,a9⟩:=R;exact⟨r1,by omega,b2,ZM,ZN,k3,by rw[hf r (by omega)];exact a1,by rw[hf b2 (by omega)];exact a2,a3,a4,a5,a6,by omega,a9⟩
theorem RO.low{r:Key}{st:Option (List Nat)}{h h':T ab}{nx nx' n0:Key}(R:RO r st h nx n0)(hf:∀b:Key,b.toNat≤r.toNat→ae b h'=ae b h)(hn:nx.toNat≤nx'.toNat):RO r st h' nx' n0:=by
 cases st with
 |none=>obtain⟨bs,e,he,R⟩:=R;exact⟨bs,e,he,R.low hf hn⟩
 |some bs=>exact⟨R.1.low hf hn,R.2⟩
structure DS(d r:Key)(st:fE)(p:Nat)(h:T ab)(nx n0:Key):Prop where
 D:ae d h=some (.cells [.ptr r 0,I p] .fix)
 R:RO r st h nx n0
 rd:r.toNat<d.toNat
 dn:d.toNat<nx.toNat
 lb:LB st
theorem DS.low{d r:Key}{st:fE}{p:Nat}{h h':T ab}{nx nx' n0:Key}(A:DS d r st p h nx n0)(hf:∀b:Key,b.toNat≤d.toNat→ae b h'=ae b h)(hn:nx.toNat≤nx'.toNat):DS d r st p h' nx' n0:=
 ⟨by rw[hf d (cI _)];exact A.D,A.R.low (fun b hb=>hf b (by have:=A.rd;omega)) hn,A.rd,by have:=A.dn;omega,A.lb⟩
theorem DS.ext{d r:Key}{st:fE}{p:Nat}{h h':T ab}{nx nx' n0:Key}(A:DS d r st p h nx n0)(e:Ext h nx h' nx'):DS d r st p h' nx' n0:=A.low (fun b hb=>e.g b (by have:=A.dn;omega)) e.n
theorem DS.aiV{d r:Key}{st:fE}{p:Nat}{h:T ab}{nx n0:Key}(A:DS d r st p h nx n0)(q:Nat):DS d r st q (ar d (some (.cells [.ptr r 0,I q] .fix)) h) nx n0:=
 ⟨gTSm ..,A.R.low (fun b hb=>bQ _ _ _ _ (ay (by have:=A.rd;omega))) (cI _),A.rd,A.dn,A.lb⟩
theorem DS.rdr{d r:Key}{st st':fE}{p:Nat}{h h':T ab}{nx nx' n0:Key}(A:DS d r st p h nx n0)(R:RO r st' h' nx' n0)(k:Kr r h nx n0 h' nx')(hl:LB st'):DS d r st' p h' nx' n0:=
 ⟨by rw[k.2 d A.dn (ay (by have:=A.rd;omega))];exact A.D,R,A.rd,by have:=A.dn;have:=k.1;omega,hl⟩
def xu(d r:Key)(h:T ab)(nx:Key)(h':T ab)(nx':Key):Prop:=nx.toNat≤nx'.toNat∧∀b:Key,b.toNat<nx.toNat→b≠d→b≠r→ae b h'=ae b h
theorem xu.refl(d r:Key)(h:T ab)(nx:Key):xu d r h nx h nx:=⟨cI _,fun _ _ _ _=>rfl⟩
theorem xu.trans{d r:Key}{h h1 h2:T ab}{nx nx1 aP:Key}(a:xu d r h nx h1 nx1)(b:xu d r h1 nx1 h2 aP):xu d r h nx h2 aP:=⟨Nat.le_trans a.1 b.1,fun q h1 h2 h3=>by rw[b.2 q (by have:=a.1;omega) h2 h3,a.2 q h1 h2 h3]⟩
theorem xu.of{d r:Key}{h h':T ab}{nx nx':Key}(e:Ext h nx h' nx'):xu d r h nx h' nx':=⟨e.n,fun b hb _ _=>e.g b hb⟩
theorem xu.aiW{d r:Key}{B:Option ab}{h:T ab}{nx:Key}:xu d r h nx (ar d B h) nx:=⟨cI _,fun _ _ h1 _=>bQ _ _ _ _ h1⟩
theorem xu.ofK{d r:Key}{h h':T ab}{nx nx' n0:Key}(k:Kr r h nx n0 h' nx'):xu d r h nx h' nx':=⟨k.1,fun b hb _ h2=>k.2 b hb h2⟩
theorem xu.put{d r:Key}{h h':T ab}{nx nx':Key}(F:xu d r h nx h' nx'){b:Key}(hb:nx.toNat≤b.toNat)(B:Option ab):xu d r h nx (ar b B h') nx':=⟨F.1,fun q hq h1 h2=>by rw[al (by omega)];exact F.2 q hq h1 h2⟩
def OW(x:Option (Vt×Nat×fE))(d r:Key)(h:T ab)(nx n0:Key)(o:Out)(h':T ab)(nx':Key):Prop:=(match x with
 |some (v,p',st')=>o=.ret (.tuple [.agg (eV v),.bool true])∧DS d r st' p' h' nx' n0
 |none=>∃v,o=.ret (.tuple [.agg (eV v),.bool false]))∧xu d r h nx h' nx'
variable{C:cX}(S:tq C)
include S
theorem IX{d r:Key}{st:fE}{p:Nat}{h:T ab}{nx n0:Key}(A:DS d r st p h nx n0):ax C aR [.ptr r 0] h nx (fun o h' nx'=>o=.ret (I (rI st).1)∧DS d r (rI st).2 p h' nx' n0∧xu d r h nx h' nx'):=by refine(Cp S.hP S.cY S.bN (S.nr (by decide)) (S.nr (by decide)) A.R A.lb).mono ?_;rintro o h1 nx1 ⟨rfl,R1,k1⟩;have hl:=A.lb.i;rw[MV]at hl ⊢;exact⟨rfl,A.rdr R1 k1 hl,xu.ofK k1⟩
theorem RD{d r:Key}{st:fE}{p:Nat}{h:T ab}{nx n0:Key}(A:DS d r st p h nx n0):ax C df [.ptr r 0] h nx (fun o h' nx'=>o=.ret (.bool (rB st).1)∧DS d r (rB st).2 p h' nx' n0∧xu d r h nx h' nx'):=by refine(Mm S A.R).mono ?_;rintro o h1 nx1 ⟨rfl,R1,k1⟩;exact⟨rfl,A.rdr R1 k1 A.lb.b,xu.ofK k1⟩
theorem RE{d r:Key}{st:fE}{p:Nat}{h:T ab}{nx n0:Key}(A:DS d r st p h nx n0):ax C cn [.ptr r 0] h nx (fun o h' nx'=>o=.ret (.str (rR st).1.length (ub (rR st).1))∧DS d r (rR st).2 p h' nx' n0∧xu d r h nx h' nx'):=by refine(Vg S.rO S.iH S.gi S.cY S.bN (S.nr (by decide)) (S.nr (by decide)) (S.nr (by decide)) (S.nr (by decide)) A.R A.lb).mono ?_;rintro o h1 nx1 ⟨rfl,R1,k1⟩;obtain⟨e1,e2⟩:=abZ st;rw[e2]at R1;rw[e1];exact⟨rfl,A.rdr R1 k1 A.lb.r,xu.ofK k1⟩
end Ln
namespace Ln
open Go.Sx Go
structure KR(c:AV)(us:List Vt)(h:T ab)(nx n1:Key):Prop where
 A:App c (an eV us) us.length 4 h nx n1
 z:us=[]→c=.nils
theorem KR.nil(h:T ab)(nx n1:Key):KR .nils [] h nx n1:=⟨App.nil 4,fun _=>rfl⟩
theorem KR.fz{c:AV}{us:List Vt}{h:T ab}{nx n1:Key}(g:KR c us h nx n1)(n:Nat):(aK (n+1) c h).1=kV us∧∀b:Key,b.toNat<n1.toNat→ae b (aK (n+1) c h).2=ae b h:=by
 obtain⟨h1,h2⟩:=g.A.OJ (dq.H9 us) n;refine⟨?_,h2⟩;cases us with
 |nil=>rw[g.z rfl,kV];rfl
 |cons v l=>
  rcases h1 with⟨_,_,e⟩|e
  ·simp at e
  ·rw[e,kV,FM,db];rfl
theorem KR.low{c:AV}{us:List Vt}{d r:Key}{st:fE}{p:Nat}{h h':T ab}{nx nx' n1 n0:Key}(g:KR c us h nx n1)(D:DS d r st p h nx n0)(F:xu d r h nx h' nx'):KR c us h' nx' n1:=by
 refine⟨g.A.tY F.1 fun b hb hx=>F.2 b hb ?_ ?_,g.z⟩
 ·rintro rfl;rw[D.D]at hx;rcases hx with hx|⟨l,hx⟩<;>simp at hx
 ·rintro rfl;have hR:∃x y,ae b h=some (.cells [x,y] .fix):=by
   have:=D.R;cases st with
   |none=>obtain⟨bs,e,he,R⟩:=this;obtain⟨_,_,_,_,_,_,a1,_⟩:=R;exact⟨_,_,a1⟩
   |some bs=>obtain⟨R,_⟩:=this;obtain⟨_,_,_,_,_,_,a1,_⟩:=R;exact⟨_,_,a1⟩
  obtain⟨x,y,hR⟩:=hR;rw[hR]at hx;rcases hx with hx|⟨l,hx⟩<;>simp at hx
def Xp(us:List Vt):Option (List Vt×Nat×fE)→Option (List Vt×Nat×fE)
 |none=>none
 |some (l,p,s)=>some (us++l,p,s)
def z4:List AV:=[.int .i64 (.lit 0),.int .i64 (.lit 0),.str 0 0,.nils]
def Xw(d r o1 v1:Key)(f n:Nat)(X:Option (List Vt×Nat×fE))(k:Int)(a b:Nat)(h:T ab)(nx n0:Key)(m:Nat)(aD:T AV)(h':T ab)(nx':Key):Prop:=
 ∃(j:Nat) (us:List Vt) (c:AV) (p:Nat) (st:fE),m=n-j∧j≤n∧us.length=j∧ae (K 0) aD=some (.ptr d 0)∧ae (K 2) aD=some (.ptr o1 0)∧ae (K 4) aD=some (.ptr v1 0)∧ae (K 70) aD=some (I n)∧ae (K 71) aD=some (I j)∧
  ae o1 h'=some (.cells z4 .fix)∧ae v1 h'=some (.cells [I k,I 0,.str a b,c] .fix)∧o1.toNat<nx'.toNat∧v1.toNat<nx'.toNat∧KR c us h' nx' nx∧DS d r st p h' nx' n0∧p≤1024∧1025≤f+p∧X=Xp us (nf (vR f) (n-j) p st)∧xu d r h nx h' nx'
theorem Vi(us m:List Vt)(x:Option (List Vt×Nat×fE)):Xp us (Xp m x)=Xp (us++m) x:=by
 cases x with
 |none=>rfl
 |some w=>obtain⟨l,p,s⟩:=w;simp[Xp]
theorem Ph(g:Nat→fE→Option (Vt×Nat×fE))(m p:Nat)(s:fE):nf g (m+1) p s=(match g p s with|none=>none|some (v,p',s')=>Xp [v] (nf g m p' s')):=by
 rw[nf];cases g p s with
 |none=>rfl
 |some w=>
  obtain⟨v,p',s'⟩:=w;simp only;cases nf g m p' s' with
  |none=>rfl
  |some w=>obtain⟨l,q,t⟩:=w;rfl
variable{C:cX}(S:tq C)
include S
theorem RC{d r o1 v1:Key}{f n:Nat}{X:Option (List Vt×Nat×fE)}{k:Int}{a b:Nat}(hn:n≤256){h:T ab}{nx n0:Key}(hdn:d.toNat<nx.toNat)(ho:nx.toNat≤o1.toNat)(hv:nx.toNat≤v1.toNat)(hov:o1≠v1)
  (hr:∀{p:Nat} {st:fE} {h:T ab} {nx:Key},DS d r st p h nx n0→p≤1024→1025≤f+p→ax C aW [.ptr d 0] h nx (OW (vR f p st) d r h nx n0))
  {Q:cu} {m:Nat} {tm:T AV} {h1:T ab} {nx1:Key} (A:Xw d r o1 v1 f n X k a b h nx n0 m tm h1 nx1)
  (xS:∀aD h' nx' us p st c,X=some (us,p,st)→ae (K 2) aD=some (.ptr o1 0)→ae (K 4) aD=some (.ptr v1 0)→ae o1 h'=some (.cells z4 .fix)→ae v1 h'=some (.cells [I k,I 0,.str a b,c] .fix)→KR c us h' nx' nx→DS d r st p h' nx' n0→xu d r h nx h' nx'→Q .norm aD h' nx')
  (P6:∀aD h' nx' us c,X=none→ae (K 2) aD=some (.ptr o1 0)→ae (K 3) aD=some (.bool false)→ae o1 h'=some (.cells [I k,I 0,.str a b,c] .fix)→KR c us h' nx' nx→xu d r h nx h' nx'→Q .ret aD h' nx') :
  W C (.loop dz) (cz 1 Q) tm h1 nx1:=by
 have rV:C.raw aW=false:=S.nr (by decide);refine W.hO (Xw d r o1 v1 f n X k a b h nx n0) A ?_;rintro m dT h2 aP ⟨j,us,c,p,st,rfl,hj,Ok,g0,g2,g4,g70,g71,bo,bv,lo,lv,kr,D,hp,hfp,hX,F⟩;refine W.of ?_;simp[dz];by_cases eo:j<n
 ·have nK:(j:Int)<n:=by omega
  rw[show n-j=(n-(j+1))+1 by omega,Ph]at hX;simp[fm,g70,g71,nK];simp[jZ,g0,rV];refine(hr D hp hfp).mono ?_;rintro o h3 bu ⟨hV,F3⟩;have n3:=F3.1;have nF:=F.1;have Jo:=kr.low D F3;have F4:=F.trans F3;have s3:=kTSu bu;have rd:=D.rd;have Cq:ae o1 h3=some (.cells z4 .fix):=by rw[F3.2 o1 lo (ay (by omega)) (ay (by omega))];exact bo
  have Qd:ae v1 h3=some (.cells [I k,I 0,.str a b,c] .fix):=by rw[F3.2 v1 lv (ay (by omega)) (ay (by omega))];exact bv
  cases hg:vR f p st with
  |none=>
   rw[hg]at hV hX;obtain⟨u,rfl⟩:=hV;have Gm:=cZ u;have JM:=ew u;have Oq:=dI u;have cc:=Jo.A.cell;have e4:=E0 h3 bu (.cells (eV u) .fix);have ET:ae o1 (ar bu (some (.cells (eV u) .fix)) h3)=some (.cells z4 .fix):=by rw[al (by omega)];exact Cq
   have OM:ae v1 (ar bu (some (.cells (eV u) .fix)) h3)=some (.cells [I k,I 0,.str a b,c] .fix):=by rw[al (by omega)];exact Qd
   have Xh:KR c us (ar bu (some (.cells (eV u) .fix)) h3) bu.succ nx:=⟨Jo.A.ext e4,Jo.z⟩;have F5:=F4.trans (xu.of e4);simp[Gm,JM];generalize ar bu (some (.cells (eV u) .fix)) h3=h4 at *;simp[fo];unfold z4 at ET;simp[j7,g2,g4,OM,ET,cc.1];refine P6 _ _ _ us c (by rw[hX];rfl) (by simp[g2]) (by simp) (by simp) ⟨Xh.A.set ?_,Xh.z⟩ (F5.put (by omega) _);intro B hB;rw[ET]at hB;cases hB;exact⟨by simp,by simp⟩
  |some w=>
   obtain⟨u,p',st'⟩:=w;rw[hg]at hV hX;obtain⟨rfl,D3⟩:=hV;have Gm:=cZ u;have JM:=ew u;have Oq:=dI u;have e4:=E0 h3 bu (.cells (eV u) .fix);have b64:ae bu (ar bu (some (.cells (eV u) .fix)) h3)=some (.cells (eV u) .fix):=by simp
   have ET:ae o1 (ar bu (some (.cells (eV u) .fix)) h3)=some (.cells z4 .fix):=by rw[al (by omega)];exact Cq
   have OM:ae v1 (ar bu (some (.cells (eV u) .fix)) h3)=some (.cells [I k,I 0,.str a b,c] .fix):=by rw[al (by omega)];exact Qd
   have Xh:KR c us (ar bu (some (.cells (eV u) .fix)) h3) bu.succ nx:=⟨Jo.A.ext e4,Jo.z⟩;have D4:=D3.ext e4;have F5:=F4.trans (xu.of e4);have l4:=D4.dn;simp[Gm,JM];generalize ar bu (some (.cells (eV u) .fix)) h3=h4 at *;have s4:=kTSu bu.succ;have e5:=E0 h4 bu.succ (.cells (eV u) .fix);have bl5:ae bu.succ (ar bu.succ (some (.cells (eV u) .fix)) h4)=some (.cells (eV u) .fix):=by simp
   have Ce:ae o1 (ar bu.succ (some (.cells (eV u) .fix)) h4)=some (.cells z4 .fix):=by rw[al (by omega)];exact ET
   have LW:ae v1 (ar bu.succ (some (.cells (eV u) .fix)) h4)=some (.cells [I k,I 0,.str a b,c] .fix):=by rw[al (by omega)];exact OM
   have A5:=Xh.A.ext e5;have D5:=D4.ext e5;have F6:=F5.trans (xu.of e5);obtain⟨c',h6,xC,g,A6,n6,f1,f2⟩:=A5.LV dq (by omega) (by omega) u;have c6:=A6.cell;have MW:ae o1 h6=some (.cells z4 .fix):=by rw[f2 o1 (by omega) (fun B hB=>by rw[Ce]at hB;cases hB;exact⟨by simp,by simp⟩)];exact Ce
   have Qe:ae v1 h6=some (.cells [I k,I 0,.str a b,c] .fix):=by rw[f2 v1 (by omega) (fun B hB=>by rw[LW]at hB;cases hB;exact⟨by simp,by simp⟩)];exact LW
   simp[fo];simp[-appendTo,j8,g4,OM,b64,Gm,Oq,JM,V9,g,Qe,c6.1,c6.2];have bv7:ae v1 (ar v1 (some (.cells [I k,I 0,.str a b,c'] .fix)) h6)=some (.cells [I k,I 0,.str a b,c'] .fix):=by simp
   have P8:ae o1 (ar v1 (some (.cells [I k,I 0,.str a b,c'] .fix)) h6)=some (.cells z4 .fix):=by rw[bQ _ _ _ _ hov];exact MW
   have kr7:KR c' (us ++ [u]) (ar v1 (some (.cells [I k,I 0,.str a b,c'] .fix)) h6) xC nx:=⟨A6.set (fun B hB=>by rw[Qe]at hB;cases hB;exact⟨by simp,by simp⟩),fun e=>by simp at e⟩;have D7:DS d r st' p' (ar v1 (some (.cells [I k,I 0,.str a b,c'] .fix)) h6) xC n0:=(D5.low (fun b hb=>f1 b (by omega)) n6).low (fun b hb=>al (by omega)) (cI _);have F7:xu d r h nx (ar v1 (some (.cells [I k,I 0,.str a b,c'] .fix)) h6) xC:=xu.put ⟨by have:=F6.1;omega,fun b hb h1 h2=>by rw[f1 b hb];exact F6.2 b hb h1 h2⟩ hv _;generalize ar v1 (some (.cells [I k,I 0,.str a b,c'] .fix)) h6=h7 at *;simp[j9,g71];rw[aJ (by omega) (by omega)];obtain⟨hp1,hp2⟩:=Iv hg;refine⟨n-(j+1),by omega,j+1,us ++ [u],c',p',st',rfl,by omega,by rw[fO,Ok];rfl,by simp[g0],by simp[g2],by simp[g4],by simp[g70],by simp,P8,bv7,by omega,by omega,kr7,D7,hp2,by omega,?_,F7⟩;rw[hX];exact Vi us [u] _
 ·have wy:j=n:=by omega
  subst wy;rw[Nat.sub_self,nf]at hX;simp[fm,g70,g71];exact xS _ _ _ us p st c (by rw[hX];simp[Xp]) (by simp[g2]) (by simp[g4]) bo bv kr D F
end Ln
namespace Ln
open Go.Sx Go
variable{C:cX}(S:tq C)
include S
theorem Xo{d r o1 v1:Key}{st:fE}{p f:Nat}{k:Int}{a b:Nat}{h:T ab}{nx n0:Key}(hdn:d.toNat<nx.toNat)(ho:nx.toNat≤o1.toNat)(hv:nx.toNat≤v1.toNat)(hov:o1≠v1)
  (hr:∀{p:Nat} {st:fE} {h:T ab} {nx:Key},DS d r st p h nx n0→p≤1024→1025≤f+p→ax C aW [.ptr d 0] h nx (OW (vR f p st) d r h nx n0))
  {tm:T AV} {h1:T ab} {nx1:Key} (g0:ae (K 0) tm=some (.ptr d 0)) (g2:ae (K 2) tm=some (.ptr o1 0)) (g4:ae (K 4) tm=some (.ptr v1 0)) (bo:ae o1 h1=some (.cells z4 .fix)) (bv:ae v1 h1=some (.cells [I k,I 0,.str a b,.nils] .fix)) (lo:o1.toNat<nx1.toNat) (lv:v1.toNat<nx1.toNat) (D:DS d r st p h1 nx1 n0) (hp:p≤1024) (hfp:1025≤f+p) (F:xu d r h nx h1 nx1) :
  il C ((av.ops fg).seq
       (((av.ops b8).seq
          (av.cond (PX.t (K 68)) ((av.ops dj).seq av.ret) av.skip)).seq
        (((av.ops fh).seq (av.block 1 dz.loop)).seq
         ((av.ops fi).seq av.ret))))
      (eO [RV.cell (K 2) true 4,RV.tmp (K 3)] (OW (OX k a b (OY (vR f) p st)) d r h nx n0)) tm h1 nx1:=by
 have qI:C.raw aR=false:=S.nr (by decide);have rd:=D.rd;have d1:=D.D;have nF:=F.1;simp;simp[fg,g0,d1,qI];refine(IX S D).mono ?_;rintro o h2 aP ⟨rfl,D2,F2⟩;have n2:=F2.1;have Hr:ae o1 h2=some (.cells z4 .fix):=by rw[F2.2 o1 lo (ay (by omega)) (ay (by omega))];exact bo
 have bv2:ae v1 h2=some (.cells [I k,I 0,.str a b,.nils] .fix):=by rw[F2.2 v1 lv (ay (by omega)) (ay (by omega))];exact bv
 have F3:=F.trans F2;have hK:OY (vR f) p st=if (rI st).1<0∨256<(rI st).1 then none else nf (vR f) (rI st).1.toNat p (rI st).2:=rfl
 generalize (rI st).1=z at *;generalize (rI st).2=LU at *;have bad:ae (K 4) tm=some (.ptr v1 0)→(z<0∨256<z)→∀dR:T AV,ae (K 2) dR=some (.ptr o1 0)→ae (K 4) dR=some (.ptr v1 0)→xj C (fy (il C av.ret (eO [RV.cell (K 2) true 4,RV.tmp (K 3)] (OW (OX k a b (OY (vR f) p st)) d r h nx n0))) (eO [RV.cell (K 2) true 4,RV.tmp (K 3)] (OW (OX k a b (OY (vR f) p st)) d r h nx n0))) dj dR h2 aP:=by intro _ hz dR j2 j4;rw[hK,if_pos hz];unfold z4 at Hr;simp[dj,j2,j4,bv2,Hr];exact⟨⟨.mk k 0 a b [],by rw[qM,kV];try rfl⟩,F3.put ho _⟩
 by_cases h0:z<0
 ·simp[b8,h0];refine bad g4 (.inl h0) _ (by simp[g2]) (by simp[g4])
 by_cases Z7:256<z
 ·simp[b8,h0,Z7];refine bad g4 (.inr Z7) _ (by simp[g2]) (by simp[g4])
 obtain⟨n,hn⟩:∃n:Nat,z=n:=⟨z.toNat,by omega⟩;subst hn;rw[if_neg (by omega),Int.toNat_natCast]at hK;rw[hK];simp[b8,h0,Z7];simp[fh];refine RC S (X:=nf (vR f) n p LU) (n:=n) (k:=k) (a:=a) (b:=b) (by omega) hdn ho hv hov hr (h:=h) (nx:=nx) (m:=n) ⟨0,[],.nils,p,LU,rfl,by omega,rfl,by simp[g0],by simp[g2],by simp[g4],by simp,by simp,Hr,bv2,by omega,by omega,KR.nil _ _ _,D2,hp,hfp,?_,F3⟩ ?_ ?_
 ·rw[Nat.sub_zero];cases nf (vR f) n p LU with
  |none=>rfl
  |some w=>obtain⟨l,q,t⟩:=w;simp[Xp]
 ·intro aD h' nx' us p' st' c hX j2 j4 Cq Qd Jo D3 F4;rw[hX];have cc:=Jo.A.cell;unfold z4 at Cq;simp[fi,j2,j4,Qd,Cq,cc.1];have Xh:KR c us (ar o1 (some (.cells [I k,I 0,.str a b,c] .fix)) h') nx' nx:=⟨Jo.A.set (fun B hB=>by rw[Cq]at hB;cases hB;exact⟨by simp,by simp⟩),Jo.z⟩;have D4:DS d r st' p' (ar o1 (some (.cells [I k,I 0,.str a b,c] .fix)) h') nx' n0:=D3.low (fun b hb=>al (by omega)) (cI _);have F5:=F4.put ho (some (.cells [I k,I 0,.str a b,c] .fix));generalize ar o1 (some (.cells [I k,I 0,.str a b,c] .fix)) h'=h4 at *;obtain⟨ZQ,Ns⟩:(aK 9998 c h4).1=kV us∧∀b:Key,b.toNat<nx.toNat→ae b (aK 9998 c h4).2=ae b h4:=Xh.fz 9997;rw[ZQ];refine⟨⟨by rw[qM],D4.low (fun b hb=>Ns b (by omega)) (cI _)⟩,F5.1,fun b hb q1 q2=>by rw[Ns b hb];exact F5.2 b hb q1 q2⟩
 ·intro aD h' nx' us c hX j2 j3 Cq Jo F4;rw[hX];have cc:=Jo.A.cell;simp[j2,j3,Cq];obtain⟨ZQ,Ns⟩:(aK 9998 c h').1=kV us∧∀b:Key,b.toNat<nx.toNat→ae b (aK 9998 c h').2=ae b h':=Jo.fz 9997;rw[ZQ];exact⟨⟨.mk k 0 a b us,by rw[qM]⟩,F4.1,fun b hb q1 q2=>by rw[Ns b hb];exact F4.2 b hb q1 q2⟩
theorem M8:∀(f:Nat) {d r:Key} {st:fE} {p:Nat} {h:T ab} {nx n0:Key},DS d r st p h nx n0→p≤1024→1025≤f+p→ax C aW [.ptr d 0] h nx (OW (vR f p st) d r h nx n0)
 |0,d,r,st,p,h,nx,n0,D,hp,hf=>by omega
 |f+1,d,r,st,p,h,nx,n0,D,hp,hf=>by
  have qI:C.raw aR=false:=S.nr (by decide);have qB:C.raw df=false:=S.nr (by decide);have qT:C.raw cn=false:=S.nr (by decide);have s1:=kTSu nx;have ih:=fun {d r:Key} {st:fE} {p:Nat} {h:T ab} {nx n0:Key} (D:DS d r st p h nx n0) (h1:p≤1024) (h2:1025≤f+p)=>M8 f D h1 h2;have dn:=D.dn;refine S.l8.call ?_;simp[iF];simp[lg];have e1:=E0 h nx (.cells z4 .fix);have Ow:ae nx (ar nx (some (.cells z4 .fix)) h)=some (.cells z4 .fix):=by simp
  have D1:=D.ext e1;have F1:xu d r h nx _ _:=xu.of e1;unfold z4 at Ow D1 F1;generalize ar nx (some (.cells [.int .i64 (.lit 0),.int .i64 (.lit 0),.str 0 0,.nils] .fix)) h=h1 at *;have hw:aX .i64 ((p:Int)+1)=(p:Int)+1:=aJ (by omega) (by omega);have Da:nx≠d:=ay (by omega);simp[lj,D1.D,hw];have D2:DS d r st (p+1) (ar d (some (.cells [.ptr r 0,I ((p:Int)+1)] .fix)) h1) nx.succ n0:=D1.aiV (p+1);have F2:xu d r h nx (ar d (some (.cells [.ptr r 0,I ((p:Int)+1)] .fix)) h1) nx.succ:=F1.trans xu.aiW;have Hr:ae nx (ar d (some (.cells [.ptr r 0,I ((p:Int)+1)] .fix)) h1)=some (.cells z4 .fix):=by rw[bQ _ _ _ _ Da];exact Ow
  generalize ar d (some (.cells [.ptr r 0,I ((p:Int)+1)] .fix)) h1=h2 at *;have d2:ae d h2=some (.cells [.ptr r 0,I ((p:Int)+1)] .fix):=D2.D;rw[vR];by_cases hc:1024≤p
  ·have U1:1024<(p:Int)+1:=by omega
   unfold z4 at Hr;simp[fL,d2,U1];simp[lp,Hr];rw[if_pos hc];refine⟨⟨.mk 0 0 0 0 [],by rw[qM,kV];try rfl⟩,F2.put (cI _) _⟩
  ·have U1:¬1024<(p:Int)+1:=by omega
   rw[if_neg hc];simp[fL,d2,U1];simp[lq,d2,qI];refine(IX S D2).mono ?_;rintro o h3 bu ⟨rfl,D3,F3⟩;have n3:=F3.1;have s3:=kTSu bu;have Cq:ae nx h3=some (.cells z4 .fix):=by rw[F3.2 nx (by omega) Da (ay (by have:=D.rd;omega))];exact Hr
   have F4:=F2.trans F3;simp;have e3:=E0 h3 bu (.cells [.int .i64 (.lit (rI st).1),.int .i64 (.lit 0),.str 0 0,.nils] .fix);have D4:=D3.ext e3;have F5:=F4.trans (xu.of e3);have ET:ae nx (ar bu (some (.cells [.int .i64 (.lit (rI st).1),.int .i64 (.lit 0),.str 0 0,.nils] .fix)) h3)=some (.cells z4 .fix):=by rw[al (by omega)];exact Cq
   have OM:ae bu (ar bu (some (.cells [.int .i64 (.lit (rI st).1),.int .i64 (.lit 0),.str 0 0,.nils] .fix)) h3)=some (.cells [I (rI st).1,I 0,.str 0 0,.nils] .fix):=by rw[gTSm]
   generalize ar bu (some (.cells [.int .i64 (.lit (rI st).1),.int .i64 (.lit 0),.str 0 0,.nils] .fix)) h3=h4 at *;generalize (rI st).1=z at *;generalize (rI st).2=LU at *;have d4:=D4.D;have cL:nx≠bu:=ay (by omega);have rd:=D.rd;simp[lu,OM];by_cases z0:z=0
   ·subst z0;simp[bL];simp[lx,d4,qI];refine(IX S D4).mono ?_;rintro o h5 Dd ⟨rfl,D5,F6⟩;have n5:=F6.1;have Ce:ae nx h5=some (.cells z4 .fix):=by rw[F6.2 nx (by omega) Da (ay (by omega))];exact ET
    have LW:ae bu h5=some (.cells [I 0,I 0,.str 0 0,.nils] .fix):=by rw[F6.2 bu (by omega) (ay (by omega)) (ay (by omega))];exact OM
    simp[LW];generalize (rI LU).1=y at *;generalize (rI LU).2=st3 at *;have MW:ae nx (ar bu (some (.cells [I 0,I y,.str 0 0,.nils] .fix)) h5)=some (.cells z4 .fix):=by rw[bQ _ _ _ _ cL];exact Ce
    have D6:DS d r st3 (p+1) (ar bu (some (.cells [I 0,I y,.str 0 0,.nils] .fix)) h5) Dd n0:=D5.low (fun b hb=>al (by omega)) (cI _);have F7:=(F5.trans F6).put (b:=bu) (by omega) (some (.cells [I 0,I y,.str 0 0,.nils] .fix));have Qe:ae bu (ar bu (some (.cells [I 0,I y,.str 0 0,.nils] .fix)) h5)=some (.cells [I 0,I y,.str 0 0,.nils] .fix):=by rw[gTSm]
    generalize ar bu (some (.cells [I 0,I y,.str 0 0,.nils] .fix)) h5=h6 at *;unfold z4 at MW;simp[ly,MW,Qe];refine⟨⟨by rw[qM,kV];try rfl,D6.low (fun b hb=>al (by omega)) (cI _)⟩,F7.put (cI _) _⟩
   by_cases z1:z=1
   ·subst z1;simp[bL];simp[cG];simp[jU,d4,qB];refine(RD S D4).mono ?_;rintro o h5 Dd ⟨rfl,D5,F6⟩;have n5:=F6.1;have Ce:ae nx h5=some (.cells z4 .fix):=by rw[F6.2 nx (by omega) Da (ay (by omega))];exact ET
    have LW:ae bu h5=some (.cells [I 1,I 0,.str 0 0,.nils] .fix):=by rw[F6.2 bu (by omega) (ay (by omega)) (ay (by omega))];exact OM
    generalize (rB LU).1=y at *;generalize (rB LU).2=st3 at *;cases y with
    |false=>unfold z4 at Ce;simp[fj,Ce,LW];refine⟨⟨by rw[qM,kV];try rfl,D5.low (fun b hb=>al (by omega)) (cI _)⟩,(F5.trans F6).put (cI _) _⟩
    |true=>
     simp[jV,LW];have MW:ae nx (ar bu (some (.cells [I 1,I 1,.str 0 0,.nils] .fix)) h5)=some (.cells z4 .fix):=by rw[bQ _ _ _ _ cL];exact Ce
     have D6:DS d r st3 (p+1) (ar bu (some (.cells [I 1,I 1,.str 0 0,.nils] .fix)) h5) Dd n0:=D5.low (fun b hb=>al (by omega)) (cI _);have F7:=(F5.trans F6).put (b:=bu) (by omega) (some (.cells [I 1,I 1,.str 0 0,.nils] .fix));have Qe:ae bu (ar bu (some (.cells [I 1,I 1,.str 0 0,.nils] .fix)) h5)=some (.cells [I 1,I 1,.str 0 0,.nils] .fix):=by rw[gTSm]
     generalize ar bu (some (.cells [I 1,I 1,.str 0 0,.nils] .fix)) h5=h6 at *;unfold z4 at MW;simp[fj,MW,Qe];refine⟨⟨by rw[qM,kV];try rfl,D6.low (fun b hb=>al (by omega)) (cI _)⟩,F7.put (cI _) _⟩
   by_cases z2:z=2
   ·subst z2;simp[bL];simp[cG];simp[dk];have key:=fun tm g0 g2 g4=>Xo S (d:=d) (r:=r) (o1:=nx) (v1:=bu) (st:=LU) (p:=p+1) (f:=f) (k:=2) (a:=0) (b:=0) (h:=h) (nx:=nx) (n0:=n0) (tm:=tm) (h1:=h4) (nx1:=bu.succ) (by omega) (by omega) (by omega) cL (fun D h1 h2=>ih D h1 h2) g0 g2 g4 ET OM (by omega) (by omega) D4 (by omega) (by omega) F5;simp at key;refine key _ ?_ ?_ ?_<;>simp
   by_cases z3:z=3
   ·subst z3;simp[bL];simp[cG];simp[dk];simp[fk];simp[jW,d4,qT];refine(RE S D4).mono ?_;rintro o h5 Dd ⟨rfl,D5,F6⟩;have n5:=F6.1;have Ce:ae nx h5=some (.cells z4 .fix):=by rw[F6.2 nx (by omega) Da (ay (by omega))];exact ET
    have LW:ae bu h5=some (.cells [I 3,I 0,.str 0 0,.nils] .fix):=by rw[F6.2 bu (by omega) (ay (by omega)) (ay (by omega))];exact OM
    generalize (rR LU).1=y at *;generalize (rR LU).2=st3 at *;simp[LW];have MW:ae nx (ar bu (some (.cells [I 3,I 0,.str y.length (ub y),.nils] .fix)) h5)=some (.cells z4 .fix):=by rw[bQ _ _ _ _ cL];exact Ce
    have D6:DS d r st3 (p+1) (ar bu (some (.cells [I 3,I 0,.str y.length (ub y),.nils] .fix)) h5) Dd n0:=D5.low (fun b hb=>al (by omega)) (cI _);have F7:=(F5.trans F6).put (b:=bu) (by omega) (some (.cells [I 3,I 0,.str y.length (ub y),.nils] .fix));have Qe:ae bu (ar bu (some (.cells [I 3,I 0,.str y.length (ub y),.nils] .fix)) h5)=some (.cells [I 3,I 0,.str y.length (ub y),.nils] .fix):=by rw[gTSm]
    generalize ar bu (some (.cells [I 3,I 0,.str y.length (ub y),.nils] .fix)) h5=h6 at *;have key:=fun tm g0 g2 g4=>Xo S (d:=d) (r:=r) (o1:=nx) (v1:=bu) (st:=st3) (p:=p+1) (f:=f) (k:=3) (a:=y.length) (b:=ub y) (h:=h) (nx:=nx) (n0:=n0) (tm:=tm) (h1:=h6) (nx1:=Dd) (by omega) (by omega) (by omega) cL (fun D h1 h2=>ih D h1 h2) g0 g2 g4 MW Qe (by omega) (by omega) D6 (by omega) (by omega) F7;simp at key;refine key _ ?_ ?_ ?_<;>simp
   rw[if_neg z0,if_neg z1,if_neg z2,if_neg z3];unfold z4 at ET;simp[bL,bq z0];simp[cG,bq z1];simp[dk,bq z2];simp[fk,bq z3];simp[jX,ET,OM];refine⟨⟨.mk z 0 0 0 [],by rw[qM,kV];try rfl⟩,F5.put (cI _) _⟩
end Ln
namespace Ln
open Go.Sx Go
def X1(bs:List Nat)(h:T ab)(nx:Key)(o:Out)(h':T ab)(nx':Key):Prop:=(match vX bs with
 |some v=>o=.ret (.tuple [.agg (eV v),I 0])
 |none=>o=.ret (.tuple [.agg (eV (.mk 0 0 0 0 [])),I 2]))∧Ext h nx h' nx'
def af1(v:Vt):fE→Option Vt
 |some []=>if Io v=0 then some v else none
 |_=>none
def af2(v:Vt)(h:T ab)(nx:Key)(o:Out)(h':T ab)(nx':Key):Prop:=((Io v=0∧∃c',o=.ret (.tuple [c',I 0])∧py 1 eY c' (bT v))∨(Io v≠0∧o=.ret (.tuple [.nils,I (Io v)])))∧Ext h nx h' nx'
variable{C:cX}(S:tq C)
include S
theorem TO{c:AV}{bs:List Nat}(hc:py 1 eY c bs)(hb:∀b∈bs,b<256)(hl:bs.length≤1000000){h:T ab}{nx:Key}:ax C gm [c] h nx (X1 bs h nx):=by
 have qD:C.raw aW=false:=S.nr (by decide);have qE:C.raw bY=false:=S.nr (by decide);have qV:C.raw dU=false:=S.nr (by decide);have qR:C.raw dM=true:=S.rw (by decide);have s1:=kTSu nx;refine S.wF.call ?_;simp[tv];simp[uz];have e1:=E0 h nx (.cells z4 .fix);have Ow:ae nx (ar nx (some (.cells z4 .fix)) h)=some (.cells z4 .fix):=by simp
 unfold z4 at Ow e1;generalize ar nx (some (.cells [.int .i64 (.lit 0),.int .i64 (.lit 0),.str 0 0,.nils] .fix)) h=h1 at *;simp[uA,qR];refine(Is S.sG (JS.of hc) (by omega)).mono ?_;rintro o h2 aP ⟨r,rfl,R2,e2⟩;have n2:=e2.n;have s2:=kTSu aP;simp;have R3:RS r bs 0 (ar aP (some (.cells [.ptr r 0,.int .i64 (.lit 0)] .fix)) h2) aP.succ nx.succ:=R2.low (fun b hb=>al (by have:=R2.2.1;omega)) (by omega);have D:DS aP r (some bs) 0 (ar aP (some (.cells [.ptr r 0,.int .i64 (.lit 0)] .fix)) h2) aP.succ nx.succ:=⟨by rw[gTSm];rfl,⟨R3,hb⟩,R2.2.1,by omega,fun x hx=>by cases hx;omega⟩;have Hr:ae nx (ar aP (some (.cells [.ptr r 0,.int .i64 (.lit 0)] .fix)) h2)=some (.cells z4 .fix):=by rw[al (by omega),e2.g nx (by omega)];exact Ow
 have E2:Ext h nx (ar aP (some (.cells [.ptr r 0,.int .i64 (.lit 0)] .fix)) h2) aP.succ:=⟨by omega,fun b hb=>by rw[al (by omega),e2.g b (by omega),e1.g b hb]⟩;have lr:=R2.1;generalize ar aP (some (.cells [.ptr r 0,.int .i64 (.lit 0)] .fix)) h2=h3 at *;simp[uB,qD];refine(M8 S 1025 D (by omega) (by omega)).mono ?_;rintro o h4 sw ⟨hV,F4⟩;have n4:=F4.1;have s4:=kTSu sw;have ET:ae nx h4=some (.cells z4 .fix):=by rw[F4.2 nx (by omega) (ay (by omega)) (ay (by omega))];exact Hr
 have E4:Ext h nx h4 sw:=⟨by omega,fun b hb=>by rw[F4.2 b (by omega) (ay (by omega)) (ay (by omega))];exact E2.g b hb⟩;have hz:∀v n H,aO (aK n) (eV v) H=(eV v,H):=fun v n H=>aG (dq.sg v);have bad:vX bs=none→∀(tm:T AV) (h5:T ab) (Dd:Key),ae (K 2) tm=some (.ptr nx 0)→ae nx h5=some (.cells z4 .fix)→Ext h nx h5 Dd→xj C (fy (il C av.ret (eO [RV.cell (K 2) true 4,RV.tmp (K 3)] (X1 bs h nx))) (eO [RV.cell (K 2) true 4,RV.tmp (K 3)] (X1 bs h nx))) mU tm h5 Dd:=by intro hd tm h5 Dd j2 bo e;unfold z4 at bo;simp[mU,j2,bo];refine⟨by rw[hd,qM,kV];try rfl,e.n,fun b hb=>by rw[al hb];exact e.g b hb⟩
 cases hg:vR 1025 0 (some bs)with
 |none=>
  have hd:vX bs=none:=by unfold vX;rw[hg]
  rw[hg]at hV;obtain⟨u,rfl⟩:=hV;have Gm:=cZ u;have JM:=ew u;simp[Gm,JM];simp[mV];refine bad hd _ _ _ (by simp) ?_ (E4.trans (E0 h4 sw _));rw[al (by omega)];exact ET
 |some w=>
  obtain⟨v,p',st'⟩:=w;have hd:vX bs=af1 v st':=by
   unfold vX;rw[hg];cases st' with
   |none=>rfl
   |some q=>cases q<;>rfl
  rw[hg]at hV;obtain⟨rfl,D4⟩:=hV;have Gm:=cZ v;have JM:=ew v;have Oq:=dI v;have e5:=E0 h4 sw (.cells (eV v) .fix);have D5:=D4.ext e5;have E5:=E4.trans e5;have LW:ae sw (ar sw (some (.cells (eV v) .fix)) h4)=some (.cells (eV v) .fix):=by simp
  have Ce:ae nx (ar sw (some (.cells (eV v) .fix)) h4)=some (.cells z4 .fix):=by rw[al (by omega)];exact ET
  simp[Gm,JM];generalize ar sw (some (.cells (eV v) .fix)) h4=h5 at *;have d5:=D5.D;simp[mV,d5,qE];cases st' with
  |none=>obtain⟨q,e,he,R⟩:=D5.R;refine(It S.eQ R).mono ?_;rintro o h6 xC ⟨rfl,rfl,rfl⟩;simp[he,bq he];exact bad (by rw[hd];rfl) _ _ _ (by simp) Ce E5
  |some q=>
   obtain⟨R,Pz⟩:=D5.R;refine(It S.eQ R).mono ?_;rintro o h6 xC ⟨rfl,rfl,rfl⟩;cases q with
   |cons x q=>simp;exact bad (by rw[hd];rfl) _ _ _ (by simp) Ce E5
   |nil=>
    obtain⟨_,hi,_⟩:=Iu _ _ _ _ _ _ hb hg;obtain⟨hs1,Wf⟩:=Iv hg;simp[LW,Gm,Oq,hz,qV];refine(JT S hi (by omega)).mono ?_;rintro o h7 nx7 ⟨rfl,e7⟩;have E7:=E5.trans e7;have n7:=e7.n;have P8:ae nx h7=some (.cells z4 .fix):=by rw[e7.g nx (by omega)];exact Ce
    have bv7:ae sw h7=some (.cells (eV v) .fix):=by rw[e7.g sw (by omega)];exact LW
    by_cases iR:Io v=0
    ·have T7:vX bs=some v:=by rw[hd];exact if_pos iR
     simp[iR];unfold z4 at P8;simp[uC,P8,bv7,Gm,JM,Oq,hz];refine⟨by rw[T7],E7.n,fun b hb=>by rw[al hb];exact E7.g b hb⟩
    ·have T7:vX bs=none:=by rw[hd];exact if_neg iR
     simp[iR,bq iR];exact bad T7 _ _ _ (by simp) P8 E7
theorem T8{v:Vt}(hi:DN v)(hs:bV v<900000)(hl:(bT v).length≤90000){h:T ab}{nx:Key}:ax C gv [.agg (eV v)] h nx (af2 v h nx):=by
 have rV:C.raw dU=false:=S.nr (by decide);have rc:C.raw aH=false:=S.nr (by decide);have rD:C.raw bt=false:=S.nr (by decide);have s1:=kTSu nx;have hz:∀v n H,aO (aK n) (eV v) H=(eV v,H):=fun v n H=>aG (dq.sg v);refine S.wG.call ?_;simp[tw];simp[uD,ew,cZ];have e1:=E0 h nx (.cells (eV v) .fix);have b1:ae nx (ar nx (some (.cells (eV v) .fix)) h)=some (.cells (eV v) .fix):=by simp
 generalize ar nx (some (.cells (eV v) .fix)) h=h1 at *;simp[uE,b1,cZ,dI,rV,hz];refine(JT S hi hs).mono ?_;rintro o h2 aP ⟨rfl,e2⟩;have n2:=e2.n;have s2:=kTSu aP;have b2:ae nx h2=some (.cells (eV v) .fix):=by rw[e2.g nx (by omega)];exact b1
 by_cases iR:Io v=0
 ·obtain⟨GB,_,_⟩:=sx.1 iR;simp[iR];simp[mW];simp[uF];have e3:=(e1.trans e2).trans (E0 h2 aP (.cells [.nils] .fix));have Ws:WS aP .nils [] (ar aP (some (.cells [.nils] .fix)) h2) aP.succ aP:=⟨cI _,by omega,by omega,by simp,App.nil 1⟩;have b3:ae nx (ar aP (some (.cells [.nils] .fix)) h2)=some (.cells (eV v) .fix):=by rw[al (by omega)];exact b2
  generalize ar aP (some (.cells [.nils] .fix)) h2=h3 at *;simp[uG,b3,cZ,dI,rc,hz];refine(T9 S hi GB Ws (by simp;omega)).mono ?_;rintro o h4 sw ⟨rfl,c4,W4,hn4,hf4,hk4⟩;rw[List.nil_append]at W4;have e4:Ext h nx h4 sw:=⟨by omega,fun b hb=>by rw[hf4 b (by omega)];exact e3.g b hb⟩;simp;simp[uH,rD];refine(EX S.fZ W4 (by omega)).mono ?_;rintro o h5 Dd ⟨⟨c5,rfl,We⟩,e5⟩;have Py:∀n H,aK n c5 H=(c5,H):=fun n H=>We.sg _ _;simp[Py];exact⟨.inl ⟨iR,_,rfl,We⟩,e4.trans e5⟩
 ·simp[iR];simp[mW,iR,bq iR];simp[uI];exact⟨.inr ⟨iR,rfl⟩,e1.trans e2⟩
end Ln
namespace Ln
open Go.Sx Go
def ep(c:Cv):List AV:=I c.1 ::eV c.2
theorem cV:Flat 5 ep where
 len c:=by unfold ep;rw[Ci,cZ]
 sg c y hy:=by
  unfold ep at hy;rcases zk.1 hy with rfl|hy
  ·exact qp _ _
  ·exact dq.sg _ y hy
 cell c y hy:=by
  unfold ep at hy;rcases zk.1 hy with rfl|hy
  ·rfl
  ·exact dq.cell _ y hy
 lits c:=by show AV.ey (I c.1 ::eV c.2)=true;have:=BZ c.2;simpa[AV.ey,AV.lits,I]using this
theorem Ik(c:Cv):(ep c).all AV.bH=true:=Gj.2 (cV.cell c)
theorem JI(c:Cv):(ep c).length=5:=cV.len c
theorem P9(c:Cv):List.take 5 (ep c)=ep c:=Hf (by rw[JI];omega)
def OkF(l:List Cv):Prop:=∀c∈l,eB c.1∧DN c.2∧Io c.2=0
theorem EV{l:List Cv}{j:Nat}(hj:j<l.length):(l.take (j+1)).flatMap fR=(l.take j).flatMap fR++fR l[j]:=by rw[Th hj,List.flatMap_append,List.flatMap_cons,List.flatMap_nil,List.append_nil]
theorem M7{l:List Cv}{j:Nat}:((l.take j).flatMap fR).length≤(l.flatMap fR).length:=by have h:=congrArg (fun l=>(List.flatMap fR l).length) (List.take_append_drop j l);simp only[List.flatMap_append,fO]at h;omega
def Xx(w:Key)(cs:AV)(l:List Cv)(h:T ab)(nx:Key)(m:Nat)(aD:T AV)(h':T ab)(nx':Key):Prop:=∃(j:Nat) (c':AV),m=l.length-j∧j≤l.length∧ae (K 4) aD=some (.ptr w 0)∧ae (K 14) aD=some cs∧ae (K 15) aD=some (I l.length)∧ae (K 16) aD=some (I j)∧WS w c' (vu (zz l.length)++(l.take j).flatMap fR) h' nx' w∧nx.toNat≤nx'.toNat∧(∀b:Key,b.toNat<w.toNat→ae b h'=ae b h)
variable{C:cX}(S:tq C)
include S
def Wb(l:List Cv)(h:T ab)(nx:Key)(o:Out)(h':T ab)(nx':Key):Prop:=(∃c',o=.ret (.tuple [c',I 0])∧py 1 eY c' (mT l))∧Ext h nx h' nx'
theorem Pj{w:Key}{cs:AV}{l:List Cv}(hc:py 5 ep cs l)(iR:OkF l)(hl:(mT l).length≤80000){h:T ab}{nx:Key}{Q:cu}{m:Nat}{tm:T AV}{h1:T ab}{nx1:Key}(A:Xx w cs l h nx m tm h1 nx1)
  (xS:∀aD h' nx' c',ae (K 4) aD=some (.ptr w 0)→WS w c' (mT l) h' nx' w→nx.toNat≤nx'.toNat→(∀b:Key,b.toNat<w.toNat→ae b h'=ae b h)→Q .norm aD h' nx') :
  W C (.loop nm) (cz 0 Q) tm h1 nx1:=by
 have qE:C.raw gv=false:=S.nr (by decide);have qI:C.raw aM=false:=S.nr (by decide);have qW:C.raw bZ=false:=S.nr (by decide);have hz:∀v n H,aO (aK n) (eV v) H=(eV v,H):=fun v n H=>aG (dq.sg v);have Cr:=yd l;have hF:(mT l).length=(vu (zz l.length)).length+(l.flatMap fR).length:=fO;refine W.hO (Xx w cs l h nx) A ?_;rintro m dT h2 aP ⟨j,c',rfl,hj,g4,g14,Tx,OT,Ws,hn,hf⟩;refine W.of ?_;simp[nm];by_cases eo:j<l.length
 ·have nK:(j:Int)<l.length:=by omega
  have hR:=hc.rd h2 aP;have s2:=kTSu aP;obtain⟨ok1,ok2,Wc⟩:=iR _ (Lt eo);have sE:=EV eo;have hle:=M7 (l:=l) (j:=j+1);rw[sE,fO]at hle;have hec:(fR l[j]).length=(vu (zz l[j].1)).length+((vu (bT l[j].2).length).length+(bT l[j].2).length):=by unfold fR;rw[fO,fO]
  obtain⟨_,_,oq⟩:=sx.1 Wc;have JM:=Ik l[j];have Gm:=JI l[j];have Gz:=cZ l[j].2;have JH:=dI l[j].2;have hwn:=Ws.hi;simp[nn,Tx,OT,nK];simp only[vd,hU,jk,jl,hZ,jm,ia,jn,jo,ib,ic,jq,jr,js,jt];simp[↓hR.ix cV eo,g14,OT,JM,Gm];have e1:=E0 h2 aP (.cells (ep l[j]) .fix);have W1:=Ws.ext e1;have b1:ae aP (ar aP (some (.cells (ep l[j]) .fix)) h2)=some (.cells (I l[j].1 ::eV l[j].2) .fix):=by rw[gTSm];rfl
  generalize ar aP (some (.cells (ep l[j]) .fix)) h2=h3 at *;simp[ve,b1,Gz,JH,hz,qE];refine(T8 S ok2 (by omega) (by omega)).mono ?_;rintro o h4 sw ⟨⟨_,ce,rfl,hce⟩|⟨Dn,_⟩,e4⟩
  ·have n4:=e4.n;have W4:=W1.ext e4;have b4:ae aP h4=some (.cells (I l[j].1 ::eV l[j].2) .fix):=by rw[e4.g aP (by omega)];exact b1
   simp;simp[vf];simp[vg,g4,b4,qI];refine(BD S W4 (by rw[fO];omega) ok1).mono ?_;rintro o h5 Dd ⟨rfl,c5,W5,n5,f5,k5⟩;have Py:∀n H,aK n ce H=(ce,H):=fun n H=>hce.sg _ _;simp;simp[sR,g4,qW,Py];refine(Na S.me S.eh (S.nr (by decide)) W5 hce (by omega) (by rw[fO,fO];omega)).mono ?_;rintro o h6 xC ⟨rfl,c6,W6,n6,f6,k6⟩;simp;simp[sS,OT];rw[aJ (by omega) (by omega)];refine⟨l.length-(j+1),by omega,j+1,c6,rfl,by omega,by simp[g4],by simp[g14],by simp[Tx],by simp,?_,by omega,fun b hb=>by rw[f6 b hb,f5 b hb,e4.g b (by omega),e1.g b (by omega)];exact hf b hb⟩;have:vu (zz l.length)++(l.take j).flatMap fR++vu (zz l[j].1)++(vu (bT l[j].2).length++bT l[j].2)=vu (zz l.length)++(l.take (j+1)).flatMap fR:=by rw[sE];simp only[fR,List.append_assoc]
   rw[this]at W6;exact W6
  ·exact absurd Wc Dn
 ·have wy:j=l.length:=by omega
  subst wy;rw[List.take_length]at Ws;simp[nn,Tx,OT];exact xS _ _ _ c' (by simp[g4]) Ws hn hf
theorem I4{cs:AV}{l:List Cv}(hc:py 5 ep cs l)(iR:OkF l)(hl:(mT l).length≤80000){h:T ab}{nx:Key}:ax C dD [.agg [cs]] h nx (Wb l h nx):=by
 have qI:C.raw aM=false:=S.nr (by decide);have qD:C.raw bt=false:=S.nr (by decide);have s1:=kTSu nx;have s2:=kTSu nx.succ;have Cr:=yd l;have hF:(mT l).length=(vu (zz l.length)).length+(l.flatMap fR).length:=fO;have HH:=hc.cell;refine S.w5.call ?_;simp[tF];simp[vh,HH.1];simp[vj];have Ws:WS nx.succ .nils [] (ar nx.succ (some (.cells [.nils] .fix)) (ar nx (some (.cells [cs] .fix)) h)) nx.succ.succ nx.succ:=⟨cI _,by omega,by omega,by simp,App.nil 1⟩;have b1:ae nx (ar nx.succ (some (.cells [.nils] .fix)) (ar nx (some (.cells [cs] .fix)) h))=some (.cells [cs] .fix):=by rw[al (by omega),gTSm]
 have e1:Ext h nx (ar nx.succ (some (.cells [.nils] .fix)) (ar nx (some (.cells [cs] .fix)) h)) nx.succ.succ:=⟨by omega,fun b hb=>by rw[al (by omega),al hb]⟩;generalize ar nx.succ (some (.cells [.nils] .fix)) (ar nx (some (.cells [cs] .fix)) h)=h1 at *;have hR:=hc.rd h1 nx.succ.succ;simp only[vk,hU,jk,jl,hZ,jm,ia,jn,jo,ib,ic,jq,jr,js,jt];simp[↓hR.ln,b1,qI];refine(BD S Ws (by simp) (n:=(l.length:Int)) ⟨by omega,by omega⟩).mono ?_;rintro o h2 aP ⟨rfl,c2,W2,n2,f2,k2⟩;rw[List.nil_append]at W2;have b2:ae nx h2=some (.cells [cs] .fix):=by rw[f2 nx (by omega)];exact b1
 have hR2:=hc.rd h2 aP;simp;simp only[vl,hU,jk,jl,hZ,jm,ia,jn,jo,ib,ic,jq,jr,js,jt];simp[↓hR2.ln,b2];refine Pj S (w:=nx.succ) hc iR hl (h:=h2) (nx:=aP) (m:=l.length) ⟨0,c2,by simp,by omega,by simp,by simp,by simp,by simp,by simpa using W2,cI _,fun _ _=>rfl⟩ ?_;intro aD h' nx' c' g4 W3 n3 f3;simp[sT,g4,qD];refine(EX S.fZ W3 (by omega)).mono ?_;rintro o h4 sw ⟨⟨c4,rfl,h4'⟩,e4⟩;have n4:=e4.n;have Py:∀n H,aK n c4 H=(c4,H):=fun n H=>h4'.sg _ _;simp[Py];exact⟨⟨c4,rfl,h4'⟩,by omega,fun b hb=>by rw[e4.g b (by have:=W3.hi;omega),f3 b (by omega),f2 b (by omega)];exact e1.g b hb⟩
end Ln
