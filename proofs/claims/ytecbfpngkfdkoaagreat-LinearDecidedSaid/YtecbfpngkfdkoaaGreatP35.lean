/- A part of the proof. No condition. -/
import Derived.Test.YtecbfpngkfdkoaaGreatP34
import Derived.Test.YtecbfpngkfdkoaaGreatP33
set_option linter.unusedSimpArgs false
set_option linter.unusedVariables false
set_option linter.unusedSectionVars false
namespace Ln
open Go.Sx Go
def NJ:List Nat→Nat
 | []=>0
 |b ::t=>orU (adv (NJ t) 8) (UB b)
def nw(l:List Nat):Nat:=(l.length+7) / 8
def seg(l:List Nat)(k:Nat):List Nat:=(l.drop (8*k)).take 8
def word(l:List Nat)(k:Nat):Nat:=NJ (seg l k)
theorem alP{l:List Nat}{i:Nat}(hi:i<l.length):List.take 1 (List.drop i (ai eY l))=[.int .u8 (.lit ((l[i]:Nat):Int))]:=by have:=Jq.at hi;rw[Nat.mul_one]at this;exact this
theorem aqJ{l:List Nat}{i:Nat}(hi:i<l.length):(ai eY l)[i]?=some (.int .u8 (.lit ((l[i]:Nat):Int))):=by
 have h1:∀(l:List Nat),ai eY l=l.map fun b:Nat=>AV.int .u8 (.lit (b:Int)):=fun l=>by
  induction l with
  |nil=>rfl
  |cons a l ih=>rw[dm,ih];rfl
 rw[h1,List.getElem?_map,A6 hi];rfl
theorem aiK{s:List Nat}{j:Nat}(hj:j<s.length):NJ (s.drop j)=orU (adv (NJ (s.drop (j+1))) 8) (UB (s[j]:Nat)):=by rw[zqt hj];rfl
variable{C:bU}{X:Kn}(S:Std C X)(H:PU C)
include H
theorem Wy{c:AV}{l:List Nat}(hc:gR 1 eY c l){h:T ag}{nx:Key}:aM C j7 [c] h nx (fun o h' nx'=>o=.ret (.fn dS [] [.ptr nx 0])∧ae nx h'=Qw [c]∧nx'=nx.succ∧Ext h nx h' nx'):=by have s1:=kTSu nx;have kc:=hc.cell;refine H.JF.call ?_;simp[Hx];simp[Hy,kc.1,kc.2];simp[Hz];exact E0 h nx _
structure Grp(C:bU)(c:AV)(l:List Nat)(b1 lk:Key)(Inv:Nat→T ag→Key→Prop)(R:Out→T ag→Key→Prop):Prop where
 has:∀k h nx,Inv k h nx→ae b1 h=Qw [c]
 yld:∀k h nx,k<nw l→Inv k h nx→AU C lk [np (word l k)] h nx (fun o h' nx'=>o=.ret (.bool true)∧Inv (k+1) h' nx')
 fin:∀h nx,Inv (nw l) h nx→R (.ret (.tuple [])) h nx
structure GrA(b1 lk:Key)(a:Nat)(tm:T AV):Prop where
 g0:ae (K 0) tm=some (.yld lk)
 g1:ae (K 1) tm=some (.ptr b1 0)
 g3:ae (K 3) tm=some (I (a:Int))
def GrI(l:List Nat)(b1 lk:Key)(Inv:Nat→T ag→Key→Prop)(m:Nat)(tm':T AV)(h':T ag)(nx':Key):Prop:=∃k a:Nat,m=nw l-k∧k≤nw l∧a=8*k∧GrA b1 lk a tm'∧Inv k h' nx'
def GrJ(s:List Nat)(b1 lk:Key)(a:Nat)(h:T ag)(nx:Key)(m:Nat)(tm':T AV)(h':T ag)(nx':Key):Prop:=m≤s.length∧GrA b1 lk a tm'∧ae (K 4) tm'=some (np (NJ (s.drop m)))∧ae (K 5) tm'=some (I ((a:Int)+(m:Int)-1))∧h'=h∧nx'=nx
theorem avq{l:List Nat}(hl:l.length≤1000000){b1 lk:Key}{k a:Nat}(Ec:a=8*k)(hk:a<l.length){c:AV}(hc:c=.sl (ai eY l) l.length 1 .any){h:T ag}{nx:Key}(hb:ae b1 h=Qw [c]){Q:cJ}{m:Nat}{tm:T AV}(A:GrJ (seg l k) b1 lk a h nx m tm h nx)
  (gC:∀tm',GrA b1 lk a tm'→ae (K 4) tm'=some (np (word l k))→Q .norm tm' h nx) :
  W C (.loop tB) (az 2 Q) tm h nx:=by
 have hs:(seg l k).length≤8:=by unfold seg;rw[Zo];omega
 refine W.eB (GrJ (seg l k) b1 lk a h nx) A ?_;rintro m dF h2 aN ⟨hm,⟨g0,g1,g3⟩,g4,g5,rfl,rfl⟩;refine W.of ?_;simp[tB];cases m with
 |zero=>
  have cH:(a:Int)-1<(a:Int):=by omega
  simp at g5;simp[tC,g3,g5,cH];refine gC _ ⟨by simp[g0],by simp[g1],by simp[g3]⟩ (by simp[g4,word])
 |succ j=>
  have hjs:j<(seg l k).length:=by omega
  have hsl:(seg l k).length=min 8 (l.length-8*k):=by unfold seg;rw[Zo,List.length_drop]
  have hi:a+j<l.length:=by omega
  have hsj:(seg l k)[j]=l[a+j]:=by
   have h1:(seg l k)[j]?=some l[a+j]:=by unfold seg;rw[List.getElem?_take,if_pos (by omega),List.getElem?_drop,←Ec,A6 hi]
   rw[A6 hjs]at h1;exact Option.some.inj h1
  have g5':ae (K 5) dF=some (I ((a+j:Nat):Int)):=by
   rw[g5];have:(a:Int)+((j+1:Nat):Int)-1=((a+j:Nat):Int):=by omega
   rw[this]
  have hle:¬a+j<a:=by omega
  have hws:=aiK hjs;rw[hsj]at hws;have hx:=aqJ hi;have h1l:1≤(ai eY l).length-(a+j):=by rw[Jq.rows];omega
  have hy:=alP hi;generalize hwo:NJ (List.drop (j+1) (seg l k))=w0 at *;generalize Nb:l[a+j]=b0 at *;generalize Zn:a+j=ii at *;have hcu:bF .u64 (b0:Int)=((UB b0:Nat):Int):=Ow _;have hwi:bF .i64 ((ii:Int)-1)=(ii:Int)-1:=aH (by omega) (by omega);simp[tC,g3,g5',hle];simp[BC,g1,g4,g5',hb,hc,hi,hx,hy,h1l,hcu,↓alR w0,↓avs (adv w0 8) (UB b0)];simp[BD,g5',hwi];refine⟨j,by omega,by omega,⟨by simp[g0],by simp[g1],by simp[g3]⟩,by simp[hws],?_,rfl,rfl⟩;simp;omega
theorem avt{l:List Nat}(hl:l.length≤1000000){b1 lk:Key}{a s:Nat}(hk:a<l.length)(hs:s=min 8 (l.length-a)){c:AV}(hc:c=.sl (ai eY l) l.length 1 .any){h:T ag}{nx:Key}(hb:ae b1 h=Qw [c]){Q:cJ}{tm:T AV}(G:GrA b1 lk a tm)
  (hQ:∀tm',GrA b1 lk a tm'→ae (K 4) tm'=ae (K 4) tm→ae (K 5) tm'=some (I ((a:Int)+(s:Int)-1))→Q .norm tm' h nx):fJ C (.ops mO) Q tm h nx:=by
 obtain⟨g0,g1,g3⟩:=G;have hw8:bF .i64 ((a:Int)+8)=(a:Int)+8:=aH (by omega) (by omega);have hws:bF .i64 ((a:Int)+(s:Int)-1)=(a:Int)+(s:Int)-1:=aH (by omega) (by omega);by_cases h8:(l.length:Int)<(a:Int)+8
 ·have e:(l.length:Int)-1=(a:Int)+(s:Int)-1:=by omega
  simp[mO,g1,g3,hb,hc,hw8,h8,e,hws];exact hQ _ ⟨by simp[g0],by simp[g1],by simp[g3]⟩ (by simp) (by simp)
 ·have e:(a:Int)+8-1=(a:Int)+(s:Int)-1:=by omega
  simp[mO,g1,g3,hb,hc,hw8,h8,e,hws];exact hQ _ ⟨by simp[g0],by simp[g1],by simp[g3]⟩ (by simp) (by simp)
theorem S6{c:AV}{l:List Nat}(hc:gR 1 eY c l)(hl:l.length≤1000000){b1 lk:Key}{Inv:Nat→T ag→Key→Prop}{R:Out→T ag→Key→Prop}(A:Grp C c l b1 lk Inv R){h:T ag}{nx:Key}(h0:Inv 0 h nx) :
  aM C dS [.yld lk,.ptr b1 0] h nx R:=by
 refine H.pj.call ?_;simp[z7];simp[BE];refine W.eB (n:=nw l) (GrI l b1 lk Inv) ⟨0,0,by simp,by omega,rfl,⟨by simp,by simp,by simp⟩,h0⟩ ?_;rintro m dF h1 bW ⟨k,a,rfl,hk,Ec,⟨g0,g1,g3⟩,hI⟩;have hb:=A.has _ _ _ hI;refine W.of ?_;simp[BF];by_cases M6:k<nw l
 ·have hkl:a<l.length:=by unfold nw at M6;omega
  have NF:c=.sl (ai eY l) l.length 1 .any:=by
   rcases hc with⟨_,e⟩|e
   ·rw[e]at hkl;simp at hkl
   ·exact e
  have hsl:(seg l k).length=min 8 (l.length-a):=by unfold seg;rw[Zo,List.length_drop,Ec]
  have hw8:bF .i64 ((a:Int)+8)=(a:Int)+8:=aH (by omega) (by omega);simp[mP,g1,g3,hb,NF,hkl];simp[BG];refine Nu (avt (C:=C) H hl (b1:=b1) (lk:=lk) hkl hsl NF hb ⟨by simp[g0],by simp[g1],by simp[g3]⟩ (fun tm2 G2 p4 p5=>?_));simp at p4;simp;refine avq H hl Ec hkl NF hb (m:=(seg l k).length) ⟨dQ _,G2,?_,p5,rfl,rfl⟩ (fun K1 G3 r4=>?_)
  ·rw[p4,List.drop_length];rfl
  ·obtain⟨r0,r1,r3⟩:=G3;simp[BH,r0,r4];refine(A.yld k _ _ M6 hI).mono ?_;rintro o h4 kK ⟨rfl,hI4⟩;simp;simp[BI,r3,hw8];exact⟨nw l-(k+1),by omega,k+1,a+8,rfl,by omega,by omega,⟨by simp[r0],by simp[r1],by simp⟩,hI4⟩
 ·have hke:k=nw l:=by omega
  subst hke;have hnl:¬a<l.length:=by rw[Ec];unfold nw;omega
  rcases id hc with⟨e0,e1⟩|e0
  ·subst e1;have hn0:¬(a:Int)<0:=by omega
   simp[mP,g1,g3,hb,e0,hn0];exact A.fin _ _ hI
  ·simp[mP,g1,g3,hb,e0,hnl];exact A.fin _ _ hI
end Ln
namespace Ln
open Go.Sx Go
def fsU(s:Nat)(l:List Nat)(k:Nat):Nat:=(List.range k).foldl (fun s j=>MK s (word l j)) s
theorem aoZ(s:Nat)(l:List Nat)(k:Nat):fsU s l (k+1)=MK (fsU s l k) (word l k):=by unfold fsU;rw[List.range_succ,List.foldl_append,List.foldl_cons,List.foldl_nil]
structure SmI(c:AV)(b1 b5 n0 d lk:Key)(h0:T ag)(ds:List Key)(L:ag)(v:AV)(h:T ag)(nx:Key):Prop where
 fl:ae lk h=some L
 f1:ae b1 h=Qw [c]
 f5:ae b5 h=Qw [v]
 lt:lk.toNat<nx.toNat∧b1.toNat<nx.toNat∧b5.toNat<nx.toNat
 ds:jO n0 (d ::ds) h nx
 e:Ext h0 n0 h nx
variable{C:bU}{X:Kn}(S:Std C X)(H:PU C)
include S H
theorem akb{c:AV}{l:List Nat}(hc:gR 1 eY c l)(hl:l.length≤1000000){b1 b5 n0:Key}{h0:T ag}{s:Nat}{Q:pV}{ds:List Key}{tm:T AV}{h:T ag}{nx:Key}(g11:ae (K 11) tm=some (.fn dS [] [.ptr b1 0]))(g5:ae (K 5) tm=some (.ptr b5 0))(v1:ae b1 h=Qw [c])(v5:ae b5 h=Qw [np s])(lt:b1.toNat<nx.toNat∧b5.toNat<nx.toNat)(Gx:n0.toNat≤b5.toNat)(aJO:b1≠b5)(D:jO n0 ds h nx)(e0:Ext h0 n0 h nx)
  (ME:∀BS h' nx',ae b5 h'=Qw [np (fsU s l (nw l))]→b5.toNat<nx'.toNat→jO n0 BS h' nx'→Ext h0 n0 h' nx'→Q .norm BS tm h' nx') :
  V C (.rangeF (.t (K 11)) [K 12] (.ops dh) (.block 1 (.ops xm))) Q ds tm h nx:=by
 have rM:=S.r ik;have s1:=kTSu nx;have s2:=kTSu nx.succ;have n0x:=e0.n;refine V.rangeF (g:=dS) (first:=[]) (cap:=[.ptr b1 0]) g11 H.pj.off ?_;intro fn res;have e1:=(E0 h nx (.dfs false)).trans (E0 _ nx.succ (.loop .ready none fn tm res [K 12] (.ops dh) (.block 1 (.ops xm)) nx));generalize Zr:(aL.block 1 (.ops xm))=body at *;have I6:nx∉ds:=fun hm=>by have:=D.lt nx hm;omega
 have gd:ae nx (kW fn tm res [K 12] (.ops dh) body h nx)=some (.dfs false):=by unfold kW;rw[aw (by omega)];simp
 have gl:ae nx.succ (kW fn tm res [K 12] (.ops dh) body h nx)=some (.loop .ready none fn tm res [K 12] (.ops dh) body nx):=by unfold kW;simp
 have Gp:Ext h nx (kW fn tm res [K 12] (.ops dh) body h nx) nx.succ.succ:=e1;generalize kW fn tm res [K 12] (.ops dh) body h nx=hL at *;refine S6 H hc hl (b1:=b1) (lk:=nx.succ) (Inv:=fun k h' nx'=>SmI c b1 b5 n0 nx nx.succ h0 ds (.loop .ready none fn tm res [K 12] (.ops dh) body nx) (np (fsU s l k)) h' nx') ⟨?_,?_,?_⟩ ⟨gl,by rw[Gp.g _ lt.1];exact v1,by rw[Gp.g _ lt.2];exact v5,by omega,(D.ext Gp).cons I6 gd n0x (by omega),e0.trans Gp⟩
 ·rintro k h1 bW A;exact A.f1
 ·rintro k h1 bW hk A;refine AU.intro (fun tm2 h2 aN=>aN=bW∧h2=h1∧ae (K 6) tm2=some (np (word l k))∧ae (K 5) tm2=some (.ptr b5 0)) A.fl rfl ?_ ?_
  ·simp[dh,g5]
  ·rintro tm2 h2 aN ⟨rfl,rfl,g6,g5'⟩;refine⟨A.fl,?_⟩;have hn5:nx.succ≠b5:=fun e=>by have:=congrArg Key.toNat e;omega
   have v53:ae b5 (au nx.succ (some (.loop .busy none fn tm res [K 12] (.ops dh) body nx)) h2)=Qw [np (fsU s l k)]:=by rw[aG _ _ _ _ (fun e=>hn5 e.symm)];exact A.f5
   have lk3:ae nx.succ (au nx.succ (some (.loop .busy none fn tm res [K 12] (.ops dh) body nx)) h2)=some (.loop .busy none fn tm res [K 12] (.ops dh) body nx):=by simp
   have nc2:∀b:Key,b≠nx.succ→ae b (au nx.succ (some (.loop .busy none fn tm res [K 12] (.ops dh) body nx)) h2)=ae b h2:=fun b hb=>aG _ _ _ _ hb;generalize au nx.succ (some (.loop .busy none fn tm res [K 12] (.ops dh) body nx)) h2=h3 at *;generalize hrq:HS _ nx.succ fn tm res [K 12] (.ops dh) body nx=RQ;rw[←Zr];simp;simp[xm,g6,g5',v53,rM];refine(Y4 S H _ _).mono ?_;rintro o h4 kK ⟨rfl,rfl,rfl⟩;simp[g5',v53];rw[←hrq];have bT:b5≠nx.succ:=fun e=>hn5 e.symm;refine⟨⟨none,by rw[aG _ _ _ _ hn5];exact lk3⟩,rfl,?_⟩;have gb:∀b:Key,b≠nx.succ→b≠b5→ae b (au nx.succ (some (.loop .ready none fn tm res [K 12] (.ops dh) body nx)) (au b5 (Qw [np (MK (fsU s l k) (word l k))]) h4))=ae b h2:=fun b h1 h2=>by rw[aG _ _ _ _ h1,aG _ _ _ _ h2,nc2 b h1]
   have lkc:=A.fl;refine⟨by simp,?_,?_,A.lt,?_,?_⟩
   ·rw[gb b1 (fun e=>by rw[e]at lt;omega) aJO];exact A.f1
   ·rw[aG _ _ _ _ bT,gTSm,aoZ]
   ·refine A.ds.bZ (dQ _) fun b _ hg=>?_;rw[gb b (by rintro rfl;rw[A.fl]at hg;cases hg) (by rintro rfl;rw[A.f5]at hg;cases hg)];exact hg
   ·refine⟨A.e.n,fun b hb=>?_⟩;rw[gb b (fun e=>by rw[e]at hb;omega) (fun e=>by rw[e]at hb;omega)];exact A.e.g b hb
 ·rintro h1 bW A;refine⟨_,rfl,.ready,none,A.fl,by simp,?_⟩;refine ME _ _ _ ?_ A.lt.2.2 ?_ ?_
  ·rw[aG _ _ _ _ (fun e=>by have:=congrArg Key.toNat e;omega)];exact A.f5
  ·refine A.ds.bZ (dQ _) fun b _ hg=>?_;rw[aG _ _ _ _ (by rintro rfl;rw[A.fl]at hg;cases hg)];exact hg
  ·exact A.e.put (by omega)
def Zi:List Nat:=[118,97,108,117,101]
def fsW(s:Nat)(ws:List Int):Nat:=ws.foldl (fun s w=>MK s (UB w)) s
def ai3(ws:List Int):Nat:=MK (fsW (MK (MK (fsU 0 Zi (nw Zi)) 5) (UB (ws.length:Int))) ws) 0
omit S H in
theorem ao0{s:Nat}{ws:List Int}{j:Nat}(hj:j<ws.length):fsW s (ws.take (j+1))=MK (fsW s (ws.take j)) (UB ws[j]):=by unfold fsW;rw[zqu hj,List.foldl_append,List.foldl_cons,List.foldl_nil]
def aCh(c1:AV)(ws:List Int)(b5 n0:Key)(s:Nat)(h0:T ag)(ds:List Key)(m:Nat)(tm':T AV)(h':T ag)(nx':Key):Prop:=∃j:Nat,m=ws.length-j∧j≤ws.length∧ae (K 26) tm'=some c1∧ae (K 27) tm'=some (I ws.length)∧ae (K 28) tm'=some (I j)∧ae (K 5) tm'=some (.ptr b5 0)∧ae b5 h'=Qw [np (fsW s (ws.take j))]∧b5.toNat<nx'.toNat∧Ext h0 n0 h' nx'∧jO n0 ds h' nx'
theorem agq{c1:AV}{ws:List Int}(hw:gR 1 eI c1 ws)(hl:ws.length≤1000000){b5 n0:Key}{s:Nat}{h0:T ag}{ds:List Key}(Gx:n0.toNat≤b5.toNat){Q:cJ}{m:Nat}{tm:T AV}{h:T ag}{nx:Key}(A:aCh c1 ws b5 n0 s h0 ds m tm h nx)
  (gC:∀tm' h' nx',ae (K 5) tm'=some (.ptr b5 0)→ae b5 h'=Qw [np (fsW s ws)]→Ext h0 n0 h' nx'→jO n0 ds h' nx'→Q .norm tm' h' nx') :
  W C (.loop Ig) (az 2 Q) tm h nx:=by
 have rM:=S.r ik;refine W.eB (aCh c1 ws b5 n0 s h0 ds) A ?_;rintro m dF h1 bW ⟨j,rfl,hj,g26,g27,g28,g5,v5,lt5,e1,D1⟩;refine W.of ?_;simp[Ig];by_cases bY:j<ws.length
 ·have Bh:(j:Int)<ws.length:=by omega
  have NF:c1=.sl (ai eI ws) ws.length 1 .any:=by
   rcases hw with⟨_,e⟩|e
   ·rw[e]at bY;simp at bY
   ·exact e
  have hx:=zd bY;have Ky:1≤(ai eI ws).length-j:=by rw[eF];omega
  have fI:=ao0 (s:=s) bY;have hcu:bF .u64 ws[j]=((UB ws[j]:Nat):Int):=Ow _;simp[Ie,g27,g28,Bh];simp[PJ,g26,g28,NF,bY,hx,Ky];simp[MU,g5,v5,hcu,rM];refine(Y4 S H _ _).mono ?_;rintro o h2 aN ⟨rfl,rfl,rfl⟩;simp[g5,v5];simp[MV,g28];rw[aH (by omega) (by omega)];exact⟨ws.length-(j+1),by omega,j+1,rfl,by omega,by simp[g26,NF],by simp[g27],by simp,by simp[g5],by rw[fI];simp,lt5,e1.put Gx,D1.bZ (dQ _) fun b _ hg=>by rw[aG _ _ _ _ (by rintro rfl;rw[v5]at hg;cases hg)];exact hg⟩
 ·have yi:j=ws.length:=by omega
  subst yi;rw[List.take_length]at v5;simp[Ie,g27,g28];exact gC _ _ _ (by simp[g5]) v5 e1 D1
theorem aib(s w:Nat)(z:Int)(hz:z=(w:Int)){h:T ag}{nx:Key}:aM C ik [np s,.int .u64 (.lit z)] h nx (fun o h' nx'=>o=.ret (np (MK s w))∧h'=h∧nx'=nx):=by subst hz;exact Y4 S H s w
theorem avH{c1:AV}{ws:List Int}(hw:gR 1 eI c1 ws)(hl:ws.length≤1000000){h:T ag}{nx:Key} :
  aM C Af [.str 5 435761734006,c1] h nx (fun o h' nx'=>o=.ret (np (ai3 ws))∧Ext h nx h' nx'):=by
 have rM:=S.r ik;have rG:=S.r j7;have s1:=kTSu nx;have hcL:gR 1 eY (.sl (ai eY Zi) 5 1 .any) Zi:=.inr rfl;have hbL:bytesOf 5 435761734006=ai eY Zi:=rfl;have hz:∀H,aW 9999 (.sl (ai eY Zi) 5 1 .any) H=(.sl (ai eY Zi) 5 1 .any,H):=fun H=>hcL.wH _ _;refine H.Ti.callV ?_;simp[Tj];simp[PD];simp[PE];have e1:=E0 h nx (.cells [np 0] .fix);have v5:ae nx (au nx (Qw [np 0]) h)=Qw [np 0]:=by simp
 have hu0:(AV.int .u64 (.lit 0))=np 0:=rfl;simp only[hu0];generalize au nx (Qw [np 0]) h=h1 at *;simp[PF,hbL,rG,hz];refine(Wy H hcL).mono ?_;rintro o h2 aN ⟨rfl,v1,rfl,e2⟩;have s2:=kTSu nx.succ;simp;have v52:ae nx h2=Qw [np 0]:=by rw[e2.g nx (by omega)];exact v5
 refine akb S H hcL (by decide) (b1:=nx.succ) (b5:=nx) (n0:=nx) (h0:=h) (s:=0) ?_ ?_ v1 v52 (by omega) (dQ _) (fun e=>by have:=congrArg Key.toNat e;omega) (jO.nil _ _ _) (e1.trans e2) ?_
 ·simp
 ·simp
 intro ds h3 bP v53 lt3 D3 e3;have hw5:bF .u64 5=((5:Nat):Int):=by decide
 generalize hs0:fsU 0 Zi (nw Zi)=s0 at *;simp;simp[PG,v53,hw5,rM];refine(aib S H s0 5 5 (by omega)).mono ?_;rintro o h4 kK ⟨rfl,rfl,rfl⟩;have hwl:bF .u64 (ws.length:Int)=((UB (ws.length:Int):Nat):Int):=Ow _;generalize hs1:MK s0 5=s1' at *;simp[v53];have e4:Ext h nx (au nx (Qw [np s1']) h4) kK:=e3.put (dQ _);have v54:ae nx (au nx (Qw [np s1']) h4)=Qw [np s1']:=by simp
 have D4:jO nx ds (au nx (Qw [np s1']) h4) kK:=D3.bZ (dQ _) fun b _ hg=>by rw[aG _ _ _ _ (by rintro rfl;rw[v53]at hg;cases hg)];exact hg
 generalize au nx (Qw [np s1']) h4=h5 at *;have hR:=hw.rd h5 kK;simp[↓hR.ln,PH,v54,hwl,rM];refine(Y4 S H s1' (UB (ws.length:Int))).mono ?_;rintro o h6 Bu ⟨rfl,rfl,rfl⟩;generalize hs2:MK s1' (UB (ws.length:Int))=s2' at *;simp[v54];have e6:Ext h nx (au nx (Qw [np s2']) h6) Bu:=e4.put (dQ _);have v56:ae nx (au nx (Qw [np s2']) h6)=Qw [np s2']:=by simp
 have D6:jO nx ds (au nx (Qw [np s2']) h6) Bu:=D4.bZ (dQ _) fun b _ hg=>by rw[aG _ _ _ _ (by rintro rfl;rw[v54]at hg;cases hg)];exact hg
 generalize au nx (Qw [np s2']) h6=h7 at *;have hR7:=hw.rd h7 Bu;simp[↓hR7.ln,PI];have hz0:fsW s2' (ws.take 0)=s2':=by rw[List.take_zero];unfold fsW;rw[List.foldl_nil]
 refine V.aue (agq S H hw hl (b5:=nx) (n0:=nx) (s:=s2') (h0:=h) (ds:=ds) (m:=ws.length) (dQ _) ⟨0,by simp,by omega,by simp,by simp,by simp,by simp,by rw[hz0];exact v56,by omega,e6,D6⟩ ?_);have UO:ai3 ws=MK (fsW s2' ws) 0:=by unfold ai3;rw[hs0,hs1,hs2]
 rw[UO];generalize fsW s2' ws=fw;intro tm' h8 nx8 g5 v8 e8 D8;simp;simp[MW,g5,v8,rM];refine(aib S H fw 0 0 (by omega)).mono ?_;rintro o h9 nx9 ⟨rfl,rfl,rfl⟩;generalize MK fw 0=fz;simp;refine⟨D8.nodup,D8.get,fun h10 h11=>?_⟩;refine⟨[np fz],by simp,rfl,e8.n,fun b hb=>?_⟩;have:b∉ds:=fun hm=>by have:=D8.ge b hm;omega
 simp;rw[h11 b this];exact e8.g b hb
end Ln
namespace Ln
open Go.Sx Go
theorem aaG{bb:Key}{ws:List Int}{rest:List AV}{h:T ag}{nx:Key}(hb:ae bb h=Qw (ai eI ws++rest))(hr:0<rest.length)(hl:ws.length+1≤1048576)(x:Int) :
  appendTo 1 (.slice bb 0 ws.length 1) [I x] 1 h nx=.val (.slice bb 0 (ws.length+1) 1) (au bb (Qw (ai eI (ws ++ [x])++rest.drop 1)) h) nx:=by
 have hlen:=eF ws;have h1:ws.length+1≤ws.length+rest.length:=by omega
 have ht:List.take ws.length (ai eI ws++rest)=ai eI ws:=by rw[List.take_append_of_le_length (by omega),PV (by omega)]
 have hd:List.drop (ws.length+1) (ai eI ws++rest)=rest.drop 1:=by rw[zqq,List.drop_eq_nil_of_le (by omega),hlen,List.nil_append];congr 1;omega
 have hra:ai eI (ws ++ [x])=ai eI ws ++ [I x]:=by rw[kG,kD];rfl
 simp[hb,hl,hlen,h1,ht,hd,hra]
theorem amE{n:Nat}{b:Key}{len:Nat}{l:List AV}{H:T ag}(hg:ae b H=Qw l)(hl:len≤l.length)(hs:∀x∈l.take len,UC x):aW (n+1) (.slice b 0 len 1) H=(.sl (l.take len) len 1 .any,au b (some (.cells l .ro)) H):=by simp only[aW,L9,hg,List.drop_zero];rw[if_pos (by omega),Nat.mul_one,dw hs]
theorem amD(n:Nat)(x:AV):(Kg n [x] []).length=n:=by rw[repL_eq,List.append_nil];simp
def NR(l:List Nat)(k:Nat):List Int:=(List.range k).map fun j=>bF .i64 (word l j:Int)
theorem Td(l:List Nat)(k:Nat):(NR l k).length=k:=by simp[NR]
theorem ajq(l:List Nat)(k:Nat):NR l (k+1)=NR l k ++ [bF .i64 (word l k:Int)]:=by unfold NR;rw[List.range_succ,List.map_append,zqx,List.map_nil]
def aag(l:List Nat):Nat:=ai3 (NR l (nw l) ++ [(l.length:Int)])
structure ByI(c:AV)(l:List Nat)(b1 b5 bb n0 d lk:Key)(h0:T ag)(ds:List Key)(L:ag)(cap:Nat)(k:Nat)(h:T ag)(nx:Key):Prop where
 fl:ae lk h=some L
 f1:ae b1 h=Qw [c]
 f5:ae b5 h=Qw [.slice bb 0 k 1]
 fb:∃rest,ae bb h=Qw (ai eI (NR l k)++rest)∧k+rest.length=cap
 ds:jO n0 (d ::ds) h nx
 e:Ext h0 n0 h nx
variable{C:bU}{X:Kn}(S:Std C X)(H:PU C)
include S H
theorem aaF{c:AV}{l:List Nat}(hc:gR 1 eY c l)(hl:l.length≤1000000){b1 b5 bb n0:Key}{h0:T ag}{cap:Nat}(xq:nw l+1≤cap){Q:pV}{ds:List Key}{tm:T AV}{h:T ag}{nx:Key}(g13:ae (K 13) tm=some (.fn dS [] [.ptr b1 0]))(g5:ae (K 5) tm=some (.ptr b5 0))(v1:ae b1 h=Qw [c])(v5:ae b5 h=Qw [.slice bb 0 0 1])(vb:∃rest,ae bb h=Qw rest∧rest.length=cap)(o1:bb.toNat<b5.toNat)(o2:b5.toNat<b1.toNat)(o3:b1.toNat<nx.toNat)(Gx:n0.toNat≤bb.toNat)(D:jO n0 ds h nx)(e0:Ext h0 n0 h nx)
  (ME:∀BS h' nx' rest,ae b5 h'=Qw [.slice bb 0 (nw l) 1]→ae bb h'=Qw (ai eI (NR l (nw l))++rest)→nw l+rest.length=cap→nx.toNat≤nx'.toNat→jO n0 BS h' nx'→Ext h0 n0 h' nx'→Q .norm BS tm h' nx') :
  V C (.rangeF (.t (K 13)) [K 14] (.ops cw) (.block 1 (.ops qQ))) Q ds tm h nx:=by
 have s1:=kTSu nx;have s2:=kTSu nx.succ;have n0x:=e0.n;refine V.rangeF (g:=dS) (first:=[]) (cap:=[.ptr b1 0]) g13 H.pj.off ?_;intro fn res;have e1:=(E0 h nx (.dfs false)).trans (E0 _ nx.succ (.loop .ready none fn tm res [K 14] (.ops cw) (.block 1 (.ops qQ)) nx));generalize Zr:(aL.block 1 (.ops qQ))=body at *;have I6:nx∉ds:=fun hm=>by have:=D.lt nx hm;omega
 have gd:ae nx (kW fn tm res [K 14] (.ops cw) body h nx)=some (.dfs false):=by unfold kW;rw[aw (by omega)];simp
 have gl:ae nx.succ (kW fn tm res [K 14] (.ops cw) body h nx)=some (.loop .ready none fn tm res [K 14] (.ops cw) body nx):=by unfold kW;simp
 have Gp:Ext h nx (kW fn tm res [K 14] (.ops cw) body h nx) nx.succ.succ:=e1;generalize kW fn tm res [K 14] (.ops cw) body h nx=hL at *;obtain⟨rest,vb1,vb2⟩:=vb;refine S6 H hc hl (b1:=b1) (lk:=nx.succ) (Inv:=fun k h' nx'=>ByI c l b1 b5 bb n0 nx nx.succ h0 ds (.loop .ready none fn tm res [K 14] (.ops cw) body nx) cap k h' nx'∧nx.succ.succ.toNat≤nx'.toNat) ⟨?_,?_,?_⟩ ⟨⟨gl,by rw[Gp.g _ o3];exact v1,by rw[Gp.g _ (by omega)];exact v5,⟨rest,by rw[Gp.g _ (by omega)];exact vb1,by omega⟩,(D.ext Gp).cons I6 gd n0x (by omega),e0.trans Gp⟩,dQ _⟩
 ·rintro k h1 bW ⟨A,_⟩;exact A.f1
 ·rintro k h1 bW hk ⟨A,hn1⟩;refine AU.intro (fun tm2 h2 aN=>aN=bW∧h2=h1∧ae (K 6) tm2=some (np (word l k))∧ae (K 5) tm2=some (.ptr b5 0)) A.fl rfl ?_ ?_
  ·simp[cw,g5]
  ·rintro tm2 h2 aN ⟨rfl,rfl,g6,g5'⟩;refine⟨A.fl,?_⟩;obtain⟨rs,fb,hrs⟩:=A.fb;have t2:=kTSu aN;have n5:b5≠nx.succ:=fun e=>by rw[e]at o2;omega
   have nb:bb≠nx.succ:=fun e=>by rw[e]at o1;omega
   have n1:b1≠nx.succ:=fun e=>by rw[e]at o3;omega
   have n15:b1≠b5:=fun e=>by rw[e]at o2;omega
   have n1b:b1≠bb:=fun e=>by rw[e]at o2;omega
   have n5b:b5≠bb:=fun e=>by rw[e]at o1;omega
   have v53:ae b5 (au nx.succ (some (.loop .busy none fn tm res [K 14] (.ops cw) body nx)) h2)=Qw [.slice bb 0 k 1]:=by rw[aG _ _ _ _ n5];exact A.f5
   have lk3:ae nx.succ (au nx.succ (some (.loop .busy none fn tm res [K 14] (.ops cw) body nx)) h2)=some (.loop .busy none fn tm res [K 14] (.ops cw) body nx):=by simp
   have nc2:∀b:Key,b≠nx.succ→ae b (au nx.succ (some (.loop .busy none fn tm res [K 14] (.ops cw) body nx)) h2)=ae b h2:=fun b hb=>aG _ _ _ _ hb;generalize au nx.succ (some (.loop .busy none fn tm res [K 14] (.ops cw) body nx)) h2=h3 at *;generalize hrq:HS _ nx.succ fn tm res [K 14] (.ops cw) body nx=RQ;rw[←Zr];have hsu:=ajq l k;generalize hwz:bF .i64 (word l k:Int)=wz at *;have ap:=aaG (bb:=bb) (ws:=NR l k) (rest:=rs) (h:=au aN (Qw [I wz]) h3) (nx:=aN.succ) (by rw[aw (by omega),nc2 bb nb];exact fb) (by omega) (by rw[Td];unfold nw at hk;omega) wz;rw[Td]at ap;have v54:∀B,ae b5 (au bb B (au aN (Qw [I wz]) h3))=Qw [.slice bb 0 k 1]:=fun B=>by rw[aG _ _ _ _ n5b,aw (by omega)];exact v53
   simp;simp[-appendTo,qQ,g6,g5',v53,hwz,ap,v54];rw[←hrq];have gq:∀b:Key,b.toNat<aN.toNat→b≠b5→b≠bb→b≠nx.succ→∀B1 B2 B3 B4,ae b (au nx.succ B4 (au b5 B3 (au bb B2 (au aN B1 h3))))=ae b h2:=fun b h0 h1 h2 h3 B1 B2 B3 B4=>by rw[aG _ _ _ _ h3,aG _ _ _ _ h1,aG _ _ _ _ h2,aw h0,nc2 b h3]
   refine⟨⟨none,by rw[aG _ _ _ _ (Ne.symm n5),aG _ _ _ _ (Ne.symm nb),aw (by omega)];exact lk3⟩,rfl,⟨by simp,?_,?_,?_,?_,?_⟩,by omega⟩
   ·rw[gq b1 (by omega) n15 n1b n1];exact A.f1
   ·rw[aG _ _ _ _ n5,gTSm]
   ·refine⟨rs.tail,?_,?_⟩
    ·rw[aG _ _ _ _ nb,aG _ _ _ _ (Ne.symm n5b),gTSm,hsu]
    ·rw[List.length_tail];omega
   ·refine A.ds.bZ (by omega) fun b hb hg=>?_;rw[gq b hb (by rintro rfl;rw[A.f5]at hg;cases hg) (by rintro rfl;rw[fb]at hg;cases hg) (by rintro rfl;rw[A.fl]at hg;cases hg)];exact hg
   ·have nA:=A.e.n;refine⟨by omega,fun b hb=>?_⟩;rw[gq b (by omega) (fun e=>by rw[e]at hb;omega) (fun e=>by rw[e]at hb;omega) (fun e=>by rw[e]at hb;omega)];exact A.e.g b hb
 ·rintro h1 bW ⟨A,hn1⟩;obtain⟨rs,fb,hrs⟩:=A.fb;refine⟨_,rfl,.ready,none,A.fl,by simp,?_⟩;refine ME _ _ _ rs ?_ ?_ hrs (by omega) ?_ ?_
  ·rw[aG _ _ _ _ (fun e=>by rw[e]at o2;omega)];exact A.f5
  ·rw[aG _ _ _ _ (fun e=>by rw[e]at o1;omega)];exact fb
  ·refine A.ds.bZ (dQ _) fun b _ hg=>?_;rw[aG _ _ _ _ (by rintro rfl;rw[A.fl]at hg;cases hg)];exact hg
  ·exact A.e.put (by omega)
end Ln
namespace Ln
open Go.Sx Go
variable{C:bU}{X:Kn}(S:Std C X)(H:PU C)
include S H
theorem aly{c:AV}{l:List Nat}(hc:gR 1 eY c l)(hl:l.length≤1000000){h:T ag}{nx:Key} :
  aM C tn [.str 5 435761734006,c] h nx (fun o h' nx'=>o=.ret (np (aag l))∧Ext h nx h' nx'):=by
 have rG:=S.r j7;have rS:=S.r Af;have s1:=kTSu nx;have s2:=kTSu nx.succ;have s3:=kTSu nx.succ.succ;have hcz:∀H,aW 9999 c H=(c,H):=fun H=>hc.wH _ _;have hR:=hc.rd h nx;obtain⟨q,hqd⟩:∃q,q=l.length / 8:=⟨_,rfl⟩;obtain⟨cap,hcd⟩:∃cap,cap=q+2:=⟨_,rfl⟩;have hq:bF .i64 ((l.length:Int) / 8)=(q:Int):=by
  have:(l.length:Int) / 8=(q:Int):=by omega
  rw[this];exact aH (by omega) (by omega)
 have hq2:bF .i64 ((q:Int)+2)=(cap:Int):=by
  have:(q:Int)+2=(cap:Int):=by omega
  rw[this];exact aH (by omega) (by omega)
 have xq:nw l+1≤cap:=by unfold nw;omega
 have NF:cap≤1048576:=by omega
 have aGy:ta (AV.int .i64 (.lit (cap:Int)))=some cap:=rfl;refine H.Mk.callV ?_;simp[Kv];simp[JG];have hrl:=amD cap (I 0);simp[↓hR.ln,JH,hq,hq2,NF,aGy,-repL_eq]
 try simp only[show(AV.int IntKind.i64 (SI.lit 0))=I 0 from rfl]
 have e2:=(E0 h nx (.cells (Kg cap [I 0] []) .fix)).trans (E0 _ nx.succ (.cells [.slice nx 0 0 1] .fix));have bb2:ae nx (au nx.succ (Qw [.slice nx 0 0 1]) (au nx (Qw (Kg cap [I 0] [])) h))=Qw (Kg cap [I 0] []):=by rw[aw (by omega)];simp
 have b52:ae nx.succ (au nx.succ (Qw [.slice nx 0 0 1]) (au nx (Qw (Kg cap [I 0] [])) h))=Qw [.slice nx 0 0 1]:=by simp
 generalize Kg cap [I 0] []=R0 at *;generalize au nx.succ (Qw [.slice nx 0 0 1]) (au nx (Qw R0) h)=h2 at *;simp[JI,rG,hcz];refine(Wy H hc).mono ?_;rintro o h3 bP ⟨rfl,v1,rfl,e3⟩;simp;have b53:ae nx.succ h3=Qw [.slice nx 0 0 1]:=by rw[e3.g _ (by omega)];exact b52
 have bb3:ae nx h3=Qw R0:=by rw[e3.g _ (by omega)];exact bb2
 refine aaF S H hc hl (b1:=nx.succ.succ) (b5:=nx.succ) (bb:=nx) (n0:=nx) (h0:=h) (cap:=cap) xq ?_ ?_ v1 b53 ⟨R0,bb3,hrl⟩ (by omega) (by omega) (by omega) (dQ _) (jO.nil _ _ _) (e2.trans e3) ?_
 ·simp
 ·simp
 intro ds h4 kK rest v54 vb4 aMl hn4 D4 e4;have s4:=kTSu kK;have hwl:=Td l (nw l);have ap:=aaG (bb:=nx) (ws:=NR l (nw l)) (rest:=rest) (h:=au kK (Qw [I (l.length:Int)]) h4) (nx:=kK.succ) (by rw[aw (by omega)];exact vb4) (by omega) (by omega) (l.length:Int);have hlw:(NR l (nw l) ++ [(l.length:Int)]).length=nw l+1:=by rw[Ll,hwl];rfl
 have hhu:aag l=ai3 (NR l (nw l) ++ [(l.length:Int)]):=rfl;rw[hhu];rw[hwl]at ap;generalize hwz:NR l (nw l) ++ [(l.length:Int)]=ws at *;have n5b:nx.succ≠nx:=fun e=>by have:=congrArg Key.toNat e;omega
 have v55:∀B,ae nx.succ (au nx B (au kK (Qw [I (l.length:Int)]) h4))=Qw [.slice nx 0 (nw l) 1]:=fun B=>by rw[aG _ _ _ _ n5b,aw (by omega)];exact v54
 have v56:ae nx.succ (au kK (Qw [I (l.length:Int)]) h4)=Qw [.slice nx 0 (nw l) 1]:=by rw[aw (by omega)];exact v54
 have hR4:=hc.rd h4 kK;simp;simp[-appendTo,↓hR4.ln,JJ,v54,v55,v56,ap];have e5:Ext h nx (au nx.succ (Qw [.slice nx 0 (nw l+1) 1]) (au nx (Qw (ai eI ws++rest.tail)) (au kK (Qw [I (l.length:Int)]) h4))) kK.succ:=((((e4.trans (E0 h4 kK _)).put (dQ _)).put (by omega)));have w5:ae nx.succ (au nx.succ (Qw [.slice nx 0 (nw l+1) 1]) (au nx (Qw (ai eI ws++rest.tail)) (au kK (Qw [I (l.length:Int)]) h4)))=Qw [.slice nx 0 (nw l+1) 1]:=by simp
 have wb:ae nx (au nx.succ (Qw [.slice nx 0 (nw l+1) 1]) (au nx (Qw (ai eI ws++rest.tail)) (au kK (Qw [I (l.length:Int)]) h4)))=Qw (ai eI ws++rest.tail):=by rw[aG _ _ _ _ (Ne.symm n5b),gTSm]
 have D5:jO nx ds (au nx.succ (Qw [.slice nx 0 (nw l+1) 1]) (au nx (Qw (ai eI ws++rest.tail)) (au kK (Qw [I (l.length:Int)]) h4))) kK.succ:=D4.bZ (by omega) fun b hb hg=>by rw[aG _ _ _ _ (by rintro rfl;rw[v54]at hg;cases hg),aG _ _ _ _ (by rintro rfl;rw[vb4]at hg;cases hg),aw hb];exact hg
 generalize au nx.succ (Qw [.slice nx 0 (nw l+1) 1]) (au nx (Qw (ai eI ws++rest.tail)) (au kK (Qw [I (l.length:Int)]) h4))=h5 at *;have aPN:(ai eI ws).length=nw l+1:=by rw[eF,hlw]
 have QV:List.take (nw l+1) (ai eI ws++rest.tail)=ai eI ws:=by rw[List.take_append_of_le_length (by omega),PV (by omega)]
 have hz:=amE (n:=9998) (b:=nx) (len:=nw l+1) (H:=h5) wb (by rw[Ll];omega) (by rw[QV];exact CT.IL ws);rw[QV]at hz;have hw:gR 1 eI (.sl (ai eI ws) (nw l+1) 1 .any) ws:=.inr (by rw[hlw]);have e6:Ext h nx (au nx (some (.cells (ai eI ws++rest.tail) .ro)) h5) kK.succ:=e5.put (dQ _);have D6:jO nx ds (au nx (some (.cells (ai eI ws++rest.tail) .ro)) h5) kK.succ:=D5.bZ (dQ _) fun b _ hg=>by rw[aG _ _ _ _ (by rintro rfl;rw[wb]at hg;cases hg)];exact hg
 simp[JK,w5,rS,hz];refine(avH S H hw (by omega)).mono ?_;rintro o h7 nx7 ⟨rfl,e7⟩;have e67:=e6.trans e7;have D7:=D6.ext e7;generalize ai3 ws=fz at *;simp;refine⟨D7.nodup,D7.get,fun h10 h11=>?_⟩;refine⟨[np fz],by simp,rfl,e67.n,fun b hb=>?_⟩;have:b∉ds:=fun hm=>by have:=D7.ge b hm;omega
 simp;rw[h11 b this];exact e67.g b hb
end Ln
namespace Ln
open Go.Sx Go
def auI:Int→Int
 |.ofNat a=>.ofNat (Nat.div a (Nat.pow 2 63))
 |.negSucc a=>.negSucc (Nat.div a (Nat.pow 2 63))
section
variable{C:bU}{Q:cJ}{L:List aB}{tm:T AV}{h:T ag}{nx d x y:Key}
theorem akO(a:Nat)(h1:ae x tm=some (np a)):ns C Q (⟨some d,.bin .shl (.t x) (.v (.int .u64 (.lit 1))),none⟩ ::L) tm h nx=ns C Q L (au d (some (np (adv a 1))) tm) h nx:=
 u9 (by simp only[lightOp,at_t,at_v,h1];show some (AV.int .u64 (.lit (bF .u64 (Int.mul (a:Int) (.ofNat (Nat.pow 2 1))))))=_;rw[Ow];rfl)
theorem aim(n:Int)(h1:ae x tm=some (I n)):ns C Q (⟨some d,.bin .shr (.t x) (.v (.int .u64 (.lit 63))),none⟩ ::L) tm h nx=ns C Q L (au d (some (I (auI n))) tm) h nx:=
 u9 (by simp only[lightOp,at_t,at_v,h1];cases n<;>rfl)
end
def zzE(n:Int):Nat:=PT (adv (UB n) 1) (UB (auI n))
theorem auJ(n:Int):zzE n<18446744073709551616:=Nat.mod_lt _ (by decide)
def Ox(n:Int):List Nat:=vu (zzE n)
theorem agF:∀(k n:Nat),(vuF k n).length≤k+1
 |0,_=>by simp[vuF]
 |k+1,n=>by
  rw[vuF];split
  ·simp
  ·rw[zqi];have:=agF k (n / 128);omega
theorem A8(n:Int):(Ox n).length≤11:=agF 10 _
variable{C:bU}{X:Kn}(S:Std C X)(H:PU C)
include S H
theorem adw{w:Key}{c:AV}{bs:List Nat}{h:T ag}{nx n0:Key}(Ws:WS w c bs h nx n0)(hl:bs.length≤100000)(n:Int) :
  aM C dE [.ptr w 0,I n] h nx (kC w (bs++Ox n) h nx n0):=by
 have rU:=S.r gp;have hcu:∀n,bF .u64 n=((UB n:Nat):Int):=Ow;refine H.A9.call ?_;simp[xr];simp[zv,hcu,↓akO (UB n),↓aim n,↓Xo (adv (UB n) 1) (UB (auI n)),rU];refine(akP H.zw Ws (auJ n) hl).mono ?_;rintro o h3 bP ⟨rfl,hW⟩;simp;exact⟨rfl,hW⟩
theorem ap2{w:Key}{c:AV}{bs:List Nat}{h:T ag}{nx n0:Key}(Ws:WS w c bs h nx n0)(hl:bs.length≤100000)(b:Bool) :
  aM C iW [.ptr w 0,.bool b] h nx (kC w (bs ++ [if b=true then 1 else 0]) h nx n0):=by
 have s1:=kTSu nx;refine H.zx.call ?_;simp[vd];have key:∀y:Nat,∃c' h' nx',appendTo 1 c [.int .u8 (.lit (y:Int))] 1 (au nx (Qw [.int .u8 (.lit (y:Int))]) h) nx.succ=.val c' h' nx'∧c'.aV=true∧c'.cells=[c']∧ae w h'=Qw [c]∧WS w c' (bs ++ [y]) (au w (Qw [c']) h') nx' n0∧nx.toNat≤nx'.toNat∧(∀b:Key,b.toNat<n0.toNat→ae b (au w (Qw [c']) h')=ae b h)∧Xp w h nx (au w (Qw [c']) h'):=by intro y;obtain⟨c2,h2,aN,g,x1,x2,x3,W2,x5,x6,x7⟩:=(Ws.ext (E0 h nx (.cells [.int .u8 (.lit (y:Int))] .fix))).add [y] (by simp;omega);have EL:ai eY [y]=[.int .u8 (.lit (y:Int))]:=kD _ _;rw[EL]at g;exact⟨c2,h2,aN,g,x1,x2,x3,W2,by omega,fun b hb=>by rw[x6 b hb,aw (by have:=Ws.n;omega)],(Xp.new w h nx _).trans (by omega) x7⟩
 cases b with
 |true=>obtain⟨c2,h2,aN,g,x1,x2,x3,W2,x5,x6,x7⟩:=key 1;simp[-appendTo]at g;simp[qf];simp[-appendTo,x8,Ws.at_,g,x1,x2,x3];exact⟨rfl,c2,W2,x5,x6,x7⟩
 |false=>obtain⟨c2,h2,aN,g,x1,x2,x3,W2,x5,x6,x7⟩:=key 0;simp[-appendTo]at g;simp[qf];simp[-appendTo,x9,Ws.at_,g,x1,x2,x3];exact⟨rfl,c2,W2,x5,x6,x7⟩
end Ln
namespace Ln
open Go.Sx Go
theorem kC.lift{w n0:Key}{bs:List Nat}{h h1 h':T ag}{nx bW nx':Key}{o:Out}(e:Ext h nx h1 bW)(hn:n0.toNat≤nx.toNat)(W:kC w bs h1 bW n0 o h' nx'):kC w bs h nx n0 o h' nx':=by obtain⟨ho,c',W,hx,hf,hk⟩:=W;have n:=e.n;exact⟨ho,c',W,by omega,fun b hb=>by rw[hf b hb,e.g b (by omega)],(Ext.kp e w).trans (by omega) hk⟩
def stU(u:U):St:=⟨u.k,u.n,[]⟩
theorem awn(u:U):eS (stU u)=eU u:=rfl
variable{C:bU}{X:Kn}(S:Std C X)(H:PU C)
include S H
theorem arf{w:Key}{c:AV}{bs:List Nat}{h:T ag}{nx n0:Key}(Ws:WS w c bs h nx n0)(hl:bs.length≤100000)(s:St) :
  aM C ew [.ptr w 0,.agg (eS s)] h nx (kC w (bs++Ox s.n) h nx n0):=by
 have rI:=S.r dE;have s1:=kTSu nx;refine H.uI.call ?_;simp[qv];simp[tN,C7,lenS];have e1:=E0 h nx (.cells (eS s) .fix);have b1:ae nx (au nx (Qw (eS s)) h)=Qw (eS s):=by simp
 have W1:=Ws.ext e1;generalize au nx (Qw (eS s)) h=h1 at *;have es1:(eS s)[1]?=some (I s.n):=rfl;simp[tO,b1,es1,rI];refine(adw S H W1 hl s.n).mono ?_;rintro o h2 aN W2;have W3:=kC.lift e1 Ws.n W2;obtain⟨rfl,hW⟩:=W2;simp;exact W3
theorem arh{w:Key}{c:AV}{bs:List Nat}{h:T ag}{nx n0:Key}(Ws:WS w c bs h nx n0)(hl:bs.length≤100000)(s:St) :
  aM C fj [.ptr w 0,.agg (eS s)] h nx (kC w (bs ++ [if s.n=1 then 1 else 0]) h nx n0):=by
 have rI:=S.r iW;have s1:=kTSu nx;refine H.w6.call ?_;simp[rY];simp[uO,C7,lenS];have e1:=E0 h nx (.cells (eS s) .fix);have b1:ae nx (au nx (Qw (eS s)) h)=Qw (eS s):=by simp
 have W1:=Ws.ext e1;generalize au nx (Qw (eS s)) h=h1 at *;have es1:(eS s)[1]?=some (I s.n):=rfl;simp[uP,b1,es1,rI];have hb:=ap2 S H W1 hl (decide (s.n=1));simp at hb;refine hb.mono ?_;rintro o h2 aN W2;have W3:=kC.lift e1 Ws.n W2;obtain⟨rfl,hW⟩:=W2;simp;exact W3
theorem ari{w:Key}{h:T ag}{nx:Key}:aM C gP [.ptr w 0] h nx (fun o h' nx'=>o=.ret (.agg [.fn ew [.ptr w 0] [],.fn fj [.ptr w 0] [],.fn dV [.ptr w 0] [],.fn yB [.ptr w 0] []])∧Ext h nx h' nx'):=by have s1:=kTSu nx;refine H.wZ.call ?_;simp[rX];simp[uQ];simp[uR];exact(E0 h nx _)
end Ln
namespace Ln
open Go.Sx Go
variable{C:bU}{X:Kn}(S:Std C X)(H:PU C)
include S H
theorem aa3{w:Key}{c:AV}{bs:List Nat}{h:T ag}{nx n0:Key}(Ws:WS w c bs h nx n0)(hl:bs.length≤90000){s:St}{en:List Nat}
  (hk:(s.k=0∧en=Ox s.n)∨(s.k=1∧en=[if s.n=1 then 1 else 0])∨(s.k=2∧∀{c':AV} {bs':List Nat} {h':T ag} {nx':Key},WS w c' bs' h' nx' n0→bs'.length≤bs.length+11→aM C dV [.ptr w 0,.agg (eS s)] h' nx' (kC w (bs'++en) h' nx' n0))) :
  aM C bO [.ptr w 0,.agg (eS s)] h nx (kC w (bs++Ox s.k++en) h nx n0):=by
 have rI:=S.r dE;have rK:=S.r gP;have r0:=S.r ew;have r1:=S.r fj;have r2:=S.r dV;have s1:=kTSu nx;refine H.wY.call ?_;simp[rW];simp[uT,C7,lenS];have e1:=E0 h nx (.cells (eS s) .fix);have b1:ae nx (au nx (Qw (eS s)) h)=Qw (eS s):=by simp
 have W1:=Ws.ext e1;generalize au nx (Qw (eS s)) h=h1 at *;have es0:(eS s)[0]?=some (I s.k):=rfl;have aa4:(eS s).head?=some (I s.k):=rfl;simp[uU,b1,es0,aa4,rI];refine(adw S H W1 (by omega) s.k).mono ?_;rintro o h2 aN ⟨rfl,c2,W2,Th,hf2,hk2⟩;have b2:ae nx h2=Qw (eS s):=by have hw:=Ws.hi;rw[hk2 nx (by omega) (fun e=>by rw[e]at hw;omega) (fun B hB=>by rw[b1]at hB;cases hB;exact⟨by simp,by simp⟩)];exact b1
 have ahm:=A8 s.k;have fin:∀{o h' nx'},kC w (bs++Ox s.k++en) h2 aN n0 o h' nx'→kC w (bs++Ox s.k++en) h nx n0 o h' nx':=by rintro o h' nx' ⟨ho,c',W',hx,hf,IC⟩;exact kC.lift e1 Ws.n ⟨ho,c',W',by omega,fun b hb=>by rw[hf b hb,hf2 b hb],hk2.trans Th IC⟩
 simp;simp[uV,b2,es0,aa4,lenS,zR,rK];refine(ari S H).mono ?_;rintro o h3 bP ⟨rfl,e3⟩;have n3:=e3.n;have W3:=W2.ext e3;have b3:ae nx h3=Qw (eS s):=by rw[e3.g nx (by omega)];exact b2
 have bq:AV.beq (.agg (eS s)) (.agg (eS s))=true:=avx s;have bk:AV.beq (I s.k) (I s.k)=true:=beq_refl _ rfl;have aAT:∀{o h' nx'},kC w (bs++Ox s.k++en) h3 bP n0 o h' nx'→kC w (bs++Ox s.k++en) h nx n0 o h' nx':=fun W=>fin (kC.lift e3 W2.n W);have hl3:(bs++Ox s.k).length≤100000:=by rw[Ll];omega
 have aIg:(bs++Ox s.k).length≤bs.length+11:=by rw[Ll];omega
 have ha:bs++Ox s.k++en=bs++(Ox s.k++en):=List.append_assoc _ _ _;rw[ha]at aAT;have awz:∀{o h' nx'},kC w (bs++Ox s.k++en) h3 bP n0 o h' nx'→o=.ret (.tuple [])∧kC w (bs++(Ox s.k++en)) h nx n0 (.ret (.tuple [])) h' nx':=fun W=>by rw[ha]at W;have W':=aAT W;obtain⟨rfl,_⟩:=W;exact⟨rfl,W'⟩
 generalize AP:Ox s.k=ek at *;rcases hk with⟨k0,rfl⟩|⟨k0,rfl⟩|⟨k0,hL⟩
 ·rw[k0]at es0 aa4 bk;simp[b3,es0,aa4,lenS,zR,bq,bk,r0,CZ,k0];refine(arf S H W3 hl3 s).mono ?_;rintro o h4 kK W4;obtain⟨rfl,W5⟩:=awz W4;simp;exact W5
 ·rw[k0]at es0 aa4 bk;simp[b3,es0,aa4,lenS,zR,bq,bk,r1,CZ,k0];refine(arh S H W3 hl3 s).mono ?_;rintro o h4 kK W4;obtain⟨rfl,W5⟩:=awz W4;simp;exact W5
 ·rw[k0]at es0 aa4 bk;simp[b3,es0,aa4,lenS,zR,bq,bk,r2,CZ,k0];refine(hL W3 aIg).mono ?_;rintro o h4 kK W4;obtain⟨rfl,W5⟩:=awz W4;simp;exact W5
end Ln
namespace Ln
open Go.Sx Go
theorem Ob(l:List U):gR 4 eU (bB l) l:=by
 cases l with
 |nil=>exact .inl ⟨rfl,rfl⟩
 |cons a l=>exact .inr rfl
def H5(u:U):List Nat:=Ox u.k++(if u.k=0 then Ox u.n else if u.k=1 then [if u.n=1 then 1 else 0]else Ox 0)
theorem aos(u:U):(H5 u).length≤22:=by
 unfold H5;have h1:=A8 u.k;have h2:=A8 u.n;have h3:=A8 0;rw[Ll];split
 ·omega
 ·split
  ·simp;omega
  ·omega
theorem Wo(l:List U):(l.flatMap H5).length≤22*l.length:=by
 induction l with
 |nil=>simp
 |cons a l ih=>rw[List.flatMap_cons,Ll,zqi];have:=aos a;omega
def CvI(w:Key)(kids:List U)(bs:List Nat)(h:T ag)(nx n0:Key)(m:Nat)(tm':T AV)(h':T ag)(nx':Key):Prop:=∃(j:Nat) (c':AV),m=kids.length-j∧j≤kids.length∧ae (K 0) tm'=some (.ptr w 0)∧ae (K 14) tm'=some (bB kids)∧ae (K 15) tm'=some (I kids.length)∧ae (K 16) tm'=some (I j)∧WS w c' (bs++(kids.take j).flatMap H5) h' nx' n0∧nx.toNat≤nx'.toNat∧(∀b:Key,b.toNat<n0.toNat→ae b h'=ae b h)∧Xp w h nx h'
theorem _root_.Go.Sx.Rd.lnS{z:Nat}{c:AV}{l:List AV}{len:Nat}{h:T ag}{nx:Key}(g:Rd z c l len h nx){C:bU}{Q:cJ}{ds:List Key}{aq:List (Nat×Key×ag)}{L:List aS}{tm:T AV}{h2:T ag}{n2 k1 d1:Key}{a:Nat}(h1:ae k1 tm=some c) :
  wpS C Q ⟨ds,[]⟩ (.L a ⟨some d1,.lenL (.t k1),none⟩ ::L) aq tm h2 n2=wpS C Q ⟨ds,[]⟩ L aq (au d1 (some (I len)) tm) h2 n2:=by
 rcases g with⟨rfl,_,rfl⟩|⟨f,rfl⟩|⟨b,k,rfl,_⟩<;>simp[h1]
variable{C:bU}{X:Kn}(S:Std C X)(H:PU C)
include S H
theorem aga{B:Nat}{w n0:Key}{kids:List U}(hk:kids.length≤3)(hv:∀u∈kids,∀{c:AV} {bs:List Nat} {h:T ag} {nx:Key},WS w c bs h nx n0→bs.length≤B+80→aM C bO [.ptr w 0,.agg (eU u)] h nx (kC w (bs++H5 u) h nx n0)){bs:List Nat}(hl:bs.length≤B+11){h:T ag}{nx:Key}{Q:cJ}{m:Nat}{tm:T AV}{h1:T ag}{bW:Key}(A:CvI w kids bs h nx n0 m tm h1 bW)
  (gC:∀tm' h' nx',kC w (bs++kids.flatMap H5) h nx n0 (.ret (.tuple [])) h' nx'→Q .norm tm' h' nx') :
  W C (.loop oe) (az 0 Q) tm h1 bW:=by
 have rV:=S.r bO;refine W.eB (CvI w kids bs h nx n0) A ?_;rintro m dF h2 aN ⟨j,c',rfl,hj,g0,g14,g15,g16,Ws,hn,hf,hkp⟩;refine W.of ?_;simp[oe];by_cases bY:j<kids.length
 ·have Bh:(j:Int)<kids.length:=by omega
  have hR:=(Ob kids).rd h2 aN;have s2:=kTSu aN;have hlen:=Wo (kids.take j);rw[Zo]at hlen;have hcU:(eU kids[j]).all AV.aV=true:=AQ.2 (CV.cell _);have hlU:(eU kids[j]).length=4:=rfl;have htU:List.take 4 (eU kids[j])=eU kids[j]:=rfl;have hdU:List.drop 4 [AV.int .i64 (.lit 0),.int .i64 (.lit 0),.str 0 0,.nils]=[]:=rfl;have hfl:(kids.take (j+1)).flatMap H5=(kids.take j).flatMap H5++H5 kids[j]:=by rw[zqu bY,List.flatMap_append,List.flatMap_cons,List.flatMap_nil,List.append_nil]
  have uB:=DX bY;simp[og,g15,g16,Bh];simp only[xb,Ls,SG,SH,Lw,SJ,Lx,SK,SL,Lt,Lu,SM,SN,SO,SP];simp[↓hR.ix CV bY,g14,g16,hcU,hlU];simp[xc,g0,hlU,htU,rV,aHz];have Wm:(bs++(kids.take j).flatMap H5).length≤B+80:=by rw[Ll];omega
  have e1:=E0 h2 aN (.cells (eU kids[j]) .fix);have W1:=Ws.ext e1;refine(hv _ uB W1 Wm).mono ?_;rintro o h3 bP ⟨rfl,c3,W3,hn3,hf3,hk3⟩;simp;simp[xd,g16];rw[aH (by omega) (by omega)];refine⟨kids.length-(j+1),by omega,j+1,c3,rfl,by omega,by simp[g0],by simp[g14],by simp[g15],by simp,?_,by omega,fun b hb=>?_,?_⟩
  ·rw[hfl,←List.append_assoc];exact W3
  ·have:=Ws.n;rw[hf3 b hb,aw (by omega)];exact hf b hb
  ·exact hkp.trans hn (((Ext.kp e1 w).trans (by omega) hk3))
 ·have yi:j=kids.length:=by omega
  subst yi;rw[List.take_length]at Ws;simp[og,g15,g16];exact gC _ _ _ ⟨rfl,c',Ws,hn,hf,hkp⟩
theorem acx{B:Nat}(hB:B≤99000){w n0:Key}{s:St}(hk:s.kids.length≤3)(hv:∀u∈s.kids,∀{c:AV} {bs:List Nat} {h:T ag} {nx:Key},WS w c bs h nx n0→bs.length≤B+80→aM C bO [.ptr w 0,.agg (eU u)] h nx (kC w (bs++H5 u) h nx n0)){c:AV}{bs:List Nat}(hl:bs.length≤B){h:T ag}{nx:Key}(Ws:WS w c bs h nx n0) :
  aM C dV [.ptr w 0,.agg (eS s)] h nx (kC w (bs++(Ox s.kids.length++s.kids.flatMap H5)) h nx n0):=by
 have rI:=S.r dE;have s1:=kTSu nx;refine H.yn.call ?_;simp[tK];simp[xe,C7,lenS];have e1:=E0 h nx (.cells (eS s) .fix);have b1:ae nx (au nx (Qw (eS s)) h)=Qw (eS s):=by simp
 have W1:=Ws.ext e1;generalize au nx (Qw (eS s)) h=h1 at *;have es3:(eS s)[3]?=some (bB s.kids):=rfl;have hR:=(Ob s.kids).rd h1 nx.succ;have ac:=eu s.kids;simp[xf,b1,es3,↓hR.lnS,rI];refine(adw S H W1 (by omega) (s.kids.length:Int)).mono ?_;rintro o h2 aN ⟨rfl,c2,W2,Th,hf2,hk2⟩;have b2:ae nx h2=Qw (eS s):=by have hw:=Ws.hi;rw[hk2 nx (by omega) (fun e=>by rw[e]at hw;omega) (fun B hB=>by rw[b1]at hB;cases hB;exact⟨by simp,by simp⟩)];exact b1
 have ahm:=A8 (s.kids.length:Int);have ha:bs++Ox (s.kids.length:Int)++s.kids.flatMap H5=bs++(Ox (s.kids.length:Int)++s.kids.flatMap H5):=List.append_assoc _ _ _;have hR2:=(Ob s.kids).rd h2 aN;simp;simp[↓hR2.ln,xg,b2,es3];refine aga S H hk hv (bs:=bs++Ox (s.kids.length:Int)) (by rw[Ll];omega) (h:=h2) (nx:=aN) (m:=s.kids.length) ⟨0,c2,by simp,by omega,by simp,by simp,by simp,by simp,by simpa using W2,dQ _,fun _ _=>rfl,Xp.refl _ _ _⟩ ?_;intro tm' h' nx' W;rw[ha]at W;obtain⟨ho,c',W',hx,hf,IC⟩:=W;simp;exact kC.lift e1 Ws.n ⟨rfl,c',W',by omega,fun b hb=>by rw[hf b hb,hf2 b hb],hk2.trans Th IC⟩
theorem awZ{w n0:Key}{u:U}(hu:u.k=0∨u.k=1∨u.k=2){c:AV}{bs:List Nat}(hl:bs.length≤90000){h:T ag}{nx:Key}(Ws:WS w c bs h nx n0) :
  aM C bO [.ptr w 0,.agg (eU u)] h nx (kC w (bs++H5 u) h nx n0):=by
 have key:=fun en hk=>aa3 S H Ws (by omega) (s:=stU u) (en:=en) hk;rw[←awn];unfold H5;rw[←List.append_assoc];rcases hu with e|e|e
 ·rw[if_pos e];exact key _ (.inl ⟨e,rfl⟩)
 ·rw[if_neg (by omega),if_pos e];exact key _ (.inr (.inl ⟨e,rfl⟩))
 ·rw[if_neg (by omega),if_neg (by omega)];refine key _ (.inr (.inr ⟨e,fun {c' bs' h' nx'} W' Ta=>?_⟩));have:=acx S H (B:=95000) (by omega) (w:=w) (n0:=n0) (s:=stU u) (Nat.zero_le _) (fun u hu=>by cases hu) (by omega) W';simpa[stU]using this
def aah(s:St):List Nat:=Ox s.k++(if s.k=0 then Ox s.n else if s.k=1 then [if s.n=1 then 1 else 0]else Ox s.kids.length++s.kids.flatMap H5)
theorem avc{w n0:Key}{s:St}(hs:s.k=0∨s.k=1∨s.k=2)(hk:s.kids.length≤3)(AP:∀u∈s.kids,u.k=0∨u.k=1∨u.k=2){c:AV}{bs:List Nat}(hl:bs.length≤10000){h:T ag}{nx:Key}(Ws:WS w c bs h nx n0) :
  aM C bO [.ptr w 0,.agg (eS s)] h nx (kC w (bs++aah s) h nx n0):=by
 have key:=fun en hk=>aa3 S H Ws (by omega) (s:=s) (en:=en) hk;unfold aah;rw[←List.append_assoc];rcases hs with e|e|e
 ·rw[if_pos e];exact key _ (.inl ⟨e,rfl⟩)
 ·rw[if_neg (by omega),if_pos e];exact key _ (.inr (.inl ⟨e,rfl⟩))
 ·rw[if_neg (by omega),if_neg (by omega)];refine key _ (.inr (.inr ⟨e,fun {c' bs' h' nx'} W' Ta=>?_⟩));exact acx S H (B:=50000) (by omega) hk (fun u hu=>fun {c2 bs2 h2 aN} W2 Wm=>awZ S H (AP u hu) (by omega) W2) (by omega) W'
end Ln
namespace Ln
open Go.Sx Go
theorem azZ{s:St}(h:Zs s=true):(s.k=0∨s.k=1∨s.k=2)∧∀u∈s.kids,u.k=0∨u.k=1∨u.k=2:=by
 unfold Zs at h;rw[decide_eq_true_eq]at h;rcases h with(⟨h1,h2⟩|⟨h1,_,h2⟩)|⟨h1,_,h2⟩
 ·exact⟨.inl h1,by rw[h2];simp⟩
 ·exact⟨.inr (.inl h1),by rw[h2];simp⟩
 ·refine⟨.inr (.inr h1),fun u hu=>?_⟩;have:=AQ.1 h2 u hu;unfold uA at this;rw[decide_eq_true_eq]at this;omega
def aaf(s:St):Nat:=if Zs s=true then aag (aah s)else 0
theorem aai{s:St}(hk:s.kids.length≤3):(aah s).length≤100:=by
 unfold aah;have h1:=A8 s.k;have h2:=A8 s.n;have h3:=A8 (s.kids.length:Int);have h4:=Wo s.kids;rw[Ll];split
 ·omega
 ·split
  ·simp;omega
  ·rw[Ll];omega
variable{C:bU}{X:Kn}(S:Std C X)(H:PU C)
include S H
theorem aiD{s:St}(hk:s.kids.length≤3){h:T ag}{nx:Key}:aM C mg [.agg (eS s)] h nx (fun o h' nx'=>((Zs s=true∧∃c',o=.ret (.tuple [c',I 0])∧gR 1 eY c' (aah s))∨(Zs s=false∧o=.ret (.tuple [.nils,I 1])))∧Ext h nx h' nx'):=by
 have rV:=S.r eH;have rc:=S.r bO;have rD:=S.r gx;have s1:=kTSu nx;have s2:=kTSu nx.succ;refine H.ER.call ?_;simp[Cs];simp[C6,C7,lenS];have e1:=E0 h nx (.cells (eS s) .fix);have b1:ae nx (au nx (Qw (eS s)) h)=Qw (eS s):=by simp
 generalize au nx (Qw (eS s)) h=h1 at *;simp[C8,b1,lenS,zR,rV,CZ];refine aM.known (H.aaj s hk _ _) ?_;cases wQ:Zs s with
 |false=>simp;simp[vk];simp[C9];exact e1
 |true=>
  obtain⟨k1,k2⟩:=azZ wQ;simp;simp[vk];simp[Da];have e2:=e1.trans (E0 h1 nx.succ (.cells [.nils] .fix));have Ws:WS nx.succ .nils [] (au nx.succ (Qw [.nils]) h1) nx.succ.succ nx:=⟨by omega,by omega,by omega,by simp,App.nil 1⟩;have b2:ae nx (au nx.succ (Qw [.nils]) h1)=Qw (eS s):=by rw[aw (by omega)];exact b1
  generalize au nx.succ (Qw [.nils]) h1=h2 at *;simp[Db,b2,lenS,zR,rc,CZ];refine(avc S H k1 hk k2 (by simp) Ws).mono ?_;rintro o h3 bP ⟨rfl,c3,W3,hn3,hf3,hk3⟩;rw[List.nil_append]at W3;have e3:Ext h nx h3 bP:=⟨by omega,fun b hb=>by rw[hf3 b hb];exact e2.g b hb⟩;simp;simp[Dc,rD];have hel:=aai hk;refine(alg H.zS W3 (by omega)).mono ?_;rintro o h4 kK ⟨⟨c4,rfl,h4'⟩,e4⟩;have hz:∀H,aW 9999 c4 H=(c4,H):=fun H=>h4'.wH _ _;have hz8:∀H,aW 8 c4 H=(c4,H):=fun H=>h4'.wH _ _;simp[hz];exact⟨h4',e3.trans e4⟩
theorem aqz{s:St}(hk:s.kids.length≤3){h:T ag}{nx:Key}:aM C qJ [.agg (eS s)] h nx (fun o h' nx'=>o=.ret (np (aaf s))∧Ext h nx h' nx'):=by
 have rE:=S.r mg;have rB:=S.r tn;have s1:=kTSu nx;refine H.JC.call ?_;simp[Hi];simp[Hj,C7,lenS];have e1:=E0 h nx (.cells (eS s) .fix);have b1:ae nx (au nx (Qw (eS s)) h)=Qw (eS s):=by simp
 generalize au nx (Qw (eS s)) h=h1 at *;simp[Hk,b1,lenS,zR,rE,CZ];refine(aiD S H hk).mono ?_;rintro o h2 aN ⟨⟨ho,c,rfl,hc⟩|⟨ho,rfl⟩,e2⟩
 ·have hz:∀H,aW 9999 c H=(c,H):=fun H=>hc.wH _ _;have hh:aaf s=aag (aah s):=by unfold aaf;rw[if_pos ho]
  have hel:=aai hk;rw[hh];simp;simp[zT];simp[Hl,rB,hz];refine(aly S H hc (by omega)).mono ?_;rintro o h3 bP ⟨rfl,e3⟩;generalize aag (aah s)=z;simp;exact(e1.trans e2).trans e3
 ·have hh:aaf s=0:=by unfold aaf;rw[if_neg (by rw[ho];simp)]
  rw[hh];simp;simp[zT];simp[Hm];exact e1.trans e2
end Ln
namespace Ln
open Go.Sx Go
structure Bk where
 g:Nat
 c:AV
 o:Option Key
def Dk(E:List Bk):List (AV×AV):=E.map fun e=>(np e.g,e.c)
def Tp(E:List Bk)(g:Nat):Option Bk:=E.find? fun e=>e.g==g
def N7:List Bk→Bk→List Bk
 | [],x=>[x]
 |e ::E,x=>if e.g=x.g then x ::E else e ::N7 E x
theorem ahL(orc:jZ)(a b:Nat):keyEq orc false (np a) (np b)=some (Nat.beq a b):=rfl
theorem TE(orc:jZ)(g:Nat):∀E:List Bk,findK orc false (np g) (Dk E)=some ((Tp E g).map (·.c))
 | []=>rfl
 |e ::E=>by
  show(match keyEq orc false (np g) (np e.g)with|some true=>some (some e.c)|some false=>findK orc false (np g) (Dk E)|none=>none)=_;rw[ahL];unfold Tp;rw[List.find?_cons];by_cases h:e.g=g
  ·have h1:Nat.beq g e.g=true:=by rw[h];exact Nat.beq_refl g
   have h2:(e.g==g)=true:=by simpa using h
   rw[h1,h2];rfl
  ·have h1:Nat.beq g e.g=false:=by
    cases hb:Nat.beq g e.g with
    |false=>rfl
    |true=>exact absurd (qX hb).symm h
   have h2:(e.g==g)=false:=by simpa using h
   rw[h1,h2];exact TE orc g E
theorem ahM(orc:jZ)(x:Bk):∀E:List Bk,setK orc false (np x.g) x.c (Dk E)=some (Dk (N7 E x))
 | []=>rfl
 |e ::E=>by
  show(match keyEq orc false (np x.g) (np e.g)with|some true=>some ((np x.g,x.c) ::Dk E)|some false=>(match setK orc false (np x.g) x.c (Dk E)with|some r=>some ((np e.g,e.c) ::r)|none=>none)|none=>none)=_;rw[ahL];by_cases h:e.g=x.g
  ·have h1:Nat.beq x.g e.g=true:=by rw[h];exact Nat.beq_refl _
   rw[h1];unfold N7;rw[if_pos h];rfl
  ·have h1:Nat.beq x.g e.g=false:=by
    cases hb:Nat.beq x.g e.g with
    |false=>rfl
    |true=>exact absurd (qX hb).symm h
   rw[h1];unfold N7;rw[if_neg h,ahM orc x E];rfl
theorem anE{E:List Bk}{g:Nat}{e:Bk}(h:Tp E g=some e):e∈E∧e.g=g:=by unfold Tp at h;exact⟨List.mem_of_find?_eq_some h,by simpa using List.find?_some h⟩
theorem ajc{E:List Bk}{g:Nat}(h:Tp E g=none):∀e∈E,e.g≠g:=by unfold Tp at h;rw[List.find?_eq_none]at h;intro e he hg;exact h e he (by simpa using hg)
theorem TF{x y:Bk}:∀{E:List Bk},(E.map (·.g)).Nodup→(y∈N7 E x↔y=x∨(y∈E∧y.g≠x.g))
 | [],_=>by simp[N7]
 |e ::E,hn=>by
  rw[zqx,List.nodup_cons]at hn;unfold N7;by_cases h:e.g=x.g
  ·rw[if_pos h,M4,M4];constructor
   ·rintro(r|r)
    ·exact .inl r
    ·exact .inr ⟨.inr r,fun hg=>hn.1 (KT.2 ⟨y,r,by rw[hg,h]⟩)⟩
   ·rintro(r|⟨r|r,hg⟩)
    ·exact .inl r
    ·exact absurd (by rw[r];exact h) hg
    ·exact .inr r
  ·rw[if_neg h,M4,M4,TF hn.2];constructor
   ·rintro(r|r|⟨r,hg⟩)
    ·exact .inr ⟨.inl r,by rw[r];exact h⟩
    ·exact .inl r
    ·exact .inr ⟨.inr r,hg⟩
   ·rintro(r|⟨r|r,hg⟩)
    ·exact .inr (.inl r)
    ·exact .inl r
    ·exact .inr (.inr ⟨r,hg⟩)
theorem TG{x:Bk}:∀{E:List Bk},(E.map (·.g)).Nodup→((N7 E x).map (·.g)).Nodup
 | [],_=>by simp[N7]
 |e ::E,hn=>by
  have hn':=hn;rw[zqx,List.nodup_cons]at hn;unfold N7;by_cases h:e.g=x.g
  ·rw[if_pos h,zqx,List.nodup_cons,←h];exact hn
  ·rw[if_neg h,zqx,List.nodup_cons];refine⟨fun hm=>?_,TG hn.2⟩;obtain⟨y,hy,hg⟩:=KT.1 hm;rcases (TF hn.2).1 hy with rfl|⟨hy,_⟩
   ·exact h hg.symm
   ·exact hn.1 (KT.2 ⟨y,hy,hg⟩)
def KZ(c:Cf St):Nat:=PT (aaf c.2) (UB (c.1:Int))
def Pd(l:List (Cf St))(g:Nat):List Nat:=(List.range l.length).filter fun j=>(l[j]?.map KZ)==some g
def Vs(l:List (Cf St))(g:Nat):List Int:=(Pd l g).map fun j:Nat=>(j:Int)
theorem Yo{l:List (Cf St)}{g j:Nat}:j∈Pd l g↔∃c,l[j]?=some c∧KZ c=g:=by
 unfold Pd;rw[List.mem_filter,List.mem_range];constructor
 ·rintro⟨h1,h2⟩;rw[A6 h1]at h2;exact⟨_,A6 h1,by simpa using h2⟩
 ·rintro⟨c,h1,h2⟩;obtain⟨h3,h4⟩:=List.getElem?_eq_some_iff.1 h1;refine⟨h3,?_⟩;rw[h1];simp[h2]
theorem anF(l:List (Cf St))(x:Cf St)(g:Nat):Pd (l ++ [x]) g=Pd l g++(if KZ x=g then [l.length]else []):=by
 unfold Pd;rw[Ll,List.length_singleton,List.range_succ,List.filter_append];congr 1
 ·refine List.filter_congr fun j hj=>?_;rw[List.getElem?_append_left (List.mem_range.1 hj)]
 ·by_cases h:KZ x=g
  ·simp[h]
  ·simp[h]
theorem anG(l:List (Cf St))(x:Cf St)(g:Nat):Vs (l ++ [x]) g=Vs l g++(if KZ x=g then [(l.length:Int)]else []):=by unfold Vs;rw[anF,List.map_append];split<;>simp
theorem am0(l:List (Cf St))(g:Nat):(Pd l g).length≤l.length:=by unfold Pd;refine Nat.le_trans (List.length_filter_le _ _) ?_;rw[List.length_range];exact dQ _
theorem Yp(l:List (Cf St))(g:Nat):(Vs l g).length=(Pd l g).length:=List.length_map ..
structure RgA(X:Kn)(i:Nat)(os:List Op)(cO c3:AV)(bj n0:Key)(h0:T ag)(tm:T AV)(h:T ag)(nx:Key):Prop where
 k3:ae (K 3) tm=some c3
 dU:ae (K 11) tm=some (.ptr bj 0)
 vj:ae bj h=Qw (wB X i cO (aQ i))
 lt:bj.toNat<nx.toNat
 e:Ext h0 n0 h nx
theorem RgA.ext{X:Kn}{i:Nat}{os:List Op}{cO c3:AV}{bj n0:Key}{h0:T ag}{tm tm':T AV}{h h':T ag}{nx nx':Key}(A:RgA X i os cO c3 bj n0 h0 tm h nx)(e:Ext h nx h' nx')(h3:ae (K 3) tm'=ae (K 3) tm)(h11:ae (K 11) tm'=ae (K 11) tm):RgA X i os cO c3 bj n0 h0 tm' h' nx':=
 ⟨h3.trans A.k3,h11.trans A.dU,by rw[e.g bj A.lt];exact A.vj,by have:=e.n;have:=A.lt;omega,A.e.trans e⟩
variable{C:bU}{X:Kn}(S:Std C X)
include S
end Ln
namespace Ln
open Go.Sx Go
variable{C:bU}{X:Kn}(S:Std C X)
include S
end Ln
namespace Ln
open Go.Sx Go
variable{C:bU}{X:Kn}(S:Std C X)
include S
end Ln
namespace Go.Sx
variable{C:bU}{Q:cJ}{ds:List Key}{aq:List (Nat×Key×ag)}{L:List aS}{tm:T AV}{h:T ag}{nx d x y:Key}{n:Nat}
theorem Rd.az4{z:Nat}{c:AV}{α:Type}{enc:α→List AV}{us:List α}{nx' k1 k2 d1 d2:Key}{a b:Nat}(F:Flat z enc)(g:Rd z c (ai enc us) us.length h nx'){i:Nat}(hi:i<us.length)(h1:ae k1 tm=some c)(h2:ae k2 tm=some (I i)) :
  wpS C Q ⟨ds,[]⟩ (.L a ⟨some d1,.indexL z (.t k1) (.t k2),none⟩ ::.L b ⟨some d2,.load true z (.t d1),none⟩ ::L) aq tm h nx=wpS C Q ⟨ds,[]⟩ L aq (au d2 (some (.agg (enc us[i]))) (au d1 (some (I1 z i c)) tm)) h nx:=g.ixS F hi h1 h2 rfl rfl
theorem ajb{o:BinOp}{a b:PX}{v:AV}(hl:lightOp C.orc (.bin o a b) tm h=some v):wpS C Q ⟨ds,[]⟩ (.L n ⟨some d,.bin o a b,none⟩ ::L) aq tm h nx=wpS C Q ⟨ds,[]⟩ L aq (au d (some v) tm) h nx:=by simp[hl,-lightOp]
end Go.Sx
namespace Ln
open Go.Sx Go
theorem arc{C:bU}{Q:cJ}{ds:List Key}{aq:List (Nat×Key×ag)}{L:List aS}{tm:T AV}{h:T ag}{nx d x y:Key}{n:Nat}(a b:Nat)(h1:ae x tm=some (np a))(h2:ae y tm=some (np b)):wpS C Q ⟨ds,[]⟩ (.L n ⟨some d,.bin .xor (.t x) (.t y),none⟩ ::L) aq tm h nx=wpS C Q ⟨ds,[]⟩ L aq (au d (some (np (PT a b))) tm) h nx:=
 ajb (by simp only[lightOp,at_t,h1,h2];rfl)
structure Vj(n0:Key)(l:List (Cf St))(br bm:Key)(cC cS:AV)(oC:Option Key)(E:List Bk)(h:T ag)(nx:Key):Prop where
 mD:ae br h=Qw [cC,cS,.map bm]
 map:ae bm h=some (.map (Dk E))
 brn:br.toNat<nx.toNat
 bmn:bm.toNat<nx.toNat
 C:Gr 5 cC (ai eC l) l.length h nx oC
 B:∀e∈E,Gr 1 e.c (ai eI (Vs l e.g)) (Vs l e.g).length h nx e.o
 nd:(E.map (·.g)).Nodup
 cov:∀c∈l,∃e∈E,e.g=KZ c
 aiE:∀e∈E,∀b,e.o=some b→oC≠some b
 sep:∀e∈E,∀f∈E,e.g≠f.g→∀b,e.o=some b→f.o≠some b
 ow:∀b,(oC=some b∨∃e∈E,e.o=some b)→b≠br∧b≠bm∧n0.toNat≤b.toNat
 cs:cS.aV=true∧cS.cells=[cS]
 bb:br≠bm∧n0.toNat≤br.toNat∧n0.toNat≤bm.toNat
theorem Vj.ext{n0:Key}{l:List (Cf St)}{br bm:Key}{cC cS:AV}{oC:Option Key}{E:List Bk}{h h':T ag}{nx nx':Key}(R:Vj n0 l br bm cC cS oC E h nx)(e:Ext h nx h' nx'):Vj n0 l br bm cC cS oC E h' nx':=
 ⟨by rw[e.g _ R.brn];exact R.mD,by rw[e.g _ R.bmn];exact R.map,by have:=R.brn;have:=e.n;omega,by have:=R.bmn;have:=e.n;omega,R.C.ext e,fun x hx=>(R.B x hx).ext e,R.nd,R.cov,R.aiE,R.sep,R.ow,R.cs,R.bb⟩
theorem amY{n0:Key}{l:List (Cf St)}{br bm:Key}{cC cS:AV}{oC:Option Key}{E:List Bk}{h:T ag}{nx:Key}(R:Vj n0 l br bm cC cS oC E h nx){g:Nat}(hg:Tp E g=none):Pd l g=[]:=by refine List.eq_nil_iff_forall_not_mem.2 fun j hj=>?_;obtain⟨c,h1,h2⟩:=Yo.1 hj;obtain⟨e,he,h3⟩:=R.cov c (List.mem_of_getElem? h1);exact ajc hg e he (by rw[h3,h2])
def AdI(l:List (Cf St))(x:Cf St)(g:Nat)(UI:AV)(br b3:Key)(h:T ag)(nx:Key)(m:Nat)(tm':T AV)(h':T ag)(nx':Key):Prop:=∃q:Nat,m=(Pd l g).length-q∧q≤(Pd l g).length∧ae (K 0) tm'=some (.ptr br 0)∧ae (K 3) tm'=some (.ptr b3 0)∧ae (K 5) tm'=some (np g)∧ae (K 20) tm'=some UI∧ae (K 21) tm'=some (I (Pd l g).length)∧ae (K 22) tm'=some (I q)∧Ext h nx h' nx'∧(∀p (hp:p<(Pd l g).length),p<q→l[(Pd l g)[p]]?≠some x)
variable{C:bU}{X:Kn}(S:Std C X)(H:PU C)
include S H
theorem amZ{n0:Key}{l:List (Cf St)}(hl:l.length≤10000)(Hn:∀y∈l,y.2.kids.length≤3){x:Cf St}(hx:x.2.kids.length≤3){g:Nat}{br bm b3:Key}{cC cS UI:AV}{oC:Option Key}{E:List Bk}{h:T ag}{nx:Key}(R:Vj n0 l br bm cC cS oC E h nx)(h20:Rd 1 UI (ai eI (Vs l g)) (Vs l g).length h nx)(hb3:ae b3 h=Qw (eC x))(b3n:b3.toNat<nx.toNat){Q:cJ}{m:Nat}{tm:T AV}{h1:T ag}{bW:Key}(A:AdI l x g UI br b3 h nx m tm h1 bW)
  (awm:∀tm' h' nx' j,l[j]?=some x→ae (K 4) tm'=some (I (j:Nat))→Ext h nx h' nx'→Q .ret tm' h' nx')
  (I2:∀tm' h' nx',ae (K 0) tm'=some (.ptr br 0)→ae (K 3) tm'=some (.ptr b3 0)→ae (K 5) tm'=some (np g)→Ext h nx h' nx'→(∀j∈Pd l g,l[j]?≠some x)→Q .norm tm' h' nx') :
  W C (.loop jh) (az 0 Q) tm h1 bW:=by
 have rC:=S.r cd;have zz:=Yp l g;have hle:=am0 l g;refine W.eB (AdI l x g UI br b3 h nx) A ?_;rintro m dF h2 aN ⟨q,rfl,hq,g0,g3,g5,g20,g21,g22,e2,lC⟩;have R2:=R.ext e2;have ard:=h20.ext e2;have aHR:ae b3 h2=Qw (eC x):=by rw[e2.g _ b3n];exact hb3
 refine W.of ?_;simp[jh];by_cases hql:q<(Pd l g).length
 ·have hqi:(q:Int)<(Pd l g).length:=by omega
  have hqs:q<(Vs l g).length:=by omega
  have PS:(Vs l g)[q]=((Pd l g)[q]:Nat):=by simp[Vs]
  obtain⟨cj,hcj,hgj⟩:=Yo.1 (DX hql);obtain⟨bY,aHS⟩:=List.getElem?_eq_some_iff.1 hcj;have hRC:=R2.C.rd;have aHT:l[(Pd l g)[q]]?≠some x→∀p (hp:p<(Pd l g).length),p<q+1→l[(Pd l g)[p]]?≠some x:=fun h p hp hpq=>by
   by_cases e:p=q
   ·subst e;exact h
   ·exact lC p hp (by omega)
  simp[mI,g21,g22,hqi];simp only[uK,Ls,SG,SH,Lw,SJ,Lx,SK,SL,Lt,Lu,SM,SN,SO,SP];simp[↓ard.ixI hqs,g20,g22];rw[PS];generalize hj:(Pd l g)[q]=j at *;have hkj:=Hn cj (List.mem_of_getElem? hcj);have Ld:=Al S (a:=Gj cj) (b:=Gj x) hkj hx h2 aN;rw[Rs,Rs]at Ld;simp[↓hRC.az4 wM bY,uL,g0,g3,R2.mD,aHR,wR,Ks,rC,JD,aHS];refine Ld.mono ?_;rintro o h3 bP ⟨rfl,e3⟩;simp;by_cases hz:Tq (Gj cj) (Gj x)=0
  ·have hcx:cj=x:=by
    have:=congrArg AN (Q1.1 hz)
    rwa [Ea,Ea]at this
   subst hcx;simp[hz];simp[uM];exact awm _ _ _ j hcj (by simp) (e2.trans e3)
  ·have hcx:cj≠x:=fun e=>hz (Q1.2 (by rw[e]));simp[hz];simp[uN,g22];rw[aH (by omega) (by omega)];exact⟨(Pd l g).length-(q+1),by omega,q+1,rfl,by omega,by simp[g0],by simp[g3],by simp[g5],by simp[g20],by simp[g21],by simp,e2.trans e3,aHT (by rw[hcj];exact fun e=>hcx (Option.some.inj e))⟩
 ·have hqe:q=(Pd l g).length:=by omega
  subst hqe;simp[mI,g21,g22];refine I2 _ _ _ (by simp[g0]) (by simp[g3]) (by simp[g5]) e2 ?_;intro j hj;obtain⟨p,hp,rfl⟩:=List.getElem_of_mem hj;exact lC p hp hp
end Ln
namespace Ln
open Go.Sx Go
structure Buk(l:List (Cf St))(E:List Bk)(g:Nat)(m:Option AV)(UI:AV)(UJ:Option Key)(h:T ag)(nx:Key):Prop where
 m:(m=none∧UI=.nils)∨m=some UI
 gr:Gr 1 UI (ai eI (Vs l g)) (Vs l g).length h nx UJ
 own:∀b,UJ=some b→∃e∈E,e.g=g∧e.o=some b
theorem Vj.buk{n0:Key}{l:List (Cf St)}{br bm:Key}{cC cS:AV}{oC:Option Key}{E:List Bk}{h:T ag}{nx:Key}(R:Vj n0 l br bm cC cS oC E h nx)(g:Nat):∃UI UJ,Buk l E g ((Tp E g).map (·.c)) UI UJ h nx:=by
 cases hg:Tp E g with
 |none=>
  refine⟨.nils,none,.inl ⟨rfl,rfl⟩,?_,by simp⟩;have:Vs l g=[]:=by unfold Vs;rw[amY R hg];rfl
  rw[this];exact Gr.nil _ _ _
 |some e=>obtain⟨h1,h2⟩:=anE hg;refine⟨e.c,e.o,.inr rfl,by have:=R.B e h1;rw[h2]at this;exact this,fun b hb=>⟨e,h1,h2,hb⟩⟩
theorem Buk.ext{l:List (Cf St)}{E:List Bk}{g:Nat}{m:Option AV}{UI:AV}{UJ:Option Key}{h h':T ag}{nx nx':Key}(B:Buk l E g m UI UJ h nx)(e:Ext h nx h' nx'):Buk l E g m UI UJ h' nx':=⟨B.m,B.gr.ext e,B.own⟩
variable{C:bU}{X:Kn}(S:Std C X)(H:PU C)
theorem awS{n0:Key}{l:List (Cf St)}(hl:l.length≤10000){g:Nat}{br bm:Key}{cC cS UI:AV}{oC UJ:Option Key}{E:List Bk}{h:T ag}{nx:Key}(R:Vj n0 l br bm cC cS oC E h nx)(B:Buk l E g ((Tp E g).map (·.c)) UI UJ h nx){Q:cJ}{tm:T AV}(g0:ae (K 0) tm=some (.ptr br 0))(g5:ae (K 5) tm=some (np g))
  (hQ:∀tm' c55 o55 h2 aN,ae (K 0) tm'=ae (K 0) tm→ae (K 3) tm'=ae (K 3) tm→Gr 1 c55 (ai eI (Vs l g ++ [(l.length:Int)])) (Vs l g ++ [(l.length:Int)]).length h2 aN o55→Kj h nx UJ h2 aN o55→Q .norm tm' (au bm (some (.map (Dk (N7 E ⟨g,c55,o55⟩)))) h2) aN) :
  fJ C (.staged ez ⟨[K 38,K 39,K 40,K 41,K 42,K 43,K 44,K 45,K 46,K 47,K 48,K 49,K 50,K 51,K 52,K 53,K 54,K 55],[]⟩) Q tm h nx:=by
 have s1:=kTSu nx;have hfk:=TE C.orc g E;have e1:=E0 h nx (.cells [I (l.length:Int)] .fix);have zz:=Yp l g;have hle:=am0 l g;obtain⟨c55,h2,aN,o55,ha,G55,F⟩:=(B.gr.ext e1).IS CT (by decide) (by decide) (by omega) (l.length:Int);have F15:=(Kj.zK e1 UJ).trans F;have hej:eI (l.length:Int)=[I (l.length:Int)]:=rfl;rw[hej]at ha;have hR:=R.C.rd;have ob:∀b:Key,b.toNat<nx.toNat→(∀e∈E,e.o≠some b)→ae b h2=ae b h:=fun b hb ho=>F15.g b hb (fun e=>by obtain⟨x,hx,_,hxo⟩:=B.own b e;exact ho x hx hxo);have br2:ae br h2=Qw [cC,cS,.map bm]:=by rw[ob br R.brn (fun e he ho=>(R.ow br (.inr ⟨e,he,ho⟩)).1 rfl)];exact R.mD
 have bm2:ae bm h2=some (.map (Dk E)):=by rw[ob bm R.bmn (fun e he ho=>(R.ow bm (.inr ⟨e,he,ho⟩)).2.1 rfl)];exact R.map
 have kc:=G55.cell;have Q9:=ahM C.orc ⟨g,c55,o55⟩ E;simp only at Q9;have fin:∀tm',ae (K 0) tm'=ae (K 0) tm→ae (K 3) tm'=ae (K 3) tm→Q .norm tm' (au bm (some (.map (Dk (N7 E ⟨g,c55,o55⟩)))) h2) aN:=fun tm' a b=>hQ tm' c55 o55 h2 aN a b G55 F15;have mD:=R.mD;have mp:=R.map;have kbq:AV.beq (.map bm) (.map bm)=true:=beq_refl _ rfl;rcases B.m with⟨hm,rfl⟩|hm
 ·rw[hm]at hfk;simp[-appendTo,-findK,-setK,ez,g0,g5,mD,mp,hfk,↓hR.lnS,ha,br2,bm2,Q9];exact⟨kbq,fin _ (by simp) (by simp)⟩
 ·rw[hm]at hfk;simp[-appendTo,-findK,-setK,ez,g0,g5,mD,mp,hfk,↓hR.lnS,ha,br2,bm2,Q9];exact⟨kbq,fin _ (by simp) (by simp)⟩
structure Po(n0:Key)(l:List (Cf St))(x:Cf St)(br bm:Key)(cS:AV)(oC:Option Key)(E:List Bk)(h:T ag)(nx:Key)(o:Out)(h':T ag)(nx':Key):Prop where
 r:∃(j:Nat) (cC':AV) (NH:Option Key) (E':List Bk),(fX l x)[j]?=some x∧o=.ret (I (j:Nat))∧Vj n0 (fX l x) br bm cC' cS NH E' h' nx'∧(∀b,(NH=some b∨∃e∈E',e.o=some b)→(oC=some b∨∃e∈E,e.o=some b)∨nx.toNat≤b.toNat)
 n:nx.toNat≤nx'.toNat
 g:∀b:Key,b.toNat<nx.toNat→b≠br→b≠bm→oC≠some b→(∀e∈E,e.o≠some b)→ae b h'=ae b h
end Ln
namespace Ln
open Go.Sx Go
variable{C:bU}{X:Kn}(S:Std C X)(H:PU C)
theorem ar8{n0:Key}{l:List (Cf St)}(hl:l.length≤10000){x:Cf St}(M7:x∉l){br bm b3:Key}{cC cS UI:AV}{oC UJ:Option Key}{E:List Bk}{h:T ag}{nx:Key}(hn0:n0.toNat≤nx.toNat)(R:Vj n0 l br bm cC cS oC E h nx)(B:Buk l E (KZ x) ((Tp E (KZ x)).map (·.c)) UI UJ h nx)(hb3:ae b3 h=Qw (eC x))(b3n:b3.toNat<nx.toNat)(b3o:b3≠br∧b3≠bm∧oC≠some b3∧∀e∈E,e.o≠some b3){R':Out→T ag→Key→Prop}{tm:T AV}(g0:ae (K 0) tm=some (.ptr br 0))(g3:ae (K 3) tm=some (.ptr b3 0))(g5:ae (K 5) tm=some (np (KZ x)))
  (hR:∀h' nx',Po n0 l x br bm cS oC E h nx (.ret (I l.length)) h' nx'→R' (.ret (I l.length)) h' nx') :
  fJ C (.seq (.staged ez ⟨[K 38,K 39,K 40,K 41,K 42,K 43,K 44,K 45,K 46,K 47,K 48,K 49,K 50,K 51,K 52,K 53,K 54,K 55],[]⟩) (.seq (.staged ji ⟨[K 56,K 57,K 58,K 59,K 60,K 61,K 62,K 63,K 64,K 65],[]⟩) (.seq (.ops iC) .ret))) (cY [.tmp (K 4)] R') tm h nx:=by
 simp only[bR];refine awS (C:=C) hl R B g0 g5 (fun tm2 c55 o55 h2 aN p0 p3 G55 F=>?_);rw[g0]at p0;rw[g3]at p3;have n2:=F.n;have s2:=kTSu aN;have aRk:∀b:Key,UJ=some b→b.toNat<nx.toNat:=fun b hb=>B.gr.lt b hb;have aoC:∀b:Key,o55=some b→UJ=some b∨nx.toNat≤b.toNat:=fun b hb=>by
  rcases F.o with e|⟨y,e,hy⟩
  ·rw[e]at hb;exact .inl hb
  ·rw[e]at hb;cases hb;exact .inr hy
 have alU:∀b:Key,UJ=some b→b≠br∧b≠bm∧oC≠some b:=fun b hb=>by obtain⟨e,he,_,ho⟩:=B.own b hb;have:=R.ow b (.inr ⟨e,he,ho⟩);exact⟨this.1,this.2.1,R.aiE e he b ho⟩
 have aw7:∀b:Key,o55=some b→b≠br∧b≠bm∧oC≠some b:=fun b hb=>by
  rcases aoC b hb with h1|h1
  ·exact alU b h1
  ·have h2:=R.brn;have h3:=R.bmn;exact⟨fun e=>by rw[e]at h1;omega,fun e=>by rw[e]at h1;omega,fun e=>by have:=R.C.lt b e;omega⟩
 have k2:∀b:Key,b.toNat<nx.toNat→UJ≠some b→ae b h2=ae b h:=fun b hb ho=>F.g b hb ho;generalize hE:N7 E ⟨KZ x,c55,o55⟩=E' at *;have k3:∀b:Key,b≠bm→ae b (au bm (some (.map (Dk E'))) h2)=ae b h2:=fun b hb=>aG _ _ _ _ hb;have br3:ae br (au bm (some (.map (Dk E'))) h2)=Qw [cC,cS,.map bm]:=by rw[k3 br R.bb.1,k2 br R.brn (fun e=>(alU br e).1 rfl)];exact R.mD
 have b33:ae b3 (au bm (some (.map (Dk E'))) h2)=Qw (eC x):=by rw[k3 b3 b3o.2.1,k2 b3 b3n (fun e=>by obtain⟨y,hy,_,ho⟩:=B.own b3 e;exact b3o.2.2.2 y hy ho)];exact hb3
 have bm3:ae bm (au bm (some (.map (Dk E'))) h2)=some (.map (Dk E')):=by simp
 have aJh:∀b:Key,oC=some b→ae b (au bm (some (.map (Dk E'))) h2)=ae b h:=fun b hb=>by have:=R.ow b (.inl hb);rw[k3 b this.2.1,k2 b (R.C.lt b hb) (fun e=>(alU b e).2.2 hb)]
 have G3:Gr 5 cC (ai eC l) l.length (au bm (some (.map (Dk E'))) h2) aN oC:=R.C.bZ n2 aJh;have aw8:Gr 1 c55 (ai eI (Vs l (KZ x) ++ [(l.length:Int)])) (Vs l (KZ x) ++ [(l.length:Int)]).length (au bm (some (.map (Dk E'))) h2) aN o55:=G55.bZ (dQ _) fun b hb=>k3 b (aw7 b hb).2.1;have dT:∀b:Key,b.toNat<nx.toNat→b≠bm→UJ≠some b→ae b (au bm (some (.map (Dk E'))) h2)=ae b h:=fun b hb hm ho=>by rw[k3 b hm,k2 b hb ho]
 generalize au bm (some (.map (Dk E'))) h2=h3 at *;have e4:=E0 h3 aN (.cells (eC x) .fix);obtain⟨c63,h5,nx5,NH,ha,G5,F5⟩:=(G3.ext e4).IS wM (by decide) (by decide) (by omega) x;have F35:=(Kj.zK e4 oC).trans F5;have n5:=F35.n;have br5:ae br h5=Qw [cC,cS,.map bm]:=by rw[F35.g br (by have:=R.brn;omega) (fun e=>(R.ow br (.inl e)).1 rfl)];exact br3
 have kc:=G3.cell;have kc':=G5.cell;simp;simp[-appendTo,ji,p0,p3,br3,b33,wR,Ks,Mf,aAa,awE,ha,br5,kc.1,kc.2,kc'.1,kc'.2,R.cs.1,R.cs.2];have ho5:∀b:Key,NH=some b→oC=some b∨aN.toNat≤b.toNat:=fun b hb=>by
  rcases F35.o with e|⟨y,e,hy⟩
  ·rw[e]at hb;exact .inl hb
  ·rw[e]at hb;cases hb;exact .inr hy
 have brn:=R.brn;have bmn:=R.bmn;have aJj:NH≠some br:=fun e=>by
  rcases ho5 br e with h1|h1
  ·exact(R.ow br (.inl h1)).1 rfl
  ·omega
 have k6:∀b:Key,b.toNat<aN.toNat→b≠br→oC≠some b→ae b (au br (Qw [c63,cS,.map bm]) h5)=ae b h3:=fun b hb h1 h2=>by rw[aG _ _ _ _ h1,F35.g b hb h2]
 have br6:ae br (au br (Qw [c63,cS,.map bm]) h5)=Qw [c63,cS,.map bm]:=by simp
 have G6:Gr 5 c63 (ai eC (l ++ [x])) (l ++ [x]).length (au br (Qw [c63,cS,.map bm]) h5) nx5 NH:=G5.bZ (dQ _) fun b hb=>aG _ _ _ _ (fun e=>aJj (by rw[hb,e]));generalize au br (Qw [c63,cS,.map bm]) h5=h6 at *;have hR6:=G6.rd;have XG:(l ++ [x]).length=l.length+1:=by simp
 rw[XG]at hR6;have hw1:bF .i64 (l.length:Int)=(l.length:Int):=aH (by omega) (by omega);simp[↓hR6.ln,iC,p0,br6,hw1];have C4:fX l x=l ++ [x]:=by unfold fX;rw[if_neg M7]
 have I2:∀y:Bk,y∈E'↔y=⟨KZ x,c55,o55⟩∨(y∈E∧y.g≠KZ x):=fun y=>by rw[←hE];exact TF R.nd
 have oCn:∀b:Key,NH=some b→oC=some b∨nx.toNat≤b.toNat:=fun b hb=>by
  rcases ho5 b hb with h1|h1
  ·exact .inl h1
  ·exact .inr (by omega)
 have aBP:∀e∈E,e.g≠KZ x→∀b,e.o=some b→ae b h6=ae b h:=fun e he hg b hb=>by have Ch:=(R.B e he).lt b hb;have h1:=R.ow b (.inr ⟨e,he,hb⟩);have h2:=R.aiE e he b hb;rw[k6 b (by omega) h1.1 h2,dT b Ch h1.2.1 (fun e'=>by obtain⟨y,hy,hyg,hyo⟩:=B.own b e';exact R.sep e he y hy (by rw[hyg];exact hg) b hb hyo)]
 refine hR _ _ ⟨⟨l.length,c63,NH,E',by rw[C4];simp,rfl,?_,?_⟩,by omega,?_⟩
 ·rw[C4];refine⟨br6,?_,by omega,by omega,G6,?_,by rw[←hE];exact TG R.nd,?_,?_,?_,?_,R.cs,R.bb⟩
  ·rw[k6 bm (by omega) (Ne.symm R.bb.1) (fun e=>(R.ow bm (.inl e)).2.1 rfl)];exact bm3
  ·intro e he;rw[anG];rcases (I2 e).1 he with rfl|⟨he,hg⟩
   ·rw[if_pos rfl];refine aw8.bZ n5 fun b hb=>?_;have h1:=aw7 b hb;have h2:b.toNat<aN.toNat:=aw8.lt b hb;rw[k6 b h2 h1.1 h1.2.2]
   ·rw[if_neg (fun e'=>hg e'.symm),List.append_nil];exact(R.B e he).bZ (by omega) (aBP e he hg)
  ·intro c hc;rcases List.mem_append.1 hc with hc|hc
   ·obtain⟨e,he,h1⟩:=R.cov c hc;by_cases hg:e.g=KZ x
    ·exact⟨_,(I2 _).2 (.inl rfl),by show KZ x=KZ c;rw[←hg,h1]⟩
    ·exact⟨e,(I2 e).2 (.inr ⟨he,hg⟩),h1⟩
   ·simp at hc;subst hc;exact⟨_,(I2 _).2 (.inl rfl),rfl⟩
  ·intro e he b hb hC;rcases (I2 e).1 he with rfl|⟨he,hg⟩
   ·rcases ho5 b hC with h1|h1
    ·exact(aw7 b hb).2.2 h1
    ·have:b.toNat<aN.toNat:=aw8.lt b hb;omega
   ·have Ch:=(R.B e he).lt b hb;rcases oCn b hC with h1|h1
    ·exact R.aiE e he b hb h1
    ·omega
  ·intro e he f hf bT b hb hfo;rcases (I2 e).1 he with rfl|⟨he,hg⟩
   ·rcases (I2 f).1 hf with rfl|⟨hf,hgf⟩
    ·exact bT rfl
    ·have Ch:=(R.B f hf).lt b hfo;rcases aoC b hb with h1|h1
     ·obtain⟨y,hy,hyg,hyo⟩:=B.own b h1;exact R.sep f hf y hy (by rw[hyg];exact hgf) b hfo hyo
     ·omega
   ·rcases (I2 f).1 hf with rfl|⟨hf,hgf⟩
    ·have Ch:=(R.B e he).lt b hb;rcases aoC b hfo with h1|h1
     ·obtain⟨y,hy,hyg,hyo⟩:=B.own b h1;exact R.sep e he y hy (by rw[hyg];exact hg) b hb hyo
     ·omega
    ·exact R.sep e he f hf bT b hb hfo
  ·intro b hb;rcases hb with hb|⟨e,he,hb⟩
   ·rcases oCn b hb with h1|h1
    ·exact R.ow b (.inl h1)
    ·exact⟨fun e=>by rw[e]at h1;omega,fun e=>by rw[e]at h1;omega,by omega⟩
   ·rcases (I2 e).1 he with rfl|⟨he,hg⟩
    ·rcases aoC b hb with h1|h1
     ·obtain⟨y,hy,_,hyo⟩:=B.own b h1;exact R.ow b (.inr ⟨y,hy,hyo⟩)
     ·exact⟨fun e=>by rw[e]at h1;omega,fun e=>by rw[e]at h1;omega,by omega⟩
    ·exact R.ow b (.inr ⟨e,he,hb⟩)
 ·intro b hb;rcases hb with hb|⟨e,he,hb⟩
  ·rcases oCn b hb with h1|h1
   ·exact .inl (.inl h1)
   ·exact .inr h1
  ·rcases (I2 e).1 he with rfl|⟨he,hg⟩
   ·rcases aoC b hb with h1|h1
    ·obtain⟨y,hy,_,hyo⟩:=B.own b h1;exact .inl (.inr ⟨y,hy,hyo⟩)
    ·exact .inr h1
   ·exact .inl (.inr ⟨e,he,hb⟩)
 ·intro b hb h1 h2 h4 h5;rw[k6 b (by omega) h1 h4,dT b hb h2 (fun e=>by obtain⟨y,hy,_,hyo⟩:=B.own b e;exact h5 y hy hyo)]
end Ln
namespace Ln
open Go.Sx Go
theorem Po.lift{n0:Key}{l:List (Cf St)}{x:Cf St}{br bm:Key}{cS:AV}{oC:Option Key}{E:List Bk}{h h1 h':T ag}{nx bW nx':Key}{o:Out}(e:Ext h nx h1 bW)(A:Po n0 l x br bm cS oC E h1 bW o h' nx'):Po n0 l x br bm cS oC E h nx o h' nx':=by
 have n:=e.n;obtain⟨⟨j,cC',NH,E',a1,a2,a3,a4⟩,a5,a6⟩:=A;refine⟨⟨j,cC',NH,E',a1,a2,a3,fun b hb=>?_⟩,by omega,fun b hb h1 h2 h3 h4=>by rw[a6 b (by omega) h1 h2 h3 h4,e.g b hb]⟩;rcases a4 b hb with h1|h1
 ·exact .inl h1
 ·exact .inr (by omega)
variable{C:bU}{X:Kn}(S:Std C X)(H:PU C)
include S H
theorem alD{n0:Key}{l:List (Cf St)}(hl:l.length≤10000)(Hn:∀y∈l,y.2.kids.length≤3){x:Cf St}(hx:x.2.kids.length≤3){br bm:Key}{cC cS:AV}{oC:Option Key}{E:List Bk}{h:T ag}{nx:Key}(hn0:n0.toNat≤nx.toNat)(R:Vj n0 l br bm cC cS oC E h nx) :
  aM C dL [.ptr br 0,.agg (eC x)] h nx (Po n0 l x br bm cS oC E h nx):=by
 have rH:=S.r qJ;have s1:=kTSu nx;refine S.xa.call ?_;simp[sb];simp[uW,Mf,wR];have e1:=E0 h nx (.cells (eC x) .fix);have b1:ae nx (au nx (Qw (eC x)) h)=Qw (eC x):=by simp
 generalize au nx (Qw (eC x)) h=h1 at *;have ec0:(eC x)[0]?=some (I x.1):=rfl;have alZ:(eC x).head?=some (I x.1):=rfl;have et:List.take 4 (eC x).tail=eS x.2:=rfl;have hcu:bF .u64 (x.1:Int)=((UB (x.1:Int):Nat):Int):=Ow _;have Rl:AV.beq (I x.1) (I x.1)=true:=beq_refl _ rfl;simp[uX,b1,ec0,alZ,et,wR,hcu,rH,CZ];refine(aqz S H hx).mono ?_;rintro o h2 aN ⟨rfl,e2⟩;have n2:=e2.n;have b2:ae nx h2=Qw (eC x):=by rw[e2.g nx (by omega)];exact b1
 have Rc:=e1.trans e2;have R2:=R.ext Rc;have hhk:KZ x=PT (aaf x.2) (UB (x.1:Int)):=rfl;simp[b2,ec0,alZ,Rl,↓arc (aaf x.2) (UB (x.1:Int))];rw[←hhk];obtain⟨UI,UJ,B⟩:=R2.buk (KZ x);have hfk:=TE C.orc (KZ x) E;have ard:=B.gr.rd;have zz:=Yp l (KZ x);have main:∀tm2:T AV,ae (K 0) tm2=some (.ptr br 0)→ae (K 3) tm2=some (.ptr nx 0)→ae (K 5) tm2=some (np (KZ x))→ae (K 20) tm2=some UI→ae (K 21) tm2=some (I (Vs l (KZ x)).length)→ae (K 22) tm2=some (I 0)→
   W C (.loop jh) (az 0 (aO (fJ C (.seq (.staged ez ⟨[K 38,K 39,K 40,K 41,K 42,K 43,K 44,K 45,K 46,K 47,K 48,K 49,K 50,K 51,K 52,K 53,K 54,K 55],[]⟩) (.seq (.staged ji ⟨[K 56,K 57,K 58,K 59,K 60,K 61,K 62,K 63,K 64,K 65],[]⟩) (.seq (.ops iC) .ret))) (cY [.tmp (K 4)] (Po n0 l x br bm cS oC E h nx))) (cY [.tmp (K 4)] (Po n0 l x br bm cS oC E h nx)))) tm2 h2 aN:=by
  intro tm2 q0 q3 q5 q20 q21 q22;refine amZ S H hl Hn hx (g:=KZ x) R2 ard b2 (by omega) (m:=(Pd l (KZ x)).length) ⟨0,by simp,by omega,q0,q3,q5,q20,by rw[q21,zz],by simpa using q22,Ext.refl _ _,fun p _ hp=>absurd hp (by omega)⟩ ?_ ?_
  ·intro tm' h' nx' j hj q4 e';have M7:x∈l:=List.mem_of_getElem? hj;have C4:fX l x=l:=by unfold fX;rw[if_pos M7]
   have UD:=Rc.trans e';simp[q4];exact⟨⟨j,cC,oC,E,by rw[C4];exact hj,rfl,by rw[C4];exact R.ext UD,fun b hb=>.inl hb⟩,UD.n,fun b hb _ _ _ _=>UD.g b hb⟩
  ·intro tm' h' nx' q0' q3' q5' e' lC;have M7:x∉l:=fun hm=>by
    obtain⟨j,hj,e⟩:=List.getElem_of_mem hm;have hj2:l[j]?=some x:=by rw[A6 hj,e]
    exact lC j (Yo.2 ⟨x,hj2,rfl⟩) hj2
   have UD:=Rc.trans e';have n13:=UD.n;have n':=e'.n;have R3:=R2.ext e';have hnb:∀b:Key,b.toNat<nx.toNat→b≠nx:=fun b hb e=>by rw[e]at hb;omega
   simp only[Ym];refine ar8 (C:=C) hl M7 (b3:=nx) (by omega) R3 (B.ext e') (by rw[e'.g nx (by omega)];exact b2) (by omega) ⟨fun e=>hnb br R.brn e.symm,fun e=>hnb bm R.bmn e.symm,fun e=>hnb nx (R.C.lt nx e) rfl,fun y hy e=>hnb nx ((R.B y hy).lt nx e) rfl⟩ q0' q3' q5' (fun h4 kK A=>?_);exact Po.lift UD A
 rcases B.m with⟨hm,rfl⟩|hm
 ·rw[hm]at hfk;have Zx:(Vs l (KZ x)).length=0:=by
   rcases B.gr with⟨_,_,e,_⟩|⟨b,k,_,e,_⟩|⟨t,_,e,_⟩
   ·exact e
   ·cases e
   ·cases e
  rw[Zx]at main;simp[-findK,mL,R2.mD,R2.map,hfk];refine main _ ?_ ?_ ?_ ?_ ?_ ?_<;>simp
 ·rw[hm]at hfk;simp[-findK,mL,R2.mD,R2.map,hfk,↓ard.ln];refine main _ ?_ ?_ ?_ ?_ ?_ ?_<;>simp
end Ln
namespace Ln
open Go.Sx Go
variable{σ:Type}[DecidableEq σ]
theorem Kr:∀(a l b:List (Cf σ)),ib l (a++b)=match ib l a with|none=>none|some l'=>ib l' b
 | [],l,b=>rfl
 |c ::a,l,b=>by
  show(if (fX l c).length>1024 then none else ib (fX l c) (a++b))=(match (if (fX l c).length>1024 then none else ib (fX l c) a)with|none=>none|some l'=>ib l' b);by_cases h:(fX l c).length>1024
  ·rw[if_pos h,if_pos h]
  ·rw[if_neg h,if_neg h];exact Kr a (fX l c) b
theorem adQ(l:List (Cf σ))(c:Cf σ):ib l [c]=if (fX l c).length>1024 then none else some (fX l c):=rfl
def xE(S:Sys σ)(l:List (Cf σ))(c:Cf σ)(k:Nat):Option (List (Cf σ)):=ib l ((S.kx c k).map (·.2))
theorem aac(S:Sys σ)(l:List (Cf σ))(c:Cf σ):xE S l c 0=some l:=rfl
theorem aad{S:Sys σ}{l:List (Cf σ)}{c:Cf σ}{k:Nat}(h:S.step c k=none):xE S l c (k+1)=xE S l c k:=by unfold xE;rw[lO,h];simp
theorem Pa{S:Sys σ}{l lk:List (Cf σ)}{c:Cf σ}{k:Nat}{x:Nat×Cf σ}(h:S.step c k=some x)(hk:xE S l c k=some lk):xE S l c (k+1)=if (fX lk x.2).length>1024 then none else some (fX lk x.2):=by unfold xE at *;rw[lO,h,List.map_append,Kr,hk];exact adQ lk x.2
theorem aae{S:Sys σ}{l:List (Cf σ)}{c:Cf σ}{k:Nat}(hk:k≤S.n)(h:xE S l c k=none):ib l ((S.steps c).map (·.2))=none:=by obtain⟨t,e⟩:=Hh S c hk;rw[Wn]at e;rw[e,List.map_append,Kr];unfold xE at h;rw[h]
theorem adR{S:Sys σ}{l lk:List (Cf σ)}{c:Cf σ}{k:Nat}(h:xE S l c k=some lk):(∃t,lk=l++t)∧∀x∈S.kx c k,x.2∈lk:=by obtain⟨h1,h2,_⟩:=nC h;exact⟨h1,fun x hx=>h2 _ (KT.2 ⟨x,hx,rfl⟩)⟩
def Bz(S:Sys σ)(l:List (Cf σ))(c:Cf σ)(k:Nat):List (Nat×Nat):=(S.kx c k).map fun x=>(x.1,l.idxOf x.2)
theorem aiC{S:Sys σ}{l t:List (Cf σ)}{c:Cf σ}{k:Nat}(h:∀x∈S.kx c k,x.2∈l):Bz S (l++t) c k=Bz S l c k:=by unfold Bz;refine List.map_congr_left fun x hx=>?_;rw[ag4 (h x hx)]
theorem alw(l:List (Cf σ))(x:Cf σ):∃t,fX l x=l++t:=by
 unfold fX;split
 ·exact⟨[],by simp⟩
 ·exact⟨[x],rfl⟩
theorem adS{S:Sys σ}{l:List (Cf σ)}{c:Cf σ}{k:Nat}{x:Nat×Cf σ}(h:S.step c k=some x)(hl:∀y∈S.kx c k,y.2∈l):Bz S (fX l x.2) c (k+1)=Bz S l c k ++ [(x.1,(fX l x.2).idxOf x.2)]:=by obtain⟨t,e⟩:=alw l x.2;have:=aiC (t:=t) hl;rw[←e]at this;rw[←this];unfold Bz;rw[lO,h,List.map_append];rfl
def eT(p:Nat×Nat):List AV:=[I (p.1:Int),I (p.2:Int)]
theorem jb:Flat 2 eT where
 len _:=rfl
 wH x y hy:=by
  simp[eT]at hy;rcases hy with rfl|rfl
  ·exact dG _ _
  ·exact dG _ _
 cell x y hy:=by simp[eT]at hy;rcases hy with rfl|rfl<;>rfl
 lits x:=by simp[eT,AV.gS,AV.lits,I]
end Ln
namespace Ln
open Go.Sx Go
structure Exp(n0:Key)(lk:List (Cf St))(st:List (Nat×Nat))(br bm b4 b6:Key)(cC cS c6:AV)(oC o6:Option Key)(E:List Bk)(h:T ag)(nx:Key):Prop where
 R:Vj n0 lk br bm cC cS oC E h nx
 v4:ae b4 h=Qw [.ptr br 0]
 v6:ae b6 h=Qw [c6]
 G6:Gr 2 c6 (ai eT st) st.length h nx o6
 lt:b4.toNat<nx.toNat∧b6.toNat<nx.toNat
 ne:b4≠br∧b4≠bm∧b4≠b6∧b6≠br∧b6≠bm
 ap:∀b,(oC=some b∨∃e∈E,e.o=some b)→b≠b4∧b≠b6∧o6≠some b
 o6:∀b,o6=some b→b≠br∧b≠bm∧b≠b4∧b≠b6∧n0.toNat≤b.toNat
 ge:n0.toNat≤b4.toNat∧n0.toNat≤b6.toNat
def lP(br bm b6:Key)(oC o6:Option Key)(E:List Bk)(b:Key):Prop:=b=br∨b=bm∨b=b6∨oC=some b∨(∃e∈E,e.o=some b)∨o6=some b
theorem Exp.ge'{n0:Key}{lk:List (Cf St)}{st:List (Nat×Nat)}{br bm b4 b6:Key}{cC cS c6:AV}{oC o6:Option Key}{E:List Bk}{h:T ag}{nx:Key}(A:Exp n0 lk st br bm b4 b6 cC cS c6 oC o6 E h nx){b:Key}(hb:lP br bm b6 oC o6 E b):n0.toNat≤b.toNat:=by
 rcases hb with rfl|rfl|rfl|hb|⟨e,he,hb⟩|hb
 ·exact A.R.bb.2.1
 ·exact A.R.bb.2.2
 ·exact A.ge.2
 ·exact(A.R.ow b (.inl hb)).2.2
 ·exact(A.R.ow b (.inr ⟨e,he,hb⟩)).2.2
 ·exact(A.o6 b hb).2.2.2.2
theorem Vj.bZ{n0:Key}{l:List (Cf St)}{br bm:Key}{cC cS:AV}{oC:Option Key}{E:List Bk}{h h':T ag}{nx nx':Key}(R:Vj n0 l br bm cC cS oC E h nx)(hn:nx.toNat≤nx'.toNat)(hk:∀b,(b=br∨b=bm∨oC=some b∨∃e∈E,e.o=some b)→ae b h'=ae b h):Vj n0 l br bm cC cS oC E h' nx':=
 ⟨by rw[hk br (.inl rfl)];exact R.mD,by rw[hk bm (.inr (.inl rfl))];exact R.map,by have:=R.brn;omega,by have:=R.bmn;omega,R.C.bZ hn fun b hb=>hk b (.inr (.inr (.inl hb))),fun x hx=>(R.B x hx).bZ hn fun b hb=>hk b (.inr (.inr (.inr ⟨x,hx,hb⟩))),R.nd,R.cov,R.aiE,R.sep,R.ow,R.cs,R.bb⟩
theorem Vj.olt{n0:Key}{l:List (Cf St)}{br bm:Key}{cC cS:AV}{oC:Option Key}{E:List Bk}{h:T ag}{nx:Key}(R:Vj n0 l br bm cC cS oC E h nx){b:Key}(hb:oC=some b∨∃e∈E,e.o=some b):b.toNat<nx.toNat:=by
 rcases hb with hb|⟨e,he,hb⟩
 ·exact R.C.lt b hb
 ·exact(R.B e he).lt b hb
variable{C:bU}{X:Kn}(S:Std C X)(H:PU C)
include S H
theorem az1{n0:Key}{lk:List (Cf St)}(hl:lk.length≤9000)(Hn:∀y∈lk,y.2.kids.length≤3){x:Cf St}(hx:x.2.kids.length≤3){st:List (Nat×Nat)}(fI:st.length≤1000){br bm b4 b6 b8:Key}{cC cS c6:AV}{oC o6:Option Key}{E:List Bk}{h:T ag}{nx:Key}(A:Exp n0 lk st br bm b4 b6 cC cS c6 oC o6 E h nx)(hn0:n0.toNat≤nx.toNat)(v8:ae b8 h=Qw (eC x))(b8n:b8.toNat<nx.toNat){k:Nat}{Q:cJ}{tm:T AV}(g4:ae (K 4) tm=some (.ptr b4 0))(g6:ae (K 6) tm=some (.ptr b6 0))(g7:ae (K 7) tm=some (I (k:Int)))(g8:ae (K 8) tm=some (.ptr b8 0))
  (hQ:∀tm' h' nx' j cC' c6' NH o6' E',(fX lk x)[j]?=some x→Exp n0 (fX lk x) (st ++ [(k,j)]) br bm b4 b6 cC' cS c6' NH o6' E' h' nx'→nx.toNat≤nx'.toNat→(∀b:Key,b.toNat<nx.toNat→¬lP br bm b6 oC o6 E b→ae b h'=ae b h)→(∀b,lP br bm b6 NH o6' E' b→lP br bm b6 oC o6 E b∨nx.toNat≤b.toNat)→ae (K 4) tm'=some (.ptr b4 0)→ae (K 2) tm'=ae (K 2) tm→ae (K 3) tm'=ae (K 3) tm→Q .norm tm' h' nx') :
  fJ C (.staged cU ⟨[K 38,K 39,K 40,K 41,K 42,K 43,K 44,K 45],[]⟩) Q tm h nx:=by
 have rA:=S.r dL;have k6:=A.G6.cell;have b6q:AV.beq c6 c6=true:=A.G6.lits jb;simp[cU,g4,g6,g7,g8,A.v4,A.v6,v8,wR,Ks,rA,JD];refine(alD S H (by omega) Hn hx hn0 A.R).mono ?_;rintro o h2 aN ⟨⟨j,cC2,oC2,E2,hj,rfl,R2,how⟩,n2,k2⟩;have s2:=kTSu aN;have nm:∀b:Key,b.toNat<nx.toNat→b≠br→b≠bm→oC≠some b→(∀e∈E,e.o≠some b)→ae b h2=ae b h:=k2;have v62:ae b6 h2=Qw [c6]:=by rw[nm b6 A.lt.2 A.ne.2.2.2.1 A.ne.2.2.2.2 (fun e=>(A.ap b6 (.inl e)).2.1 rfl) (fun e he ho=>(A.ap b6 (.inr ⟨e,he,ho⟩)).2.1 rfl)];exact A.v6
 have v42:ae b4 h2=Qw [.ptr br 0]:=by rw[nm b4 A.lt.1 A.ne.1 A.ne.2.1 (fun e=>(A.ap b4 (.inl e)).1 rfl) (fun e he ho=>(A.ap b4 (.inr ⟨e,he,ho⟩)).1 rfl)];exact A.v4
 have G62:Gr 2 c6 (ai eT st) st.length h2 aN o6:=A.G6.bZ n2 fun b hb=>by have h1:=A.o6 b hb;exact nm b (A.G6.lt b hb) h1.1 h1.2.1 (fun e=>(A.ap b (.inl e)).2.2 hb) (fun e he ho=>(A.ap b (.inr ⟨e,he,ho⟩)).2.2 hb)
 have hET:eT (k,j)=[I (k:Int),I (j:Int)]:=rfl;have e3:=E0 h2 aN (.cells (eT (k,j)) .fix);obtain⟨c7,h4,kK,o7,ha,G7,F7⟩:=(G62.ext e3).IS jb (by decide) (by decide) (by omega) (k,j);have F27:=(Kj.zK e3 o6).trans F7;rw[hET]at ha;have n4:=F27.n;have k7:=G7.cell;have v64:ae b6 h4=Qw [c6]:=by rw[F27.g b6 (by have:=A.lt.2;omega) (fun e=>(A.o6 b6 e).2.2.2.1 rfl)];exact v62
 simp[-appendTo,g4,g6,g7,v62,v64,b6q,ha,k6.1,k6.2,k7.1,k7.2];have o7n:∀b:Key,o7=some b→o6=some b∨aN.toNat≤b.toNat:=fun b hb=>by
  rcases F27.o with e|⟨y,e,hy⟩
  ·rw[e]at hb;exact .inl hb
  ·rw[e]at hb;cases hb;exact .inr hy
 have l4:=A.lt.1;have l6:=A.lt.2;have lr:=A.R.brn;have lm:=A.R.bmn;have ow2:∀b:Key,(oC2=some b∨∃e∈E2,e.o=some b)→b≠b4∧b≠b6∧o6≠some b:=fun b hb=>by
  rcases how b hb with h1|h1
  ·exact A.ap b h1
  ·exact⟨fun e=>by rw[e]at h1;omega,fun e=>by rw[e]at h1;omega,fun e=>by have:=A.G6.lt b e;omega⟩
 have aEQ:o7≠some b6:=fun e=>by
  rcases o7n b6 e with h1|h1
  ·exact(A.o6 b6 h1).2.2.2.1 rfl
  ·omega
 have same:∀b:Key,b.toNat<aN.toNat→b≠b6→o6≠some b→ae b (au b6 (Qw [c7]) h4)=ae b h2:=fun b hb h1 h2=>by rw[aG _ _ _ _ h1,F27.g b hb h2]
 refine hQ _ _ _ j cC2 c7 oC2 o7 E2 hj ⟨?_,?_,by simp,?_,by omega,A.ne,?_,?_,A.ge⟩ (by omega) ?_ ?_ (by simp[g4]) (by simp) (by simp)
 ·refine R2.bZ n4 fun b hb=>?_;rcases hb with rfl|rfl|hb|hb
  ·exact same _ R2.brn (Ne.symm A.ne.2.2.2.1) (fun e=>(A.o6 _ e).1 rfl)
  ·exact same _ R2.bmn (Ne.symm A.ne.2.2.2.2) (fun e=>(A.o6 _ e).2.1 rfl)
  ·have h1:=ow2 b (.inl hb);exact same b (R2.olt (.inl hb)) h1.2.1 h1.2.2
  ·have h1:=ow2 b (.inr hb);exact same b (R2.olt (.inr hb)) h1.2.1 h1.2.2
 ·rw[same b4 (by omega) A.ne.2.2.1 (fun e=>(A.o6 b4 e).2.2.1 rfl)];exact v42
 ·exact G7.bZ (dQ _) fun b hb=>aG _ _ _ _ (fun e=>aEQ (by rw[hb,e]))
 ·intro b hb;have h1:=ow2 b hb;refine⟨h1.1,h1.2.1,fun e=>?_⟩;rcases o7n b e with h2|h2
  ·exact h1.2.2 h2
  ·have:=R2.olt hb;omega
 ·intro b hb;rcases o7n b hb with h1|h1
  ·exact A.o6 b h1
  ·exact⟨fun e=>by rw[e]at h1;omega,fun e=>by rw[e]at h1;omega,fun e=>by rw[e]at h1;omega,fun e=>by rw[e]at h1;omega,by omega⟩
 ·intro b hb hm;unfold lP at hm;simp only[not_or]at hm;rw[same b (by omega) hm.2.2.1 hm.2.2.2.2.2,nm b hb hm.1 hm.2.1 hm.2.2.2.1 (fun e he ho=>hm.2.2.2.2.1 ⟨e,he,ho⟩)]
 ·rintro b (rfl|rfl|rfl|hb|⟨e,he,hb⟩|hb)
  ·exact .inl (.inl rfl)
  ·exact .inl (.inr (.inl rfl))
  ·exact .inl (.inr (.inr (.inl rfl)))
  ·rcases how b (.inl hb)with h1|h1
   ·exact .inl (by
     rcases h1 with h1|h1
     ·exact .inr (.inr (.inr (.inl h1)))
     ·exact .inr (.inr (.inr (.inr (.inl h1)))))
   ·exact .inr h1
  ·rcases how b (.inr ⟨e,he,hb⟩)with h1|h1
   ·exact .inl (by
     rcases h1 with h1|h1
     ·exact .inr (.inr (.inr (.inl h1)))
     ·exact .inr (.inr (.inr (.inr (.inl h1)))))
   ·exact .inr h1
  ·rcases o7n b hb with h1|h1
   ·exact .inl (.inr (.inr (.inr (.inr (.inr h1)))))
   ·exact .inr (by omega)
end Ln
namespace Ln
open Go.Sx Go
theorem _root_.Go.Sx.Gr.ct{z:Nat}{c:AV}{l:List AV}{len:Nat}{h:T ag}{nx:Key}{ob:Option Key}(g:Gr z c l len h nx ob){b:Key}(hb:ob=some b):(∃l k,ae b h=some (.cells l k))∨ae b h=some .tok:=by
 rcases g with⟨_,_,_,e⟩|⟨b',k,e,_,h1,_⟩|⟨t,e,_,h1,_⟩
 ·rw[e]at hb;cases hb
 ·rw[e]at hb;cases hb;exact .inl ⟨_,_,h1⟩
 ·rw[e]at hb;cases hb;exact .inr h1
theorem Exp.ct{n0:Key}{lk:List (Cf St)}{st:List (Nat×Nat)}{br bm b4 b6:Key}{cC cS c6:AV}{oC o6:Option Key}{E:List Bk}{h:T ag}{nx:Key}(A:Exp n0 lk st br bm b4 b6 cC cS c6 oC o6 E h nx){b:Key}(hb:lP br bm b6 oC o6 E b):b.toNat<nx.toNat∧((∃l k,ae b h=some (.cells l k))∨ae b h=some .tok∨∃l,ae b h=some (.map l)):=by
 rcases hb with rfl|rfl|rfl|hb|⟨e,he,hb⟩|hb
 ·exact⟨A.R.brn,.inl ⟨_,_,A.R.mD⟩⟩
 ·exact⟨A.R.bmn,.inr (.inr ⟨_,A.R.map⟩)⟩
 ·exact⟨A.lt.2,.inl ⟨_,_,A.v6⟩⟩
 ·refine⟨A.R.C.lt b hb,?_⟩;rcases A.R.C.ct hb with h1|h1
  ·exact .inl h1
  ·exact .inr (.inl h1)
 ·refine⟨(A.R.B e he).lt b hb,?_⟩;rcases (A.R.B e he).ct hb with h1|h1
  ·exact .inl h1
  ·exact .inr (.inl h1)
 ·refine⟨A.G6.lt b hb,?_⟩;rcases A.G6.ct hb with h1|h1
  ·exact .inl h1
  ·exact .inr (.inl h1)
theorem Exp.bZ{n0:Key}{lk:List (Cf St)}{st:List (Nat×Nat)}{br bm b4 b6:Key}{cC cS c6:AV}{oC o6:Option Key}{E:List Bk}{h h':T ag}{nx nx':Key}(A:Exp n0 lk st br bm b4 b6 cC cS c6 oC o6 E h nx)(hn:nx.toNat≤nx'.toNat)(hk:∀b,(lP br bm b6 oC o6 E b∨b=b4)→ae b h'=ae b h):Exp n0 lk st br bm b4 b6 cC cS c6 oC o6 E h' nx':=
 ⟨A.R.bZ hn fun b hb=>hk b (.inl (by
  rcases hb with h1|h1|h1|h1
  ·exact .inl h1
  ·exact .inr (.inl h1)
  ·exact .inr (.inr (.inr (.inl h1)))
  ·exact .inr (.inr (.inr (.inr (.inl h1)))))),by rw[hk b4 (.inr rfl)];exact A.v4,by rw[hk b6 (.inl (.inr (.inr (.inl rfl))))];exact A.v6,A.G6.bZ hn fun b hb=>hk b (.inl (.inr (.inr (.inr (.inr (.inr hb)))))),by have:=A.lt;omega,A.ne,A.ap,A.o6,A.ge⟩
variable{C:bU}{X:Kn}(S:Std C X)(H:PU C)
include S H
theorem ar7{n0:Key}{lk:List (Cf St)}(hl:lk.length≤9000)(Hn:∀y∈lk,y.2.kids.length≤3){x:Cf St}(hx:x.2.kids.length≤3){st:List (Nat×Nat)}(fI:st.length≤1000){br bm b4 b6 b8 r2 r3:Key}{cC cS c6:AV}{oC o6:Option Key}{E:List Bk}{h:T ag}{nx:Key}(A:Exp n0 lk st br bm b4 b6 cC cS c6 oC o6 E h nx)(hn0:n0.toNat≤nx.toNat)(v8:ae b8 h=Qw (eC x))(b8n:b8.toNat<nx.toNat){u2 u3:AV}(w2:ae r2 h=Qw [u2])(w3:ae r3 h=Qw [u3])(wn:r2.toNat<nx.toNat∧r3.toNat<nx.toNat)(wm:¬lP br bm b6 oC o6 E r2∧¬lP br bm b6 oC o6 E r3∧r2≠r3){k:Nat}{Q:cJ}{tm:T AV}(g2:ae (K 2) tm=some (.ptr r2 0))(g3:ae (K 3) tm=some (.ptr r3 0))(g4:ae (K 4) tm=some (.ptr b4 0))(g6:ae (K 6) tm=some (.ptr b6 0))(g7:ae (K 7) tm=some (I (k:Int)))(g8:ae (K 8) tm=some (.ptr b8 0))
  (aor:∀tm' h' nx',1024<(fX lk x).length→ae r2 h'=Qw [.nilp]→ae r3 h'=Qw [I 4]→nx.toNat≤nx'.toNat→(∀b:Key,b.toNat<nx.toNat→¬lP br bm b6 oC o6 E b→b≠r2→b≠r3→ae b h'=ae b h)→Q .ret tm' h' nx')
  (ME:∀tm' h' nx' j cC' c6' NH o6' E',¬1024<(fX lk x).length→(fX lk x)[j]?=some x→Exp n0 (fX lk x) (st ++ [(k,j)]) br bm b4 b6 cC' cS c6' NH o6' E' h' nx'→nx.toNat≤nx'.toNat→(∀b:Key,b.toNat<nx.toNat→¬lP br bm b6 oC o6 E b→ae b h'=ae b h)→(∀b,lP br bm b6 NH o6' E' b→lP br bm b6 oC o6 E b∨nx.toNat≤b.toNat)→Q .norm tm' h' nx') :
  fJ C (.block 3 (.seq (.staged cU ⟨[K 38,K 39,K 40,K 41,K 42,K 43,K 44,K 45],[]⟩) (.seq (.ops cx) (.cond (.t (K 51)) (.seq (.ops dj) .ret) .skip)))) Q tm h nx:=by
 simp only[vm,bR];refine az1 S H hl Hn hx fI A hn0 v8 b8n g4 g6 g7 g8 (fun tm2 h2 aN j cC2 c62 oC2 o62 E2 hj A2 n2 k2 m2 p4 p2 p3=>?_);rw[g2]at p2;rw[g3]at p3;have hR2:=A2.R.C.rd;have w22:ae r2 h2=Qw [u2]:=by rw[k2 r2 wn.1 wm.1];exact w2
 have w32:ae r3 h2=Qw [u3]:=by rw[k2 r3 wn.2 wm.2.1];exact w3
 by_cases hov:1024<(fX lk x).length
 ·have aw5:(1024:Int)<(fX lk x).length:=by omega
  simp[↓hR2.ln,cx,p4,A2.v4,A2.R.mD,aw5];have w33:ae r3 (au r2 (Qw [.nilp]) h2)=Qw [u3]:=by rw[aG _ _ _ _ (Ne.symm wm.2.2)];exact w32
  simp[dj,p2,p3,w22,w33];refine aor _ _ _ hov ?_ (by simp) n2 (fun b hb hm h1 h3=>?_)
  ·rw[aG _ _ _ _ wm.2.2];simp
  ·rw[aG _ _ _ _ h3,aG _ _ _ _ h1];exact k2 b hb hm
 ·have aw5:¬(1024:Int)<(fX lk x).length:=by omega
  simp[↓hR2.ln,cx,p4,A2.v4,A2.R.mD,aw5];exact ME _ _ _ j cC2 c62 oC2 o62 E2 hov hj A2 n2 k2 m2
end Ln
