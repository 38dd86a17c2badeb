/- A part of the proof. No condition. -/
import Derived.Test.YtecbfpngkfdkoaaGreatP33
import Derived.Test.YtecbfpngkfdkoaaGreatP20
import Derived.Test.YtecbfpngkfdkoaaGreatP6
set_option linter.unusedSimpArgs false
set_option linter.unusedVariables false
set_option linter.unusedSectionVars false
namespace Ln
open Go.Sx Go
def QR(c:AV)(len:Nat)(h:T ah)(nx:Key)(oQ:Option Key):Prop:=(c=.nils∧len=0∧oQ=none)∨
 (∃(b:Key) (off:Nat) (q:List Int),oQ=some b∧c=.slice b off len 1∧ae b h=some (.cells (ag eI q) .part)∧q.length=off+len∧b.toNat<nx.toNat)∨
 (∃(t:Key) (q:List Int),oQ=some t∧c=.sl (ag eI q) len 1 (.tok t)∧q.length=len∧ae t h=some .tok∧t.toNat<nx.toNat)
section
variable{c:AV}{len:Nat}{h h':T ah}{nx nx':Key}{oQ:Option Key}
theorem QR.lt(g:QR c len h nx oQ):∀b,oQ=some b→b.toNat<nx.toNat:=by
 intro b hb;rcases g with⟨_,_,e⟩|⟨b',off,q,e,_,_,_,h4⟩|⟨t,q,e,_,_,_,h4⟩
 ·rw[hb]at e;cases e
 ·rw[hb]at e;cases e;exact h4
 ·rw[hb]at e;cases e;exact h4
theorem QR.cF(g:QR c len h nx oQ)(hn:nx.toNat≤nx'.toNat)(hk:∀b,oQ=some b→ae b h'=ae b h):QR c len h' nx' oQ:=by
 rcases g with g|⟨b,off,q,e,h1,h2,h3,h4⟩|⟨t,q,e,h1,h2,h3,h4⟩
 ·exact .inl g
 ·exact .inr (.inl ⟨b,off,q,e,h1,by rw[hk b e];exact h2,h3,by omega⟩)
 ·exact .inr (.inr ⟨t,q,e,h1,h2,by rw[hk t e];exact h3,by omega⟩)
theorem QR.ext(g:QR c len h nx oQ)(e:Ext h nx h' nx'):QR c len h' nx' oQ:=g.cF e.n fun b hb=>e.g b (g.lt b hb)
theorem QR.add(g:QR c len h nx oQ)(hl:len+1≤1048576)(x:Int):∃c' h' nx' o',appendTo 1 c [I x] 1 h nx=.val c' h' nx'∧QR c' (len+1) h' nx' o'∧nR h nx oQ h' nx' o'∧c'.aT=true∧c'.cells=[c']:=by
 have s1:=kTSu nx;have hw:Ie 1=false:=rfl;rcases g with⟨rfl,rfl,rfl⟩|⟨b,off,q,rfl,rfl,h2,h3,h4⟩|⟨t,q,rfl,rfl,h2,h3,h4⟩
 ·exact⟨.slice nx 0 1 1,aw nx (some (.cells (ag eI [x]) .part)) h,nx.succ,some nx,by simp[ag,eI],.inr (.inl ⟨nx,0,[x],rfl,rfl,by simp,rfl,by omega⟩),⟨by omega,fun b hb _=>ax hb,.inr ⟨nx,rfl,fg _⟩⟩,rfl,rfl⟩
 ·have hr:(ag eI q).length=off+len:=by rw[mX,h3]
  have hd:List.drop off (ag eI q)=ag eI (q.drop off):=by have:=FO.drop q off;simpa using this
  refine⟨.sl (ag eI (q.drop off ++ [x])) (len+1) 1 (.tok nx),aw nx (some .tok) (aw b none h),nx.succ,some nx,?_,.inr (.inr ⟨nx,_,rfl,rfl,by simp;omega,by simp,by omega⟩),⟨by omega,fun y hy hk=>?_,.inr ⟨nx,rfl,fg _⟩⟩,rfl,rfl⟩
  ·simp[hl,h2,hr,hd,hw,jg,je,eI]
  ·rw[ax hy,aU];rintro rfl;exact hk rfl
 ·refine⟨.sl (ag eI (q ++ [x])) (len+1) 1 (.tok nx),aw nx (some .tok) (aw t none h),nx.succ,some nx,?_,.inr (.inr ⟨nx,_,rfl,rfl,by simp;omega,by simp,by omega⟩),⟨by omega,fun y hy hk=>?_,.inr ⟨nx,rfl,fg _⟩⟩,rfl,rfl⟩
  ·simp[hl,h3,jg,je,eI]
  ·rw[ax hy,aU];rintro rfl;exact hk rfl
theorem QR.ln(g:QR c len h nx oQ){C:bQ}{Q:dh}{L:List aA}{tm:T AV}{h2:T ah}{n2 k1 d1:Key}(h1:ae k1 tm=some c):lA C Q (⟨some d1,.lenL (.t k1),none⟩ ::L) tm h2 n2=lA C Q L (aw d1 (some (I len)) tm) h2 n2:=by rcases g with⟨rfl,rfl,_⟩|⟨b,off,q,_,rfl,_⟩|⟨t,q,_,rfl,_⟩<;>simp[h1]
theorem QR.head(g:QR c len h nx oQ)(hl:0<len):∃(z:Int) (v:AV),∀{C:bQ} {Q:dh} {L:List aA} {tm:T AV} {n2 k1 d1 d2:Key},ae k1 tm=some c→lA C Q (⟨some d1,.indexL 1 (.t k1) (.v (.int .i64 (.lit 0))),none⟩ ::⟨some d2,.load false 1 (.t d1),none⟩ ::L) tm h n2=lA C Q L (aw d2 (some (I z)) (aw d1 (some v) tm)) h n2:=by
 rcases g with⟨rfl,rfl,_⟩|⟨b,off,q,_,rfl,h2,h3,_⟩|⟨t,q,_,rfl,h2,_⟩
 ·omega
 ·have hr:off<q.length:=by omega
  have hg:=abF hr;refine⟨q[off],.ptr b off,fun h1=>?_⟩;simp[h1,hl,h2,hr,mX]
 ·have hr:0<q.length:=by omega
  have hd:=Jy hr;have LI:(ag eI q).length=q.length:=mX _;refine⟨q[0],.cref [I q[0]],fun h1=>?_⟩;simp at hd;have tl:1≤q.length:=hr;simp[h1,hl,LI,hd,tl]
theorem QR.tail(g:QR c len h nx oQ)(hl:0<len):∃c',QR c' (len-1) h nx oQ∧c'.aT=true∧c'.cells=[c']∧∀{C:bQ} {Q:dh} {L:List aA} {tm:T AV} {h2:T ah} {n2 k1 d1:Key},ae k1 tm=some c→lA C Q (⟨some d1,.sliceL 1 (.t k1) (some (.v (.int .i64 (.lit 1)))) none,none⟩ ::L) tm h2 n2=lA C Q L (aw d1 (some c') tm) h2 n2:=by
 rcases g with⟨rfl,rfl,_⟩|⟨b,off,q,rfl,rfl,h2,h3,h4⟩|⟨t,q,rfl,rfl,h2,h3,h4⟩
 ·omega
 ·refine⟨.slice b (off+1) (len-1) 1,.inr (.inl ⟨b,off+1,q,rfl,rfl,h2,by omega,h4⟩),rfl,rfl,fun h1=>?_⟩;have Pp:1≤len:=hl;simp[h1,Pp]
 ·have hd:List.drop 1 (ag eI q)=ag eI q.tail:=by have:=FO.drop q 1;simpa using this
  have Pp:1≤len:=hl;have hql:q.tail.length=len-1:=by rw[List.length_tail,h2]
  refine⟨.sl (ag eI q.tail) (len-1) 1 (.tok t),.inr (.inr ⟨t,q.tail,rfl,rfl,hql,h3,h4⟩),rfl,rfl,fun h1=>?_⟩;have Y0:(ag eI q.tail).length=len-1:=by rw[mX,hql]
  have ht:List.take (len-1) (ag eI q.tail)=ag eI q.tail:=RL (by omega);have hr0:len≤(ag eI q.tail).length+1:=by omega
  simp[h1,Pp,hd,hr0,ht]
end
structure GS where
 n:Int
 d:Nat→Int
 o:Nat→Bool
 lt:Nat→Bool
 a:Nat→Int
 s:Nat→Nat×Nat
def na{α:Type}(f:Nat→α)(c:Nat)(v:α):Nat→α:=fun i=>if i=c then v else f i
@[simp] theorem az3{α:Type}(f:Nat→α)(c:Nat)(v:α):na f c v c=v:=by simp[na]
@[simp] theorem aEM{α:Type}(f:Nat→α){c i:Nat}(v:α)(h:i≠c):na f c v i=f i:=by simp[na,h]
def gB(m:Nat×Nat)(cL cQ:AV)(g:GS):List AV:=[cL,.str m.1 m.2,I g.n,cQ,I (g.d 0),I (g.d 1),I (g.d 2),I (g.d 3),.bool (g.o 0),.bool (g.o 1),.bool (g.o 2),.bool (g.o 3),.bool (g.lt 0),.bool (g.lt 1),.bool (g.lt 2),.bool (g.lt 3),I (g.a 0),I (g.a 1),I (g.a 2),I (g.a 3),.str (g.s 0).1 (g.s 0).2,.str (g.s 1).1 (g.s 1).2,.str (g.s 2).1 (g.s 2).2,.str (g.s 3).1 (g.s 3).2]
structure yF(bg n0:Key)(m:Nat×Nat)(l:List Ev)(g:GS)(k:Nat)(cL cQ:AV)(oL oQ:Option Key)(h:T ah)(nx:Key):Prop where
 lW:ae bg h=some (.cells (gB m cL cQ g) .fix)
 L:Gr 8 cL (ag eE l) l.length h nx oL
 Q:∃len,len≤k∧QR cQ len h nx oQ
 b0:n0.toNat≤bg.toNat
 bn:bg.toNat<nx.toNat
 lo:∀b,oL=some b→n0.toNat≤b.toNat∧b≠bg∧oQ≠some b
 qo:∀b,oQ=some b→n0.toNat≤b.toNat∧b≠bg
structure Old(n0:Key)(h:T ah)(nx:Key)(h':T ah)(nx':Key):Prop where
 n:nx.toNat≤nx'.toNat
 g:∀b:Key,b.toNat<n0.toNat→ae b h'=ae b h
theorem Old.trans{n0 nx nx' n2:Key}{h h' h2:T ah}(a:Old n0 h nx h' nx')(b:Old n0 h' nx' h2 n2):Old n0 h nx h2 n2:=⟨Nat.le_trans a.n b.n,fun x hx=>(b.g x hx).trans (a.g x hx)⟩
theorem _root_.Go.Sx.Gr.cell{z:Nat}{c:AV}{l:List AV}{len:Nat}{h:T ah}{nx:Key}{ob:Option Key}(g:Gr z c l len h nx ob):c.aT=true∧c.cells=[c]:=by rcases g with⟨rfl,_⟩|⟨b,k,_,rfl,_⟩|⟨t,_,rfl,_⟩<;>exact⟨rfl,rfl⟩
theorem QR.cell{c:AV}{len:Nat}{h:T ah}{nx:Key}{oQ:Option Key}(g:QR c len h nx oQ):c.aT=true∧c.cells=[c]:=by rcases g with⟨rfl,_⟩|⟨b,off,q,_,rfl,_⟩|⟨t,q,_,rfl,_⟩<;>exact⟨rfl,rfl⟩
theorem yF.put{bg n0:Key}{m:Nat×Nat}{l:List Ev}{g g':GS}{k:Nat}{cL cQ:AV}{oL oQ:Option Key}{h:T ah}{nx:Key}(G:yF bg n0 m l g k cL cQ oL oQ h nx):yF bg n0 m l g' k cL cQ oL oQ (aw bg (some (.cells (gB m cL cQ g') .fix)) h) nx∧Old n0 h nx (aw bg (some (.cells (gB m cL cQ g') .fix)) h) nx:=by obtain⟨len,hlen,hQ⟩:=G.Q;refine⟨⟨by simp,G.L.cF (fg _) fun b hb=>aU _ _ _ _ (G.lo b hb).2.1,⟨len,hlen,hQ.cF (fg _) fun b hb=>aU _ _ _ _ (G.qo b hb).2⟩,G.b0,G.bn,G.lo,G.qo⟩,fg _,fun b hb=>aU _ _ _ _ fun e=>?_⟩;have:=G.b0;rw[e]at hb;omega
theorem yF.aC2{bg n0:Key}{m:Nat×Nat}{l:List Ev}{g g':GS}{k k' len:Nat}{cL cQ HP:AV}{oL oQ o':Option Key}{h h':T ah}{nx nx':Key}(G:yF bg n0 m l g k cL cQ oL oQ h nx)(hn:n0.toNat≤nx.toNat)(F:nR h nx oQ h' nx' o')(hQ:QR HP len h' nx' o')(hlen:len≤k'):yF bg n0 m l g' k' cL HP oL o' (aw bg (some (.cells (gB m cL HP g') .fix)) h') nx'∧Old n0 h nx (aw bg (some (.cells (gB m cL HP g') .fix)) h') nx':=by
 have n1:=F.n;have b0:=G.b0;have bn:=G.bn;have ho:∀b,o'=some b→n0.toNat≤b.toNat∧b≠bg:=by
  intro b hb;rcases F.o with e|⟨y,e,hy⟩
  ·exact G.qo b (e ▸ hb)
  ·rw[hb]at e;cases e;exact⟨by omega,fun e=>by rw[e]at hy;omega⟩
 have hoL:∀b,oL=some b→o'≠some b:=fun b hb=>F.ne (G.L.lt b hb) (G.lo b hb).2.2;refine⟨⟨by simp,G.L.cF n1 fun b hb=>?_,⟨len,hlen,hQ.cF (fg _) fun b hb=>aU _ _ _ _ (ho b hb).2⟩,b0,by omega,fun b hb=>⟨(G.lo b hb).1,(G.lo b hb).2.1,hoL b hb⟩,ho⟩,n1,fun b hb=>?_⟩
 ·rw[aU _ _ _ _ (G.lo b hb).2.1];exact F.g b (G.L.lt b hb) (G.lo b hb).2.2
 ·rw[aU _ _ _ _ (fun e=>by rw[e]at hb;omega)];exact F.g b (by omega) (fun e=>by have:=(G.qo b e).1;omega)
variable{C:bQ}{X:Kn}(S:Std C X)
def ApR(bg n0:Key)(m:Nat×Nat)(l:List Ev)(g:GS)(k:Nat)(cL:AV)(oL:Option Key)(h:T ah)(nx:Key)(o:Out)(h':T ah)(nx':Key):Prop:=o=.ret (.tuple [])∧∃g' HP LQ,yF bg n0 m l g' (k+1) cL HP oL LQ h' nx'∧g'.o=g.o∧Old n0 h nx h' nx'
include S
theorem VS{bg n0:Key}{m:Nat×Nat}{l:List Ev}{g:GS}{k:Nat}{cL cQ:AV}{oL oQ:Option Key}{h:T ah}{nx:Key}(G:yF bg n0 m l g k cL cQ oL oQ h nx)(hk:k≤100)(hn:n0.toNat≤nx.toNat){tm:T AV}{x:Int}{nm:Nat×Nat}(q0:ae (K 0) tm=some (.ptr bg 0))(q4:ae (K 4) tm=some (I 0))(q5:ae (K 5) tm=some (I x))(q17:ae (K 17) tm=some (.str nm.1 nm.2)){Q:dh}
  (fin:∀(aJ:T AV) (h2:T ah) (aN:Key) (g':GS) (HP:AV) (LQ:Option Key) (r:Int),ae (K 0) aJ=some (.ptr bg 0)→ae (K 1) aJ=ae (K 1) tm→ae (K 4) aJ=some (I r)→yF bg n0 m l g' (k+1) cL HP oL LQ h2 aN→g'.o=g.o→Old n0 h nx h2 aN→Q .norm aJ h2 aN) :
  lA C (aQ (gn C (.cond (.t (K 18)) (.ops vq) (.seq (.ops oU) (.cond (.t (K 30)) (.seq (.ops oV) (.cond (.t (K 37)) (.seq (.ops vt) (.ops vw)) .skip)) (.seq (.ops oW) (.cond (.t (K 52)) (.seq (.ops tp) (.ops tq)) (.seq (.ops mG) (.cond (.t (K 65)) (.seq (.ops tu) (.ops tv)) (.seq (.ops mH) (.cond (.t (K 80)) (.ops tw) (.seq (.ops mI) (.cond (.t (K 86)) (.ops tz) .skip))))))))))) (aC 0 Q)) (aC 0 Q)) kr tm h nx:=by
 have s1:=kTSu nx;obtain⟨len,hlen,hQ⟩:=G.Q;have hb:=G.lW;have bn:=G.bn;have cc:=hQ.cell;by_cases h1:nm.1=3∧nm.2=7632240
 ·have e1:=E0 h nx (.cells [I x] .fix);obtain⟨c',h2,aN,o',ha,hQ2,F,cc2⟩:=(hQ.ext e1).add (by omega) x;have F2:=(nR.iT e1 oQ).trans F;have Ii:ae bg h2=some (.cells (gB m cL cQ g) .fix):=by rw[F2.g bg bn (fun e=>(G.qo bg e).2 rfl)];exact hb
  obtain⟨G3,O3⟩:=G.aC2 (g':=g) (k':=k+1) hn F2 hQ2 (by omega);simp[gB]at G3 O3;simp[kr,q17,h1];simp[-appendTo,vq,q0,q5,hb,Ii,gB,cc.1,cc.2,cc2.1,cc2.2,ha];refine fin _ _ _ g c' o' 0 ?_ ?_ ?_ G3 rfl O3<;>simp[q0,q4]
 ·by_cases h2:nm.1=3∧nm.2=7628135
  ·simp[kr,q17,h1];simp[oU,q17,h2];by_cases hl:0<len
   ·have hli:(0:Int)<len:=by omega
    obtain⟨z,v,hz⟩:=hQ.head hl;obtain⟨c',hQ2,cc1,cc2,ht⟩:=hQ.tail hl;obtain⟨G3,O3⟩:=G.aC2 (g':=g) (k':=k+1) hn (nR.refl h nx oQ) hQ2 (by omega);simp[gB]at G3 O3;simp[↓hQ.ln,oV,q0,hb,gB,hl];simp[↓hz,vt,q0,hb,gB];simp[↓ht,vw,q0,hb,gB,cc1,cc2];refine fin _ _ _ g c' oQ z ?_ ?_ ?_ G3 rfl O3<;>simp[q0]
   ·have hl0:len=0:=by omega
    simp[↓hQ.ln,oV,q0,hb,gB,hl0];refine fin _ _ _ g cQ oQ 0 ?_ ?_ ?_ ⟨hb,G.L,⟨len,by omega,hQ⟩,G.b0,bn,G.lo,G.qo⟩ rfl ⟨fg _,fun _ _=>rfl⟩<;>simp[q0,q4]
  ·have cF:yF bg n0 m l g (k+1) cL cQ oL oQ h nx:=⟨hb,G.L,⟨len,by omega,hQ⟩,G.b0,bn,G.lo,G.qo⟩;have wr:∀n':Int,yF bg n0 m l {g with n:=n'} (k+1) cL cQ oL oQ (aw bg (some (.cells (gB m cL cQ {g with n:=n'}) .fix)) h) nx∧Old n0 h nx (aw bg (some (.cells (gB m cL cQ {g with n:=n'}) .fix)) h) nx:=fun n'=>cF.put;simp[gB]at wr;simp[kr,q17,h1];simp[oU,q17,h2];by_cases h3:nm.1=3∧nm.2=6516329
   ·simp[oW,q17,h3];simp[tp,q0,hb,gB];simp[tq,q0];obtain⟨G3,O3⟩:=wr (aW .i64 (g.n+1));refine fin _ _ _ _ cQ oQ (aW .i64 (g.n+1)) ?_ ?_ ?_ G3 rfl O3<;>simp[q0]
   ·simp[oW,q17,h3];by_cases h4:nm.1=3∧nm.2=6579297
    ·simp[mG,q17,h4];simp[tu,q0,q5,hb,gB];simp[tv,q0];obtain⟨G3,O3⟩:=wr (aW .i64 (g.n+x));refine fin _ _ _ _ cQ oQ (aW .i64 (g.n+x)) ?_ ?_ ?_ G3 rfl O3<;>simp[q0]
    ·simp[mG,q17,h4];by_cases h5:nm.1=5∧nm.2=435744764535
     ·simp[mH,q17,h5];simp[tw,q0,q5,hb,gB];obtain⟨G3,O3⟩:=wr x;refine fin _ _ _ _ cQ oQ 0 ?_ ?_ ?_ G3 rfl O3<;>simp[q0,q4]
     ·simp[mH,q17,h5];by_cases h6:nm.1=4∧nm.2=1684104562
      ·simp[mI,q17,h6];simp[tz,q0,hb,gB];refine fin _ _ _ g cQ oQ g.n ?_ ?_ ?_ cF rfl ⟨fg _,fun _ _=>rfl⟩<;>simp[q0]
      ·simp[mI,q17,h6];refine fin _ _ _ g cQ oQ 0 ?_ ?_ ?_ cF rfl ⟨fg _,fun _ _=>rfl⟩<;>simp[q0,q4]
theorem CY{bg n0:Key}{m:Nat×Nat}{l:List Ev}{g:GS}{k:Nat}{cL cQ:AV}{oL oQ:Option Key}{h:T ah}{nx:Key}(G:yF bg n0 m l g k cL cQ oL oQ h nx)(hk:k≤100)(hn:n0.toNat≤nx.toNat){c:Nat}(hc:c=0∨c=1∨c=2) :
  aG C gE [.ptr bg 0,I c] h nx (ApR bg n0 m l g k cL oL h nx):=by
 have s1:=kTSu nx;obtain⟨len,hlen,hQ⟩:=G.Q;have hb:=G.lW;have bn:=G.bn;have cc:=hQ.cell;refine S.GQ.call ?_;rcases hc with rfl|rfl|rfl
 ·simp[qf];simp[oY];simp[o9,hb,gB];simp[pg,hb,gB];have fin:∀(aJ:T AV) (h2:T ah) (aN:Key) (g':GS) (HP:AV) (LQ:Option Key) (r:Int),ae (K 0) aJ=some (.ptr bg 0)→ae (K 1) aJ=some (I 0)→ae (K 4) aJ=some (I r)→yF bg n0 m l g' (k+1) cL HP oL LQ h2 aN→g'.o=g.o→Old n0 h nx h2 aN→
    lA C (bZ [] (ApR bg n0 m l g k cL oL h nx)) fG aJ h2 aN:=by
   intro aJ h2 aN g' HP LQ r q0 q1 q4 G2 e2 O2;have Ii:=G2.lW;obtain⟨G3,O3⟩:=G2.put (g':={g' with d:=na g'.d 0 r});simp[gB]at G3 O3;simp[fG,q0,q1,q4,Ii,gB];exact⟨rfl,_,_,_,G3,e2,O2.trans O3⟩
  refine VS S G hk hn (x:=g.a 0) (nm:=g.s 0) ?_ ?_ ?_ ?_ (fun aJ h2 aN g' HP LQ r p0 p1 p4 G2 e2 O2=>fin aJ h2 aN g' HP LQ r p0 (by rw[p1];simp) p4 G2 e2 O2)<;>simp
 ·simp[qf];simp[oY];simp[o9,hb,gB];simp[pg,hb,gB];have fin:∀(aJ:T AV) (h2:T ah) (aN:Key) (g':GS) (HP:AV) (LQ:Option Key) (r:Int),ae (K 0) aJ=some (.ptr bg 0)→ae (K 1) aJ=some (I 1)→ae (K 4) aJ=some (I r)→yF bg n0 m l g' (k+1) cL HP oL LQ h2 aN→g'.o=g.o→Old n0 h nx h2 aN→
    lA C (bZ [] (ApR bg n0 m l g k cL oL h nx)) fG aJ h2 aN:=by
   intro aJ h2 aN g' HP LQ r q0 q1 q4 G2 e2 O2;have Ii:=G2.lW;obtain⟨G3,O3⟩:=G2.put (g':={g' with d:=na g'.d 1 r});simp[gB]at G3 O3;simp[fG,q0,q1,q4,Ii,gB];exact⟨rfl,_,_,_,G3,e2,O2.trans O3⟩
  refine VS S G hk hn (x:=g.a 1) (nm:=g.s 1) ?_ ?_ ?_ ?_ (fun aJ h2 aN g' HP LQ r p0 p1 p4 G2 e2 O2=>fin aJ h2 aN g' HP LQ r p0 (by rw[p1];simp) p4 G2 e2 O2)<;>simp
 ·simp[qf];simp[oY];simp[o9,hb,gB];simp[pg,hb,gB];have fin:∀(aJ:T AV) (h2:T ah) (aN:Key) (g':GS) (HP:AV) (LQ:Option Key) (r:Int),ae (K 0) aJ=some (.ptr bg 0)→ae (K 1) aJ=some (I 2)→ae (K 4) aJ=some (I r)→yF bg n0 m l g' (k+1) cL HP oL LQ h2 aN→g'.o=g.o→Old n0 h nx h2 aN→
    lA C (bZ [] (ApR bg n0 m l g k cL oL h nx)) fG aJ h2 aN:=by
   intro aJ h2 aN g' HP LQ r q0 q1 q4 G2 e2 O2;have Ii:=G2.lW;obtain⟨G3,O3⟩:=G2.put (g':={g' with d:=na g'.d 2 r});simp[gB]at G3 O3;simp[fG,q0,q1,q4,Ii,gB];exact⟨rfl,_,_,_,G3,e2,O2.trans O3⟩
  refine VS S G hk hn (x:=g.a 2) (nm:=g.s 2) ?_ ?_ ?_ ?_ (fun aJ h2 aN g' HP LQ r p0 p1 p4 G2 e2 O2=>fin aJ h2 aN g' HP LQ r p0 (by rw[p1];simp) p4 G2 e2 O2)<;>simp
end Ln
namespace Ln
open Go.Sx Go
theorem _root_.Go.Sx.Gr.lits{z:Nat}{α:Type}{enc:α→List AV}(F:Flat z enc){c:AV}{us:List α}{len:Nat}{h:T ah}{nx:Key}{ob:Option Key}(g:Gr z c (ag enc us) len h nx ob):AV.beq c c=true:=by
 rcases g with⟨rfl,_⟩|⟨b,k,_,rfl,_⟩|⟨t,_,rfl,_⟩
 ·exact beq_refl _ rfl
 ·exact beq_refl _ rfl
 ·exact beq_refl _ (by simp only[AV.lits];exact F.ah1 _)
theorem yF.aeT{bg n0:Key}{m:Nat×Nat}{l l':List Ev}{g g':GS}{k:Nat}{cL cL' cQ:AV}{oL oL' oQ:Option Key}{h h':T ah}{nx nx':Key}(G:yF bg n0 m l g k cL cQ oL oQ h nx)(hn:n0.toNat≤nx.toNat)(F:nR h nx oL h' nx' oL')(hL:Gr 8 cL' (ag eE l') l'.length h' nx' oL'):yF bg n0 m l' g' k cL' cQ oL' oQ (aw bg (some (.cells (gB m cL' cQ g') .fix)) h') nx'∧Old n0 h nx (aw bg (some (.cells (gB m cL' cQ g') .fix)) h') nx':=by
 have n1:=F.n;have b0:=G.b0;have bn:=G.bn;obtain⟨len,hlen,hQ⟩:=G.Q;have ho:∀b,oL'=some b→n0.toNat≤b.toNat∧b≠bg∧oQ≠some b:=by
  intro b hb;rcases F.o with e|⟨y,e,hy⟩
  ·exact G.lo b (e ▸ hb)
  ·rw[hb]at e;cases e;exact⟨by omega,fun e=>by rw[e]at hy;omega,fun e=>by have:=hQ.lt _ e;omega⟩
 have hq:∀b,oQ=some b→oL≠some b:=fun b hb e=>(G.lo b e).2.2 hb;refine⟨⟨by simp,hL.cF (fg _) fun b hb=>aU _ _ _ _ (ho b hb).2.1,⟨len,hlen,hQ.cF n1 fun b hb=>?_⟩,b0,by omega,ho,G.qo⟩,n1,fun b hb=>?_⟩
 ·rw[aU _ _ _ _ (G.qo b hb).2];exact F.g b (hQ.lt b hb) (hq b hb)
 ·rw[aU _ _ _ _ (fun e=>by rw[e]at hb;omega)];exact F.g b (by omega) (fun e=>by have:=(G.lo b e).1;omega)
theorem yF.up{bg n0:Key}{m:Nat×Nat}{l:List Ev}{g:GS}{k:Nat}{cL cQ:AV}{oL oQ:Option Key}{h h':T ah}{nx nx':Key}(G:yF bg n0 m l g k cL cQ oL oQ h nx)(e:Ext h nx h' nx'):yF bg n0 m l g k cL cQ oL oQ h' nx':=by obtain⟨len,hlen,hQ⟩:=G.Q;exact⟨by rw[e.g bg G.bn];exact G.lW,G.L.ext e,⟨len,hlen,hQ.ext e⟩,G.b0,OX G.bn e.n,G.lo,G.qo⟩
theorem yF.more{bg n0:Key}{m:Nat×Nat}{l:List Ev}{g:GS}{k:Nat}{cL cQ:AV}{oL oQ:Option Key}{h:T ah}{nx:Key}(G:yF bg n0 m l g k cL cQ oL oQ h nx):yF bg n0 m l g (k+1) cL cQ oL oQ h nx:=by obtain⟨len,hlen,hQ⟩:=G.Q;exact⟨G.lW,G.L,⟨len,by omega,hQ⟩,G.b0,G.bn,G.lo,G.qo⟩
theorem Old.iT{n0 nx nx':Key}{h h':T ah}(e:Ext h nx h' nx')(hn:n0.toNat≤nx.toNat):Old n0 h nx h' nx':=⟨e.n,fun b hb=>e.g b (by omega)⟩
theorem Old.refl(n0:Key)(h:T ah)(nx:Key):Old n0 h nx h nx:=⟨fg _,fun _ _=>rfl⟩
inductive abp(mi:Nat)(g:GS)(x:Ev)(g':GS):Prop
 |lost (h:x=⟨2,0,(0,0),[],⟨0,0⟩⟩) (ho:g'.o=fun _=>false)
 |ends (c:Nat) (r:Int) (hc:c<3) (ho:g.o c=true) (h:x=⟨1,c,(0,0),[],⟨0,r⟩⟩) (RJ:g'.o=na g.o c false)
 |begins (c:Nat) (cmd:jy) (aZZ:List U) (hc:c<3) (ho:g.o c=false) (hm:cmd∈aK mi) (ha:aZZ.length=cmd.ar) (hk:∀u∈aZZ,u.k=0) (h:x=⟨0,c,cmd.name,aZZ,⟨0,0⟩⟩) (RJ:g'.o=na g.o c true)
def StR(bg n0:Key)(mi:Nat)(l:List Ev)(g:GS)(k:Nat)(h:T ah)(nx:Key)(o:Out)(h':T ah)(nx':Key):Prop:=o=.ret (.tuple [])∧∃x g' cL' HP oL' LQ,yF bg n0 (lD mi) (l ++ [x]) g' (k+1) cL' HP oL' LQ h' nx'∧Old n0 h nx h' nx'∧abp mi g x g'
variable{C:bQ}{X:Kn}(S:Std C X)
include S
theorem ajV{bg n0:Key}{mi:Nat}{l:List Ev}{g:GS}{k:Nat}{cL cQ:AV}{oL oQ:Option Key}{h:T ah}{nx:Key}(G:yF bg n0 (lD mi) l g k cL cQ oL oQ h nx)(hl:l.length≤100)(hn:n0.toNat≤nx.toNat){tm:T AV}(q0:ae (K 0) tm=some (.ptr bg 0)){Q:dh}(hQ':∀ay h' nx',bZ [] (StR bg n0 mi l g k h nx) .ret ay h' nx'→Q .ret ay h' nx') :
  gn C (.seq (.ops wO) (.seq (.ops wP) .ret)) Q tm h nx:=by
 have s1:=kTSu nx;have hb:=G.lW;have bn:=G.bn;have cq:=(show ∃len,QR cQ len h nx oQ from G.Q.elim fun len p=>⟨len,p.2⟩);obtain⟨len,hQ⟩:=cq;have cc:=hQ.cell;have cl:=G.L.cell;have e1:=E0 h nx (.cells (eE ⟨2,0,(0,0),[],⟨0,0⟩⟩) .fix);have ee:eE ⟨2,0,(0,0),[],⟨0,0⟩⟩=[I 2,I 0,.str 0 0,.nils,I 0,I 0,.str 0 0,.nils]:=rfl;obtain⟨c',h2,aN,o',ha,hL2,F⟩:=(G.L.ext e1).As cn (by decide) (by decide) (by omega) ⟨2,0,(0,0),[],⟨0,0⟩⟩;have F2:=(nR.iT e1 oL).trans F;have X5:=hL2.cell;have Ii:ae bg h2=some (.cells (gB (lD mi) cL cQ g) .fix):=by rw[F2.g bg bn (fun e=>(G.lo bg e).2.1 rfl)];exact hb
 obtain⟨G3,O3⟩:=G.aeT (g':={g with o:=fun _=>false}) hn F2 hL2;rw[ee]at ha;simp[gB]at G3 O3;simp;simp[-appendTo,wO,q0,hb,Ii,gB,cl.1,cl.2,X5.1,X5.2,ha];simp[wP,q0,gB];refine hQ' _ _ _ ?_;simp;exact⟨rfl,_,_,_,_,_,_,G3.more,O3,.lost rfl rfl⟩
theorem ajW{bg n0:Key}{mi:Nat}{l:List Ev}{g:GS}{k:Nat}{cL cQ:AV}{oL oQ:Option Key}{h:T ah}{nx:Key}(G:yF bg n0 (lD mi) l g k cL cQ oL oQ h nx)(hl:l.length≤100)(hk:k≤100)(hn:n0.toNat≤nx.toNat){tm:T AV}{kk c:Nat}(yG:kk<1000000)(hc:c=0∨c=1∨c=2)(ho:g.o c=true)(q0:ae (K 0) tm=some (.ptr bg 0))(q1:ae (K 1) tm=some (I kk))(q4:ae (K 4) tm=some (I c)){Q:dh}
  (hQ:∀ay h' nx',bZ [] (StR bg n0 mi l g k h nx) .ret ay h' nx'→Q .ret ay h' nx') :
  gn C (.seq (.seq (.ops ej) (.cond (.t (K 40)) (.ops jh) .skip)) (.seq (.ops ep) (.seq (.seq (.ops cV) (.cond (.t (K 53)) (.ops ew) .skip)) (.seq (.staged cu ⟨[K 56,K 57,K 58,K 59,K 60,K 61,K 62,K 63,K 64,K 65,K 66,K 67,K 68],[]⟩) (.seq (.ops cv) .ret))))) Q tm h nx:=by
 have rA:C.raw gE=false:=S.nr (by decide);have rN:C.raw iD=false:=S.nr (by decide);have hb:=G.lW;have bn:=G.bn;have abq:Int.tdiv (kk:Int) 51=((kk / 51:Nat):Int):=rfl;have abr:aW .i64 ((kk / 51:Nat):Int)=((kk / 51:Nat):Int):=aB (by omega) (by omega);have hm9:Int.tmod ((kk / 51:Nat):Int) 9=((kk / 51%9:Nat):Int):=rfl;have hw9:aW .i64 ((kk / 51%9:Nat):Int)=((kk / 51%9:Nat):Int):=aB (by omega) (by omega);generalize kk / 51%9=e9 at *;generalize kk / 51=e51 at *;rcases hc with rfl|rfl|rfl
 ·have last:∀(aJ:T AV) (h2:T ah) (aN:Key) (g2:GS) (Qk:AV) (TK:Option Key) (r:Int),ae (K 0) aJ=some (.ptr bg 0)→ae (K 4) aJ=some (I 0)→ae (K 5) aJ=some (I r)→yF bg n0 (lD mi) l g2 (k+1) cL Qk oL TK h2 aN→g2.o=g.o→Old n0 h nx h2 aN→
    gn C (.seq (.staged cu ⟨[K 56,K 57,K 58,K 59,K 60,K 61,K 62,K 63,K 64,K 65,K 66,K 67,K 68],[]⟩) (.seq (.ops cv) .ret)) Q aJ h2 aN:=by
   intro aJ h2 aN g2 Qk TK r p0 p4 p5 G2 e2 O2;have Ii:=G2.lW;have bn2:=G2.bn;have n2:=O2.n;obtain⟨len,_,hQ2⟩:=G2.Q;have cc:=hQ2.cell;have cl:=G2.L.cell;have lb:=G2.L.lits cn;simp;simp[-appendTo,cu,p0,p4,p5,Ii,gB,rN];refine(yH S r).mono ?_;rintro o h3 bY ⟨rfl,e3⟩;have n3:=e3.n;have s3:=kTSu bY;have G3:=G2.up e3;have hb3:=G3.lW;have e4:=E0 h3 bY (.cells (eE ⟨1,0,(0,0),[],⟨0,r⟩⟩) .fix);have ee:eE ⟨1,0,(0,0),[],⟨0,r⟩⟩=[I 1,I 0,.str 0 0,.nils,I 0,I r,.str 0 0,.nils]:=rfl;obtain⟨c',h5,r9,o',ha,hL5,F⟩:=(G3.L.ext e4).As cn (by decide) (by decide) (by omega) ⟨1,0,(0,0),[],⟨0,r⟩⟩;have F2:=(nR.iT e4 oL).trans F;have X5:=hL5.cell;have hb5:ae bg h5=some (.cells (gB (lD mi) cL Qk g2) .fix):=by rw[F2.g bg (by omega) (fun e=>(G3.lo bg e).2.1 rfl)];exact hb3
   obtain⟨G6,O6⟩:=G3.aeT (g':={g2 with o:=na g2.o 0 false}) (by omega) F2 hL5;rw[ee]at ha;simp[gB]at G6 O6;simp[-appendTo,hb3,hb5,gB,eU,cl.1,cl.2,X5.1,X5.2,lb,ha];simp[cv,p0,p4,gB];refine hQ _ _ _ ?_;simp;exact⟨rfl,_,_,_,_,_,_,G6,(O2.trans (Old.iT e3 (by omega))).trans O6,.ends 0 r (by omega) ho rfl (by rw[←e2])⟩
  simp only[bM,bO,cz]at last;have mid:∀(aJ:T AV) (h2:T ah) (aN:Key) (g2:GS) (Qk:AV) (TK:Option Key),ae (K 0) aJ=some (.ptr bg 0)→ae (K 1) aJ=some (I kk)→ae (K 4) aJ=some (I 0)→yF bg n0 (lD mi) l g2 (k+1) cL Qk oL TK h2 aN→g2.o=g.o→Old n0 h nx h2 aN→
    gn C (.seq (.ops ep) (.seq (.seq (.ops cV) (.cond (.t (K 53)) (.ops ew) .skip)) (.seq (.staged cu ⟨[K 56,K 57,K 58,K 59,K 60,K 61,K 62,K 63,K 64,K 65,K 66,K 67,K 68],[]⟩) (.seq (.ops cv) .ret)))) Q aJ h2 aN:=by
   intro aJ h2 aN g2 Qk TK p0 p1 p4 G2 e2 O2;have Ii:=G2.lW;simp;simp[ep,p0,p4,Ii,gB];by_cases h8:e9=8
   ·have h8i:((e9:Int)==8)=true:=bt (by omega);simp[cV,p1,abq,abr,hm9,hw9,h8i];simp[ew];refine last _ _ _ g2 Qk TK (aW .i64 (g2.d 0+1)) ?_ ?_ ?_ G2 e2 O2<;>simp[p0,p4]
   ·have h8i:((e9:Int)==8)=false:=bq (by omega);simp[cV,p1,abq,abr,hm9,hw9,h8i];refine last _ _ _ g2 Qk TK (g2.d 0) ?_ ?_ ?_ G2 e2 O2<;>simp[p0,p4]
  simp only[bM,bO,cz,gL]at mid;simp;cases cD:g.lt 0 with
  |true=>simp[ej,q0,q4,hb,gB,cD];simp[jh,q0,q4,rA];refine(CY S G hk hn (c:=0) (by simp)).mono ?_;rintro o h2 aN ⟨rfl,g',HP,LQ,G2,e2,O2⟩;simp;refine mid _ _ _ g' HP LQ ?_ ?_ ?_ G2 e2 O2<;>simp[q0,q1,q4]
  |false=>simp[ej,q0,q4,hb,gB,cD];refine mid _ _ _ g cQ oQ ?_ ?_ ?_ G.more rfl (Old.refl _ _ _)<;>simp[q0,q1,q4]
 ·have last:∀(aJ:T AV) (h2:T ah) (aN:Key) (g2:GS) (Qk:AV) (TK:Option Key) (r:Int),ae (K 0) aJ=some (.ptr bg 0)→ae (K 4) aJ=some (I 1)→ae (K 5) aJ=some (I r)→yF bg n0 (lD mi) l g2 (k+1) cL Qk oL TK h2 aN→g2.o=g.o→Old n0 h nx h2 aN→
    gn C (.seq (.staged cu ⟨[K 56,K 57,K 58,K 59,K 60,K 61,K 62,K 63,K 64,K 65,K 66,K 67,K 68],[]⟩) (.seq (.ops cv) .ret)) Q aJ h2 aN:=by
   intro aJ h2 aN g2 Qk TK r p0 p4 p5 G2 e2 O2;have Ii:=G2.lW;have bn2:=G2.bn;have n2:=O2.n;obtain⟨len,_,hQ2⟩:=G2.Q;have cc:=hQ2.cell;have cl:=G2.L.cell;have lb:=G2.L.lits cn;simp;simp[-appendTo,cu,p0,p4,p5,Ii,gB,rN];refine(yH S r).mono ?_;rintro o h3 bY ⟨rfl,e3⟩;have n3:=e3.n;have s3:=kTSu bY;have G3:=G2.up e3;have hb3:=G3.lW;have e4:=E0 h3 bY (.cells (eE ⟨1,1,(0,0),[],⟨0,r⟩⟩) .fix);have ee:eE ⟨1,1,(0,0),[],⟨0,r⟩⟩=[I 1,I 1,.str 0 0,.nils,I 0,I r,.str 0 0,.nils]:=rfl;obtain⟨c',h5,r9,o',ha,hL5,F⟩:=(G3.L.ext e4).As cn (by decide) (by decide) (by omega) ⟨1,1,(0,0),[],⟨0,r⟩⟩;have F2:=(nR.iT e4 oL).trans F;have X5:=hL5.cell;have hb5:ae bg h5=some (.cells (gB (lD mi) cL Qk g2) .fix):=by rw[F2.g bg (by omega) (fun e=>(G3.lo bg e).2.1 rfl)];exact hb3
   obtain⟨G6,O6⟩:=G3.aeT (g':={g2 with o:=na g2.o 1 false}) (by omega) F2 hL5;rw[ee]at ha;simp[gB]at G6 O6;simp[-appendTo,hb3,hb5,gB,eU,cl.1,cl.2,X5.1,X5.2,lb,ha];simp[cv,p0,p4,gB];refine hQ _ _ _ ?_;simp;exact⟨rfl,_,_,_,_,_,_,G6,(O2.trans (Old.iT e3 (by omega))).trans O6,.ends 1 r (by omega) ho rfl (by rw[←e2])⟩
  simp only[bM,bO,cz]at last;have mid:∀(aJ:T AV) (h2:T ah) (aN:Key) (g2:GS) (Qk:AV) (TK:Option Key),ae (K 0) aJ=some (.ptr bg 0)→ae (K 1) aJ=some (I kk)→ae (K 4) aJ=some (I 1)→yF bg n0 (lD mi) l g2 (k+1) cL Qk oL TK h2 aN→g2.o=g.o→Old n0 h nx h2 aN→
    gn C (.seq (.ops ep) (.seq (.seq (.ops cV) (.cond (.t (K 53)) (.ops ew) .skip)) (.seq (.staged cu ⟨[K 56,K 57,K 58,K 59,K 60,K 61,K 62,K 63,K 64,K 65,K 66,K 67,K 68],[]⟩) (.seq (.ops cv) .ret)))) Q aJ h2 aN:=by
   intro aJ h2 aN g2 Qk TK p0 p1 p4 G2 e2 O2;have Ii:=G2.lW;simp;simp[ep,p0,p4,Ii,gB];by_cases h8:e9=8
   ·have h8i:((e9:Int)==8)=true:=bt (by omega);simp[cV,p1,abq,abr,hm9,hw9,h8i];simp[ew];refine last _ _ _ g2 Qk TK (aW .i64 (g2.d 1+1)) ?_ ?_ ?_ G2 e2 O2<;>simp[p0,p4]
   ·have h8i:((e9:Int)==8)=false:=bq (by omega);simp[cV,p1,abq,abr,hm9,hw9,h8i];refine last _ _ _ g2 Qk TK (g2.d 1) ?_ ?_ ?_ G2 e2 O2<;>simp[p0,p4]
  simp only[bM,bO,cz,gL]at mid;simp;cases cD:g.lt 1 with
  |true=>simp[ej,q0,q4,hb,gB,cD];simp[jh,q0,q4,rA];refine(CY S G hk hn (c:=1) (by simp)).mono ?_;rintro o h2 aN ⟨rfl,g',HP,LQ,G2,e2,O2⟩;simp;refine mid _ _ _ g' HP LQ ?_ ?_ ?_ G2 e2 O2<;>simp[q0,q1,q4]
  |false=>simp[ej,q0,q4,hb,gB,cD];refine mid _ _ _ g cQ oQ ?_ ?_ ?_ G.more rfl (Old.refl _ _ _)<;>simp[q0,q1,q4]
 ·have last:∀(aJ:T AV) (h2:T ah) (aN:Key) (g2:GS) (Qk:AV) (TK:Option Key) (r:Int),ae (K 0) aJ=some (.ptr bg 0)→ae (K 4) aJ=some (I 2)→ae (K 5) aJ=some (I r)→yF bg n0 (lD mi) l g2 (k+1) cL Qk oL TK h2 aN→g2.o=g.o→Old n0 h nx h2 aN→
    gn C (.seq (.staged cu ⟨[K 56,K 57,K 58,K 59,K 60,K 61,K 62,K 63,K 64,K 65,K 66,K 67,K 68],[]⟩) (.seq (.ops cv) .ret)) Q aJ h2 aN:=by
   intro aJ h2 aN g2 Qk TK r p0 p4 p5 G2 e2 O2;have Ii:=G2.lW;have bn2:=G2.bn;have n2:=O2.n;obtain⟨len,_,hQ2⟩:=G2.Q;have cc:=hQ2.cell;have cl:=G2.L.cell;have lb:=G2.L.lits cn;simp;simp[-appendTo,cu,p0,p4,p5,Ii,gB,rN];refine(yH S r).mono ?_;rintro o h3 bY ⟨rfl,e3⟩;have n3:=e3.n;have s3:=kTSu bY;have G3:=G2.up e3;have hb3:=G3.lW;have e4:=E0 h3 bY (.cells (eE ⟨1,2,(0,0),[],⟨0,r⟩⟩) .fix);have ee:eE ⟨1,2,(0,0),[],⟨0,r⟩⟩=[I 1,I 2,.str 0 0,.nils,I 0,I r,.str 0 0,.nils]:=rfl;obtain⟨c',h5,r9,o',ha,hL5,F⟩:=(G3.L.ext e4).As cn (by decide) (by decide) (by omega) ⟨1,2,(0,0),[],⟨0,r⟩⟩;have F2:=(nR.iT e4 oL).trans F;have X5:=hL5.cell;have hb5:ae bg h5=some (.cells (gB (lD mi) cL Qk g2) .fix):=by rw[F2.g bg (by omega) (fun e=>(G3.lo bg e).2.1 rfl)];exact hb3
   obtain⟨G6,O6⟩:=G3.aeT (g':={g2 with o:=na g2.o 2 false}) (by omega) F2 hL5;rw[ee]at ha;simp[gB]at G6 O6;simp[-appendTo,hb3,hb5,gB,eU,cl.1,cl.2,X5.1,X5.2,lb,ha];simp[cv,p0,p4,gB];refine hQ _ _ _ ?_;simp;exact⟨rfl,_,_,_,_,_,_,G6,(O2.trans (Old.iT e3 (by omega))).trans O6,.ends 2 r (by omega) ho rfl (by rw[←e2])⟩
  simp only[bM,bO,cz]at last;have mid:∀(aJ:T AV) (h2:T ah) (aN:Key) (g2:GS) (Qk:AV) (TK:Option Key),ae (K 0) aJ=some (.ptr bg 0)→ae (K 1) aJ=some (I kk)→ae (K 4) aJ=some (I 2)→yF bg n0 (lD mi) l g2 (k+1) cL Qk oL TK h2 aN→g2.o=g.o→Old n0 h nx h2 aN→
    gn C (.seq (.ops ep) (.seq (.seq (.ops cV) (.cond (.t (K 53)) (.ops ew) .skip)) (.seq (.staged cu ⟨[K 56,K 57,K 58,K 59,K 60,K 61,K 62,K 63,K 64,K 65,K 66,K 67,K 68],[]⟩) (.seq (.ops cv) .ret)))) Q aJ h2 aN:=by
   intro aJ h2 aN g2 Qk TK p0 p1 p4 G2 e2 O2;have Ii:=G2.lW;simp;simp[ep,p0,p4,Ii,gB];by_cases h8:e9=8
   ·have h8i:((e9:Int)==8)=true:=bt (by omega);simp[cV,p1,abq,abr,hm9,hw9,h8i];simp[ew];refine last _ _ _ g2 Qk TK (aW .i64 (g2.d 2+1)) ?_ ?_ ?_ G2 e2 O2<;>simp[p0,p4]
   ·have h8i:((e9:Int)==8)=false:=bq (by omega);simp[cV,p1,abq,abr,hm9,hw9,h8i];refine last _ _ _ g2 Qk TK (g2.d 2) ?_ ?_ ?_ G2 e2 O2<;>simp[p0,p4]
  simp only[bM,bO,cz,gL]at mid;simp;cases cD:g.lt 2 with
  |true=>simp[ej,q0,q4,hb,gB,cD];simp[jh,q0,q4,rA];refine(CY S G hk hn (c:=2) (by simp)).mono ?_;rintro o h2 aN ⟨rfl,g',HP,LQ,G2,e2,O2⟩;simp;refine mid _ _ _ g' HP LQ ?_ ?_ ?_ G2 e2 O2<;>simp[q0,q1,q4]
  |false=>simp[ej,q0,q4,hb,gB,cD];refine mid _ _ _ g cQ oQ ?_ ?_ ?_ G.more rfl (Old.refl _ _ _)<;>simp[q0,q1,q4]
end Ln
namespace Ln
open Go.Sx Go
def aqq(cA:AV)(aZZ:List U)(h:T ah)(n0 nx b8:Key):Prop:=(cA=.nils∧aZZ=[])∨∃(ba:Key) (u:U),cA=.slice ba 0 1 4∧aZZ=[u]∧ae ba h=some (.cells (eU u) .fix)∧n0.toNat≤ba.toNat∧ba.toNat<nx.toNat∧ba≠b8
theorem aqq.acg{cA:AV}{aZZ:List U}{h:T ah}{n0 nx b8:Key}(a:aqq cA aZZ h n0 nx b8)(B:ah):∃H1,aM 9999 cA (aw nx (some B) h)=(aL aZZ,H1)∧∀b:Key,b.toNat<n0.toNat→n0.toNat≤nx.toNat→ae b H1=ae b h:=by
 rcases a with⟨rfl,rfl⟩|⟨ba,u,rfl,rfl,h1,h2,h3,_⟩
 ·exact⟨_,rfl,fun b hb hn=>ax (by omega)⟩
 ·have hg:ae ba (aw nx (some B) h)=some (.cells (eU u) .fix):=by rw[ax h3];exact h1
  refine⟨_,AP (n:=9998) hg rfl (qY.r7 u),fun b hb hn=>?_⟩;rw[ax (by omega),ax (by omega)]
theorem aqq.cell{cA:AV}{aZZ:List U}{h:T ah}{n0 nx b8:Key}(a:aqq cA aZZ h n0 nx b8):cA.aT=true∧cA.cells=[cA]:=by rcases a with⟨rfl,rfl⟩|⟨ba,u,rfl,_⟩<;>exact⟨rfl,rfl⟩
def Sb(c:Nat)(cmd:jy)(cA:AV):List AV:=[I 0,I c,.str cmd.name.1 cmd.name.2,cA,I 0,I 0,.str 0 0,.nils]
variable{C:bQ}{X:Kn}(S:Std C X)
include S
theorem Yt{bg n0:Key}{mi:Nat}{l:List Ev}{g g0:GS}{hB:T ah}{nxB:Key}{k:Nat}{cL cQ:AV}{oL oQ:Option Key}{h:T ah}{nx nx0 b8:Key}(G:yF bg n0 (lD mi) l g k cL cQ oL oQ h nx0)(hg:g.o=g0.o)(O:Old n0 hB nxB h nx)(hx:nx0.toNat≤nx.toNat)(hl:l.length≤100)(hk:k≤100)(hn:n0.toNat≤nx0.toNat){tm:T AV}{c n6:Nat}{cmd:jy}{cA:AV}{aZZ:List U}(hA:aqq cA aZZ h nx0 nx b8)(h8:ae b8 h=some (.cells (Sb c cmd cA) .fix))(h80:nx0.toNat≤b8.toNat)(h8n:b8.toNat<nx.toNat)
  (hm:cmd∈aK mi) (has:aZZ.length=cmd.ar) (hk0:∀u∈aZZ,u.k=0) (hc:c=0∨c=1∨c=2) (ho:g.o c=false) (q0:ae (K 0) tm=some (.ptr bg 0)) (q4:ae (K 4) tm=some (I c)) (q6:ae (K 6) tm=some (I n6)) (q8:ae (K 8) tm=some (.ptr b8 0)) :
  gn C (.seq (.staged bC ⟨[K 134,K 135,K 136,K 137,K 138,K 139,K 140,K 141,K 142,K 143],[]⟩) (.seq (.ops bD) (.seq (.ops bE) (.seq (.ops aZ) (.cond (.t (K 162)) (.ops bF) .skip))))) (bZ [] (StR bg n0 mi l g0 k hB nxB)) tm h nx:=by
 have rA:C.raw gE=false:=S.nr (by decide);have s1:=kTSu nx;have hb:=G.lW;have bn:=G.bn;obtain⟨len,_,hQ⟩:=G.Q;have cc:=hQ.cell;have cl:=G.L.cell;have cA1:=hA.cell;have ca:=bH aZZ;obtain⟨H1,Mz,hH⟩:=hA.acg (.cells (Sb c cmd cA) .fix);have e:Ext h nx0 H1 nx.succ:=⟨by omega,fun b hb=>hH b hb hx⟩;have G1:=G.up e;have hb8:ae b8 h=some (.cells [I 0,I c,.str cmd.name.1 cmd.name.2,cA,I 0,I 0,.str 0 0,.nils] .fix):=h8;have ho0:g0.o c=false:=hg ▸ ho;rcases hc with rfl|rfl|rfl
 ·simp[Sb]at Mz;simp;simp[-appendTo,bC,q0,q4,q8,hb,hb8,gB,Mz,cl.1,cl.2,cA1.1,cA1.2,ca.1,ca.2];have O1:Old n0 h nx H1 nx.succ:=⟨by omega,fun b hb=>e.g b (by omega)⟩;obtain⟨c',h5,r9,o',ha,hL5,F⟩:=G1.L.As cn (by decide) (by decide) (by omega) ⟨0,0,cmd.name,aZZ,⟨0,0⟩⟩;have ee:eE ⟨0,0,cmd.name,aZZ,⟨0,0⟩⟩=[I 0,I 0,.str cmd.name.1 cmd.name.2,aL aZZ,I 0,I 0,.str 0 0,.nils]:=rfl;have X5:=hL5.cell;have hb5:ae bg h5=some (.cells (gB (lD mi) cL cQ g) .fix):=by rw[F.g bg G1.bn (fun e=>(G1.lo bg e).2.1 rfl)];exact G1.lW
  obtain⟨G6,O6⟩:=G1.aeT (g':={g with o:=na g.o 0 true,lt:=na g.lt 0 (!decide ((n6:Int)<3))}) (by omega) F hL5;have n5:=O6.n;rw[ee]at ha;simp[gB]at G6 O6;simp[-appendTo,hb5,gB,X5.1,X5.2,ha];simp[bD,q0,q4,gB];simp[bE,q0,q4,q6,gB];have hb6:=G6.lW;by_cases h3:(n6:Int)<3
  rotate_left
  ·simp[h3]at G6 O6;simp[aZ,q0,q4,h3,gB];exact⟨rfl,_,_,_,_,_,_,G6.more,(O.trans O1).trans O6,.begins 0 cmd aZZ (by omega) ho0 hm has hk0 rfl (by rw[←hg])⟩
  ·simp[h3]at G6 O6;simp[aZ,q0,q4,h3,gB];simp[bF,q0,q4,rA];refine(CY S G6 hk (by omega) (c:=0) (by simp)).mono ?_;rintro o h7 nx7 ⟨rfl,g',HP,LQ,G7,e7,O7⟩;simp;exact⟨rfl,_,_,_,_,_,_,G7,((O.trans O1).trans O6).trans O7,.begins 0 cmd aZZ (by omega) ho0 hm has hk0 rfl (by rw[←hg];exact e7)⟩
 ·simp[Sb]at Mz;simp;simp[-appendTo,bC,q0,q4,q8,hb,hb8,gB,Mz,cl.1,cl.2,cA1.1,cA1.2,ca.1,ca.2];have O1:Old n0 h nx H1 nx.succ:=⟨by omega,fun b hb=>e.g b (by omega)⟩;obtain⟨c',h5,r9,o',ha,hL5,F⟩:=G1.L.As cn (by decide) (by decide) (by omega) ⟨0,1,cmd.name,aZZ,⟨0,0⟩⟩;have ee:eE ⟨0,1,cmd.name,aZZ,⟨0,0⟩⟩=[I 0,I 1,.str cmd.name.1 cmd.name.2,aL aZZ,I 0,I 0,.str 0 0,.nils]:=rfl;have X5:=hL5.cell;have hb5:ae bg h5=some (.cells (gB (lD mi) cL cQ g) .fix):=by rw[F.g bg G1.bn (fun e=>(G1.lo bg e).2.1 rfl)];exact G1.lW
  obtain⟨G6,O6⟩:=G1.aeT (g':={g with o:=na g.o 1 true,lt:=na g.lt 1 (!decide ((n6:Int)<3))}) (by omega) F hL5;have n5:=O6.n;rw[ee]at ha;simp[gB]at G6 O6;simp[-appendTo,hb5,gB,X5.1,X5.2,ha];simp[bD,q0,q4,gB];simp[bE,q0,q4,q6,gB];have hb6:=G6.lW;by_cases h3:(n6:Int)<3
  rotate_left
  ·simp[h3]at G6 O6;simp[aZ,q0,q4,h3,gB];exact⟨rfl,_,_,_,_,_,_,G6.more,(O.trans O1).trans O6,.begins 1 cmd aZZ (by omega) ho0 hm has hk0 rfl (by rw[←hg])⟩
  ·simp[h3]at G6 O6;simp[aZ,q0,q4,h3,gB];simp[bF,q0,q4,rA];refine(CY S G6 hk (by omega) (c:=1) (by simp)).mono ?_;rintro o h7 nx7 ⟨rfl,g',HP,LQ,G7,e7,O7⟩;simp;exact⟨rfl,_,_,_,_,_,_,G7,((O.trans O1).trans O6).trans O7,.begins 1 cmd aZZ (by omega) ho0 hm has hk0 rfl (by rw[←hg];exact e7)⟩
 ·simp[Sb]at Mz;simp;simp[-appendTo,bC,q0,q4,q8,hb,hb8,gB,Mz,cl.1,cl.2,cA1.1,cA1.2,ca.1,ca.2];have O1:Old n0 h nx H1 nx.succ:=⟨by omega,fun b hb=>e.g b (by omega)⟩;obtain⟨c',h5,r9,o',ha,hL5,F⟩:=G1.L.As cn (by decide) (by decide) (by omega) ⟨0,2,cmd.name,aZZ,⟨0,0⟩⟩;have ee:eE ⟨0,2,cmd.name,aZZ,⟨0,0⟩⟩=[I 0,I 2,.str cmd.name.1 cmd.name.2,aL aZZ,I 0,I 0,.str 0 0,.nils]:=rfl;have X5:=hL5.cell;have hb5:ae bg h5=some (.cells (gB (lD mi) cL cQ g) .fix):=by rw[F.g bg G1.bn (fun e=>(G1.lo bg e).2.1 rfl)];exact G1.lW
  obtain⟨G6,O6⟩:=G1.aeT (g':={g with o:=na g.o 2 true,lt:=na g.lt 2 (!decide ((n6:Int)<3))}) (by omega) F hL5;have n5:=O6.n;rw[ee]at ha;simp[gB]at G6 O6;simp[-appendTo,hb5,gB,X5.1,X5.2,ha];simp[bD,q0,q4,gB];simp[bE,q0,q4,q6,gB];have hb6:=G6.lW;by_cases h3:(n6:Int)<3
  rotate_left
  ·simp[h3]at G6 O6;simp[aZ,q0,q4,h3,gB];exact⟨rfl,_,_,_,_,_,_,G6.more,(O.trans O1).trans O6,.begins 2 cmd aZZ (by omega) ho0 hm has hk0 rfl (by rw[←hg])⟩
  ·simp[h3]at G6 O6;simp[aZ,q0,q4,h3,gB];simp[bF,q0,q4,rA];refine(CY S G6 hk (by omega) (c:=2) (by simp)).mono ?_;rintro o h7 nx7 ⟨rfl,g',HP,LQ,G7,e7,O7⟩;simp;exact⟨rfl,_,_,_,_,_,_,G7,((O.trans O1).trans O6).trans O7,.begins 2 cmd aZZ (by omega) ho0 hm has hk0 rfl (by rw[←hg];exact e7)⟩
end Ln
namespace Ln
open Go.Sx Go
def JW(mi t:Nat):jy:=match mi,t with
 |0,1=>.get|0,_=>.put|1,0=>.inc|1,1=>.za|1,_=>.add|_,0=>.write|_,_=>.vZ
theorem U1{mi:Nat}(hi:mi<3){t:Nat}(ht:t<3):JW mi t∈aK mi:=by
 match mi,hi,t,ht with
 |0,_,0,_=>decide
 |0,_,1,_=>decide
 |0,_,2,_=>decide
 |1,_,0,_=>decide
 |1,_,1,_=>decide
 |1,_,2,_=>decide
 |2,_,0,_=>decide
 |2,_,1,_=>decide
 |2,_,2,_=>decide
theorem yF.put0{bg n0:Key}{m:Nat×Nat}{l:List Ev}{g g':GS}{k:Nat}{cL cQ:AV}{oL oQ:Option Key}{h:T ah}{nx nx0 b8:Key}{c:Nat}{cmd:jy}{cA:AV}(G:yF bg n0 m l g k cL cQ oL oQ h nx0)(h8:ae b8 h=some (.cells (Sb c cmd cA) .fix))(h80:nx0.toNat≤b8.toNat):yF bg n0 m l g' k cL cQ oL oQ (aw bg (some (.cells (gB m cL cQ g') .fix)) h) nx0∧ae b8 (aw bg (some (.cells (gB m cL cQ g') .fix)) h)=some (.cells (Sb c cmd cA) .fix)∧Old n0 h nx (aw bg (some (.cells (gB m cL cQ g') .fix)) h) nx:=by obtain⟨G1,O1⟩:=G.put (g':=g');have bn:=G.bn;exact⟨G1,by rw[aU _ _ _ _ (fun e=>by rw[e]at h80;omega)];exact h8,fg _,O1.g⟩
theorem yF.at0{bg n0:Key}{m:Nat×Nat}{l:List Ev}{g:GS}{k:Nat}{cL cQ:AV}{oL oQ:Option Key}{h h':T ah}{nx nx':Key}(G:yF bg n0 m l g k cL cQ oL oQ h nx)(e:Ext h nx h' nx')(_:nx.toNat≤nx'.toNat):yF bg n0 m l g k cL cQ oL oQ h' nx:=by obtain⟨len,hlen,hQ⟩:=G.Q;exact⟨by rw[e.g bg G.bn];exact G.lW,G.L.cF (fg _) fun b hb=>e.g b (G.L.lt b hb),⟨len,hlen,hQ.cF (fg _) fun b hb=>e.g b (hQ.lt b hb)⟩,G.b0,G.bn,G.lo,G.qo⟩
variable{C:bQ}{X:Kn}(S:Std C X)
theorem axu{h:T ah}{nx b8:Key}{tm:T AV}{c:Nat}{cmd:jy}{cA:AV}(h8:ae b8 h=some (.cells (Sb c cmd cA) .fix))(q8:ae (K 8) tm=some (.ptr b8 0)){Q:dh}
  (key:∀aJ,(∀k:Key,k=K 0∨k=K 4∨k=K 6∨k=K 8→ae k aJ=ae k tm)→ae (K 124) aJ=some (.bool (cmd.ar==1))→Q .norm aJ h nx):lA C Q cw tm h nx:=by
 cases cmd
 all_goals
  simp[Sb,jy.name]at h8;simp[cw,q8,h8];refine key _ ?_ ?_
  ·rintro k (rfl|rfl|rfl|rfl)<;>simp
  ·simp[jy.ar]
include S
theorem PC{bg n0:Key}{mi:Nat}{l:List Ev}{g g0:GS}{hB:T ah}{nxB:Key}{k:Nat}{cL cQ:AV}{oL oQ:Option Key}{h:T ah}{nx nx0 b8:Key}(G:yF bg n0 (lD mi) l g k cL cQ oL oQ h nx0)(hg:g.o=g0.o)(O:Old n0 hB nxB h nx)(hx:nx0.toNat≤nx.toNat)(hl:l.length≤100)(hk:k≤100)(hn:n0.toNat≤nx0.toNat){tm:T AV}{c n6:Nat}{cmd:jy}(h8:ae b8 h=some (.cells (Sb c cmd .nils) .fix))(h80:nx0.toNat≤b8.toNat)(h8n:b8.toNat<nx.toNat)
  (hm:cmd∈aK mi) (hc:c=0∨c=1∨c=2) (ho:g.o c=false) (q0:ae (K 0) tm=some (.ptr bg 0)) (q4:ae (K 4) tm=some (I c)) (q6:ae (K 6) tm=some (I n6)) (q8:ae (K 8) tm=some (.ptr b8 0)) :
  gn C (.seq (.seq (.ops cw) (.cond (.t (K 124)) (.ops bV) .skip)) (.seq (.staged bC ⟨[K 134,K 135,K 136,K 137,K 138,K 139,K 140,K 141,K 142,K 143],[]⟩) (.seq (.ops bD) (.seq (.ops bE) (.seq (.ops aZ) (.cond (.t (K 162)) (.ops bF) .skip)))))) (bZ [] (StR bg n0 mi l g0 k hB nxB)) tm h nx:=by
 have rN:C.raw iD=false:=S.nr (by decide);have hb:=G.lW;have bn:=G.bn;simp;refine axu h8 q8 ?_;intro aJ q asA;have p0:=(q (K 0) (by simp)).trans q0;have p4:=(q (K 4) (by simp)).trans q4;have p6:=(q (K 6) (by simp)).trans q6;have p8:=(q (K 8) (by simp)).trans q8;by_cases NQ:cmd.ar=1
 ·have fin:∀(Pb:T AV) (h3:T ah) (bY ba:Key) (u:U),u.k=0→ae (K 0) Pb=some (.ptr bg 0)→ae (K 4) Pb=some (I c)→ae (K 6) Pb=some (I n6)→ae (K 8) Pb=some (.ptr b8 0)→yF bg n0 (lD mi) l g k cL cQ oL oQ h3 nx0→nx.toNat≤bY.toNat→Old n0 h nx h3 bY→ae b8 h3=some (.cells (Sb c cmd (.slice ba 0 1 4)) .fix)→ae ba h3=some (.cells (eU u) .fix)→nx.toNat≤ba.toNat→ba.toNat<bY.toNat→
    gn C (.seq (.staged bC ⟨[K 134,K 135,K 136,K 137,K 138,K 139,K 140,K 141,K 142,K 143],[]⟩) (.seq (.ops bD) (.seq (.ops bE) (.seq (.ops aZ) (.cond (.t (K 162)) (.ops bF) .skip))))) (bZ [] (StR bg n0 mi l g0 k hB nxB)) Pb h3 bY:=by
   intro Pb h3 bY ba u hu r0 r4 r6 r8 G3 hx3 O3 hb8 hba aJg aJh;exact Yt S (aZZ:=[u]) G3 hg (O.trans O3) (by omega) hl hk hn (.inr ⟨ba,u,rfl,rfl,hba,by omega,aJh,fun e=>by rw[e]at aJg;omega⟩) hb8 h80 (by omega) hm (by rw[NQ];rfl) (by simpa using hu) hc ho r0 r4 r6 r8
  simp only[bM,bO,cz,gL]at fin;have hb8:ae b8 h=some (.cells [I 0,I c,.str cmd.name.1 cmd.name.2,.nils,I 0,I 0,.str 0 0,.nils] .fix):=h8;simp[NQ]at asA;simp[asA];rcases hc with rfl|rfl|rfl
  ·simp[bV,p0,p4,hb,gB,rN];refine(yH S (g.a 0)).mono ?_;rintro o h3 bY ⟨rfl,e3⟩;have n3:=e3.n;have s3:=kTSu bY;have aoE:ae b8 h3=some (.cells [I 0,I 0,.str cmd.name.1 cmd.name.2,.nils,I 0,I 0,.str 0 0,.nils] .fix):=by rw[e3.g b8 h8n];exact hb8
   have e4:=E0 h3 bY (.cells (eU ⟨0,g.a 0⟩) .fix);have bX:b8≠bY:=fun e=>by rw[e]at h8n;omega
   have e5:Ext h nx0 (aw b8 (some (.cells (Sb 0 cmd (.slice bY 0 1 4)) .fix)) (aw bY (some (.cells (eU ⟨0,g.a 0⟩) .fix)) h3)) bY.succ:=⟨by omega,fun b hb=>by rw[ax (by omega),ax (by omega)];exact e3.g b (by omega)⟩;simp[p8,ax,h8n,aoE,eU,aU _ _ _ _ bX];refine fin _ _ _ bY ⟨0,g.a 0⟩ rfl ?_ ?_ ?_ ?_ (G.at0 e5 (by omega)) (by omega) ⟨by omega,fun b hb=>e5.g b (by omega)⟩ ?_ ?_ (by omega) (by omega)
   ·simp[p0]
   ·simp[p4]
   ·simp[p6]
   ·simp[p8]
   ·simp[Sb]
   ·simp[aU _ _ _ _ (Ne.symm bX),eU]
  ·simp[bV,p0,p4,hb,gB,rN];refine(yH S (g.a 1)).mono ?_;rintro o h3 bY ⟨rfl,e3⟩;have n3:=e3.n;have s3:=kTSu bY;have aoE:ae b8 h3=some (.cells [I 0,I 1,.str cmd.name.1 cmd.name.2,.nils,I 0,I 0,.str 0 0,.nils] .fix):=by rw[e3.g b8 h8n];exact hb8
   have e4:=E0 h3 bY (.cells (eU ⟨0,g.a 1⟩) .fix);have bX:b8≠bY:=fun e=>by rw[e]at h8n;omega
   have e5:Ext h nx0 (aw b8 (some (.cells (Sb 1 cmd (.slice bY 0 1 4)) .fix)) (aw bY (some (.cells (eU ⟨0,g.a 1⟩) .fix)) h3)) bY.succ:=⟨by omega,fun b hb=>by rw[ax (by omega),ax (by omega)];exact e3.g b (by omega)⟩;simp[p8,ax,h8n,aoE,eU,aU _ _ _ _ bX];refine fin _ _ _ bY ⟨0,g.a 1⟩ rfl ?_ ?_ ?_ ?_ (G.at0 e5 (by omega)) (by omega) ⟨by omega,fun b hb=>e5.g b (by omega)⟩ ?_ ?_ (by omega) (by omega)
   ·simp[p0]
   ·simp[p4]
   ·simp[p6]
   ·simp[p8]
   ·simp[Sb]
   ·simp[aU _ _ _ _ (Ne.symm bX),eU]
  ·simp[bV,p0,p4,hb,gB,rN];refine(yH S (g.a 2)).mono ?_;rintro o h3 bY ⟨rfl,e3⟩;have n3:=e3.n;have s3:=kTSu bY;have aoE:ae b8 h3=some (.cells [I 0,I 2,.str cmd.name.1 cmd.name.2,.nils,I 0,I 0,.str 0 0,.nils] .fix):=by rw[e3.g b8 h8n];exact hb8
   have e4:=E0 h3 bY (.cells (eU ⟨0,g.a 2⟩) .fix);have bX:b8≠bY:=fun e=>by rw[e]at h8n;omega
   have e5:Ext h nx0 (aw b8 (some (.cells (Sb 2 cmd (.slice bY 0 1 4)) .fix)) (aw bY (some (.cells (eU ⟨0,g.a 2⟩) .fix)) h3)) bY.succ:=⟨by omega,fun b hb=>by rw[ax (by omega),ax (by omega)];exact e3.g b (by omega)⟩;simp[p8,ax,h8n,aoE,eU,aU _ _ _ _ bX];refine fin _ _ _ bY ⟨0,g.a 2⟩ rfl ?_ ?_ ?_ ?_ (G.at0 e5 (by omega)) (by omega) ⟨by omega,fun b hb=>e5.g b (by omega)⟩ ?_ ?_ (by omega) (by omega)
   ·simp[p0]
   ·simp[p4]
   ·simp[p6]
   ·simp[p8]
   ·simp[Sb]
   ·simp[aU _ _ _ _ (Ne.symm bX),eU]
 ·have aJi:cmd.ar=0:=by cases cmd<;>simp[jy.ar]at NQ ⊢
  have bX:(cmd.ar==1)=false:=by simpa using NQ
  rw[bX]at asA;simp[asA];have key:=Yt S (aZZ:=[]) (n6:=n6) (tm:=aJ) G hg O hx hl hk hn (.inl ⟨rfl,rfl⟩) h8 h80 h8n hm (by rw[aJi];rfl) (by simp) hc ho p0 p4 p6 p8;simp only[bM,bO,cz,gL]at key;exact key
end Ln
namespace Ln
open Go.Sx Go
variable{C:bQ}{X:Kn}(S:Std C X)
include S
theorem apQ{bg n0:Key}{mi:Nat}{l:List Ev}{g g0:GS}{hB:T ah}{nxB:Key}{k:Nat}{cL cQ:AV}{oL oQ:Option Key}{h:T ah}{nx nx0 b8:Key}(G:yF bg n0 (lD mi) l g k cL cQ oL oQ h nx0)(hg:g.o=g0.o)(O:Old n0 hB nxB h nx)(hx:nx0.toNat≤nx.toNat)(hl:l.length≤100)(hk:k≤100)(hn:n0.toNat≤nx0.toNat){tm:T AV}{kk c n6:Nat}(yG:kk<1000000){cmd:jy}(h8:ae b8 h=some (.cells (Sb c cmd .nils) .fix))(h80:nx0.toNat≤b8.toNat)(h8n:b8.toNat<nx.toNat)
  (hm:cmd∈aK mi) (hc:c=0∨c=1∨c=2) (ho:g.o c=false) (q0:ae (K 0) tm=some (.ptr bg 0)) (q1:ae (K 1) tm=some (I kk)) (q4:ae (K 4) tm=some (I c)) (q6:ae (K 6) tm=some (I n6)) (q8:ae (K 8) tm=some (.ptr b8 0)) :
  gn C (.seq (.ops cx) (.seq (.staged cy ⟨[K 105,K 106,K 107,K 108,K 109,K 110,K 111],[]⟩) (.seq (.seq (.ops cw) (.cond (.t (K 124)) (.ops bV) .skip)) (.seq (.staged bC ⟨[K 134,K 135,K 136,K 137,K 138,K 139,K 140,K 141,K 142,K 143],[]⟩) (.seq (.ops bD) (.seq (.ops bE) (.seq (.ops aZ) (.cond (.t (K 162)) (.ops bF) .skip)))))))) (bZ [] (StR bg n0 mi l g0 k hB nxB)) tm h nx:=by
 have hb:=G.lW;have bn:=G.bn;have hd1:Int.tdiv (kk:Int) 306=((kk / 306:Nat):Int):=rfl;have hw1:aW .i64 ((kk / 306:Nat):Int)=((kk / 306:Nat):Int):=aB (by omega) (by omega);have hm1:Int.tmod ((kk / 306:Nat):Int) 3=((kk / 306%3:Nat):Int):=rfl;have OF:aW .i64 ((kk / 306%3:Nat):Int)=((kk / 306%3:Nat):Int):=aB (by omega) (by omega);generalize kk / 306%3=e3 at *;generalize kk / 306=aSE at *;have hb8:ae b8 h=some (.cells [I 0,I c,.str cmd.name.1 cmd.name.2,.nils,I 0,I 0,.str 0 0,.nils] .fix):=h8;have bX:b8≠bg:=fun e=>by rw[e]at h80;omega
 simp only[bM,cz,bO];rcases hc with rfl|rfl|rfl
 ·obtain⟨G1,h81,O1⟩:=G.put0 (g':={g with a:=na g.a 0 e3}) (nx:=nx) h8 h80;obtain⟨G2,h82,O2⟩:=G1.put0 (g':={g with a:=na g.a 0 e3,s:=na g.s 0 cmd.name}) (nx:=nx) h81 h80;have key:=fun aJ a b c d=>PC S (tm:=aJ) (n6:=n6) G2 (g0:=g0) hg ((O.trans O1).trans O2) hx hl hk hn h82 h80 h8n hm (by simp) ho a b c d;simp only[bM,cz,bO,gL]at key;simp[gB,Sb]at key;simp[cx,q0,q1,q4,hb,gB,hd1,hw1,hm1,OF];simp[cy,q0,q4,q8,hb8,gB,aU _ _ _ _ bX];refine key _ ?_ ?_ ?_ ?_<;>simp[q0,q4,q6,q8]
 ·obtain⟨G1,h81,O1⟩:=G.put0 (g':={g with a:=na g.a 1 e3}) (nx:=nx) h8 h80;obtain⟨G2,h82,O2⟩:=G1.put0 (g':={g with a:=na g.a 1 e3,s:=na g.s 1 cmd.name}) (nx:=nx) h81 h80;have key:=fun aJ a b c d=>PC S (tm:=aJ) (n6:=n6) G2 (g0:=g0) hg ((O.trans O1).trans O2) hx hl hk hn h82 h80 h8n hm (by simp) ho a b c d;simp only[bM,cz,bO,gL]at key;simp[gB,Sb]at key;simp[cx,q0,q1,q4,hb,gB,hd1,hw1,hm1,OF];simp[cy,q0,q4,q8,hb8,gB,aU _ _ _ _ bX];refine key _ ?_ ?_ ?_ ?_<;>simp[q0,q4,q6,q8]
 ·obtain⟨G1,h81,O1⟩:=G.put0 (g':={g with a:=na g.a 2 e3}) (nx:=nx) h8 h80;obtain⟨G2,h82,O2⟩:=G1.put0 (g':={g with a:=na g.a 2 e3,s:=na g.s 2 cmd.name}) (nx:=nx) h81 h80;have key:=fun aJ a b c d=>PC S (tm:=aJ) (n6:=n6) G2 (g0:=g0) hg ((O.trans O1).trans O2) hx hl hk hn h82 h80 h8n hm (by simp) ho a b c d;simp only[bM,cz,bO,gL]at key;simp[gB,Sb]at key;simp[cx,q0,q1,q4,hb,gB,hd1,hw1,hm1,OF];simp[cy,q0,q4,q8,hb8,gB,aU _ _ _ _ bX];refine key _ ?_ ?_ ?_ ?_<;>simp[q0,q4,q6,q8]
theorem apR{bg n0:Key}{mi:Nat}{l:List Ev}{g g0:GS}{hB:T ah}{nxB:Key}{k:Nat}{cL cQ:AV}{oL oQ:Option Key}{h:T ah}{nx nx0 b7:Key}(G:yF bg n0 (lD mi) l g k cL cQ oL oQ h nx0)(hg:g.o=g0.o)(O:Old n0 hB nxB h nx)(hx:nx0.toNat≤nx.toNat)(hl:l.length≤100)(hk:k≤100)(hn:n0.toNat≤nx0.toNat){tm:T AV}{kk c n6:Nat}(yG:kk<1000000)(hi:mi<3)(h7:ae b7 h=some (.cells [.str (JW mi 0).name.1 (JW mi 0).name.2,.str (JW mi 1).name.1 (JW mi 1).name.2,.str (JW mi 2).name.1 (JW mi 2).name.2] .fix))(h6:n6<6)(hc:c=0∨c=1∨c=2)(ho:g.o c=false)(q0:ae (K 0) tm=some (.ptr bg 0))(q1:ae (K 1) tm=some (I kk))(q4:ae (K 4) tm=some (I c))(q6:ae (K 6) tm=some (I n6))(q7:ae (K 7) tm=some (.slice b7 0 3 1)) :
  gn C (.seq (.ops dq) (.seq (.ops cx) (.seq (.staged cy ⟨[K 105,K 106,K 107,K 108,K 109,K 110,K 111],[]⟩) (.seq (.seq (.ops cw) (.cond (.t (K 124)) (.ops bV) .skip)) (.seq (.staged bC ⟨[K 134,K 135,K 136,K 137,K 138,K 139,K 140,K 141,K 142,K 143],[]⟩) (.seq (.ops bD) (.seq (.ops bE) (.seq (.ops aZ) (.cond (.t (K 162)) (.ops bF) .skip))))))))) (bZ [] (StR bg n0 mi l g0 k hB nxB)) tm h nx:=by
 have s1:=kTSu nx;have hm1:Int.tmod (n6:Int) 3=((n6%3:Nat):Int):=rfl;have hw1:aW .i64 ((n6%3:Nat):Int)=((n6%3:Nat):Int):=aB (by omega) (by omega);have ht:n6%3=0∨n6%3=1∨n6%3=2:=by omega
 generalize n6%3=t at *;simp only[bM,cz,bO];have key:∀(cmd:jy),cmd∈aK mi→∀aJ,ae (K 0) aJ=some (.ptr bg 0)→ae (K 1) aJ=some (I kk)→ae (K 4) aJ=some (I c)→ae (K 6) aJ=some (I n6)→ae (K 8) aJ=some (.ptr nx 0)→
   gn C (.seq (.ops cx) (.seq (.staged cy ⟨[K 105,K 106,K 107,K 108,K 109,K 110,K 111],[]⟩) (.seq (.seq (.ops cw) (.cond (.t (K 124)) (.ops bV) .skip)) (.seq (.staged bC ⟨[K 134,K 135,K 136,K 137,K 138,K 139,K 140,K 141,K 142,K 143],[]⟩) (.seq (.ops bD) (.seq (.ops bE) (.seq (.ops aZ) (.cond (.t (K 162)) (.ops bF) .skip)))))))) (bZ [] (StR bg n0 mi l g0 k hB nxB)) aJ (aw nx (some (.cells (Sb c cmd .nils) .fix)) h) nx.succ:=by
  intro cmd hm aJ p0 p1 p4 p6 p8;have e1:=E0 h nx (.cells (Sb c cmd .nils) .fix);have e2:Ext h nx0 (aw nx (some (.cells (Sb c cmd .nils) .fix)) h) nx0:=⟨fg _,fun b hb=>e1.g b (by omega)⟩;exact apQ S (G.at0 e2 (fg _)) hg (O.trans (Old.iT e1 (by omega))) (by omega) hl hk hn yG (by simp) (by omega) (by omega) hm hc ho p0 p1 p4 p6 p8
 simp only[bM,cz,bO,gL,Sb]at key;rcases ht with rfl|rfl|rfl
 ·have k0:=key _ (U1 hi (t:=0) (by omega));simp[dq,q4,q6,q7,h7,hm1,hw1];refine k0 _ ?_ ?_ ?_ ?_ ?_<;>simp[q0,q1,q4,q6]
 ·have k0:=key _ (U1 hi (t:=1) (by omega));simp[dq,q4,q6,q7,h7,hm1,hw1];refine k0 _ ?_ ?_ ?_ ?_ ?_<;>simp[q0,q1,q4,q6]
 ·have k0:=key _ (U1 hi (t:=2) (by omega));simp[dq,q4,q6,q7,h7,hm1,hw1];refine k0 _ ?_ ?_ ?_ ?_ ?_<;>simp[q0,q1,q4,q6]
theorem adW{bg n0:Key}{mi:Nat}{l:List Ev}{g:GS}{k:Nat}{cL cQ:AV}{oL oQ:Option Key}{h:T ah}{nx:Key}(G:yF bg n0 (lD mi) l g k cL cQ oL oQ h nx)(hi:mi<3)(hl:l.length≤100)(hk:k≤100)(hn:n0.toNat≤nx.toNat){tm:T AV}{kk c:Nat}(yG:kk<1000000)(hc:c=0∨c=1∨c=2)(ho:g.o c=false)(q0:ae (K 0) tm=some (.ptr bg 0))(q1:ae (K 1) tm=some (I kk))(q4:ae (K 4) tm=some (I c)) :
  gn C (.seq (.ops ig) (.seq (.ops ij) (.seq (.seq (.ops eZ) (.cond (.t (K 82)) (.ops ik) .skip)) (.seq (.seq (.ops fa) (.cond (.t (K 88)) (.ops im) .skip)) (.seq (.ops dq) (.seq (.ops cx) (.seq (.staged cy ⟨[K 105,K 106,K 107,K 108,K 109,K 110,K 111],[]⟩) (.seq (.seq (.ops cw) (.cond (.t (K 124)) (.ops bV) .skip)) (.seq (.staged bC ⟨[K 134,K 135,K 136,K 137,K 138,K 139,K 140,K 141,K 142,K 143],[]⟩) (.seq (.ops bD) (.seq (.ops bE) (.seq (.ops aZ) (.cond (.t (K 162)) (.ops bF) .skip))))))))))))) (bZ [] (StR bg n0 mi l g k h nx)) tm h nx:=by
 have s1:=kTSu nx;have s2:=kTSu nx.succ;have hb:=G.lW;have bn:=G.bn;have abq:Int.tdiv (kk:Int) 51=((kk / 51:Nat):Int):=rfl;have abr:aW .i64 ((kk / 51:Nat):Int)=((kk / 51:Nat):Int):=aB (by omega) (by omega);have hm6:Int.tmod ((kk / 51:Nat):Int) 6=((kk / 51%6:Nat):Int):=rfl;have hw6:aW .i64 ((kk / 51%6:Nat):Int)=((kk / 51%6:Nat):Int):=aB (by omega) (by omega);have h6:kk / 51%6<6:=Nat.mod_lt _ (by omega);generalize kk / 51%6=n6 at *;generalize kk / 51=e51 at *;have e1:=E0 h nx (.cells [.str 3 7632240,.str 3 7628135,.str 3 7632240] .fix);have hb1:ae bg (aw nx (some (.cells [.str 3 7632240,.str 3 7628135,.str 3 7632240] .fix)) h)=some (.cells (gB (lD mi) cL cQ g) .fix):=by rw[ax bn];exact hb
 simp only[bM,cz,bO,gL];simp[ig,q1,abq,abr,hm6,hw6];simp[ij];have fin:∀(aJ:T AV) (h2:T ah) (aN b7:Key),Ext h nx h2 aN→ae b7 h2=some (.cells [.str (JW mi 0).name.1 (JW mi 0).name.2,.str (JW mi 1).name.1 (JW mi 1).name.2,.str (JW mi 2).name.1 (JW mi 2).name.2] .fix)→ae (K 0) aJ=some (.ptr bg 0)→ae (K 1) aJ=some (I kk)→ae (K 4) aJ=some (I c)→ae (K 6) aJ=some (I n6)→ae (K 7) aJ=some (.slice b7 0 3 1)→
   gn C (.seq (.ops dq) (.seq (.ops cx) (.seq (.staged cy ⟨[K 105,K 106,K 107,K 108,K 109,K 110,K 111],[]⟩) (.seq (.seq (.ops cw) (.cond (.t (K 124)) (.ops bV) .skip)) (.seq (.staged bC ⟨[K 134,K 135,K 136,K 137,K 138,K 139,K 140,K 141,K 142,K 143],[]⟩) (.seq (.ops bD) (.seq (.ops bE) (.seq (.ops aZ) (.cond (.t (K 162)) (.ops bF) .skip))))))))) (bZ [] (StR bg n0 mi l g k h nx)) aJ h2 aN:=by
  intro aJ h2 aN b7 e h7 p0 p1 p4 p6 p7;exact apR S (G.at0 e e.n) rfl (Old.iT e hn) e.n hl hk hn yG hi h7 h6 hc ho p0 p1 p4 p6 p7
 simp only[bM,cz,bO,gL]at fin;have hmi:mi=0∨mi=1∨mi=2:=by omega
 rcases hmi with rfl|rfl|rfl
 ·simp[gB,lD]at hb1;simp[JW,jy.name]at fin;simp[eZ,q0,hb1];simp[fa,q0,hb1];refine fin _ _ _ nx e1 ?_ ?_ ?_ ?_ ?_ ?_<;>simp[q0,q1,q4]
 ·simp[gB,lD]at hb1;simp[JW,jy.name]at fin;have e2:=e1.trans (E0 _ nx.succ (.cells [.str 3 6516329,.str 4 1684104562,.str 3 6579297] .fix));simp[eZ,q0,hb1];simp[ik];have Ii:∀B,ae bg (aw nx.succ (some B) (aw nx (some (.cells [.str 3 7632240,.str 3 7628135,.str 3 7632240] .fix)) h))=_:=fun B=>(ax (by omega)).trans hb1;simp[fa,q0,Ii];refine fin _ _ _ nx.succ e2 ?_ ?_ ?_ ?_ ?_ ?_<;>simp[q0,q1,q4]
 ·simp[gB,lD]at hb1;simp[JW,jy.name]at fin;have e2:=e1.trans (E0 _ nx.succ (.cells [.str 5 435744764535,.str 4 1684104562,.str 4 1684104562] .fix));simp[eZ,q0,hb1];simp[fa,q0,hb1];simp[im];refine fin _ _ _ nx.succ e2 ?_ ?_ ?_ ?_ ?_ ?_<;>simp[q0,q1,q4]
end Ln
namespace Ln
open Go.Sx Go
inductive Vh(mi:Nat):List Ev→GS→Prop
 |nil (g:GS) (h:g.o=fun _=>false):Vh mi [] g
 |snoc {l:List Ev} {g g':GS} {x:Ev} (h:Vh mi l g) (s:abp mi g x g'):Vh mi (l ++ [x]) g'
theorem abp.few{mi:Nat}{g g':GS}{x:Ev}(s:abp mi g x g'):x.args.length≤1∧0≤x.client∧x.client≤3:=by
 cases s with
 |lost h _=>subst h;simp
 |ends c r hc _ h _=>subst h;simp;omega
 |begins c cmd aZZ hc _ _ ha _ h _=>
  subst h;have:cmd.ar≤1:=by cases cmd<;>decide
  refine⟨?_,?_,?_⟩
  ·show aZZ.length≤1;omega
  ·show(0:Int)≤c;omega
  ·show(c:Int)≤3;omega
theorem Vh.few{mi:Nat}{l:List Ev}{g:GS}(h:Vh mi l g):∀x∈l,x.args.length≤1∧0≤x.client∧x.client≤3:=by
 induction h with
 |nil g h=>intro x hx;cases hx
 |snoc h s ih=>
  intro x hx;rcases List.mem_append.1 hx with hx|hx
  ·exact ih x hx
  ·simp at hx;subst hx;exact s.few
theorem _root_.Go.Sx.Rd.ixI{c:AV}{us:List Int}{h:T ah}{nx:Key}(g:Rd 1 c (ag eI us) us.length h nx){i:Nat}(hi:i<us.length){C:bQ}{Q:dh}{L:List aA}{tm:T AV}{n2 k1 k2 d1 d2:Key}(h1:ae k1 tm=some c)(h2:ae k2 tm=some (I i)) :
  lA C Q (⟨some d1,.indexL 1 (.t k1) (.t k2),none⟩ ::⟨some d2,.load false 1 (.t d1),none⟩ ::L) tm h n2=lA C Q L (aw d2 (some (I us[i])) (aw d1 (some (JV 1 i c)) tm)) h n2:=by
 have LI:(ag eI us).length=us.length:=mX _;have hd:=Jy hi;have tl:1≤us.length-i:=by omega
 rcases g with⟨_,_,e⟩|⟨f,rfl⟩|⟨b,k,rfl,hb,_,_⟩
 ·omega
 ·simp[h1,h2,hi,LI,hd,tl,JV]
 ·simp[h1,h2,hi,LI,JV,hb]
variable{C:bQ}{X:Kn}(S:Std C X)
include S
theorem aqd{bg n0:Key}{mi:Nat}{l:List Ev}{g:GS}{k:Nat}{cL cQ:AV}{oL oQ:Option Key}{h:T ah}{nx:Key}(G:yF bg n0 (lD mi) l g k cL cQ oL oQ h nx)(hi:mi<3)(hl:l.length≤100)(hk:k≤100)(hn:n0.toNat≤nx.toNat){kk:Nat}(yG:kk<1000000) :
  aG C nG [.ptr bg 0,I kk] h nx (StR bg n0 mi l g k h nx):=by
 have hb:=G.lW;have hm3:Int.tmod (kk:Int) 3=((kk%3:Nat):Int):=rfl;have hw3:aW .i64 ((kk%3:Nat):Int)=((kk%3:Nat):Int):=aB (by omega) (by omega);have hd3:Int.tdiv (kk:Int) 3=((kk / 3:Nat):Int):=rfl;have hv3:aW .i64 ((kk / 3:Nat):Int)=((kk / 3:Nat):Int):=aB (by omega) (by omega);have aCR:Int.tmod ((kk / 3:Nat):Int) 17=((kk / 3%17:Nat):Int):=rfl;have aCS:aW .i64 ((kk / 3%17:Nat):Int)=((kk / 3%17:Nat):Int):=aB (by omega) (by omega);have hc:kk%3=0∨kk%3=1∨kk%3=2:=by omega
 generalize kk / 3%17=e17 at *;generalize kk / 3=e3 at *;generalize kk%3=c at *;refine S.I9.call ?_;simp[Fx];simp[Hb,hm3,hw3];by_cases h16:e17=16
 ·have ayf:((e17:Int)==16)=true:=bt (by omega);have key:=fun aJ a=>ajV S G hl hn (tm:=aJ) a (Q:=aQ (gn C (.seq (.seq (.ops fM) (.cond (.t (K 34)) (.seq (.seq (.ops ej) (.cond (.t (K 40)) (.ops jh) .skip)) (.seq (.ops ep) (.seq (.seq (.ops cV) (.cond (.t (K 53)) (.ops ew) .skip)) (.seq (.staged cu ⟨[K 56,K 57,K 58,K 59,K 60,K 61,K 62,K 63,K 64,K 65,K 66,K 67,K 68],[]⟩) (.seq (.ops cv) .ret))))) .skip)) (.seq (.ops ig) (.seq (.ops ij) (.seq (.seq (.ops eZ) (.cond (.t (K 82)) (.ops ik) .skip)) (.seq (.seq (.ops fa) (.cond (.t (K 88)) (.ops im) .skip)) (.seq (.ops dq) (.seq (.ops cx) (.seq (.staged cy ⟨[K 105,K 106,K 107,K 108,K 109,K 110,K 111],[]⟩) (.seq (.seq (.ops cw) (.cond (.t (K 124)) (.ops bV) .skip)) (.seq (.staged bC ⟨[K 134,K 135,K 136,K 137,K 138,K 139,K 140,K 141,K 142,K 143],[]⟩) (.seq (.ops bD) (.seq (.ops bE) (.seq (.ops aZ) (.cond (.t (K 162)) (.ops bF) .skip)))))))))))))) (bZ [] (StR bg n0 mi l g k h nx))) (bZ [] (StR bg n0 mi l g k h nx))) (fun _ _ _ hq=>hq);simp only[bM,cz]at key;simp[xo,hd3,hv3,aCR,aCS,ayf];refine key _ ?_;simp
 ·have ayf:((e17:Int)==16)=false:=bq (by omega);simp[xo,hd3,hv3,aCR,aCS,ayf];have Cq:∀ay h' nx',bZ [] (StR bg n0 mi l g k h nx) .ret ay h' nx'→aQ (gn C (.seq (.ops ig) (.seq (.ops ij) (.seq (.seq (.ops eZ) (.cond (.t (K 82)) (.ops ik) .skip)) (.seq (.seq (.ops fa) (.cond (.t (K 88)) (.ops im) .skip)) (.seq (.ops dq) (.seq (.ops cx) (.seq (.staged cy ⟨[K 105,K 106,K 107,K 108,K 109,K 110,K 111],[]⟩) (.seq (.seq (.ops cw) (.cond (.t (K 124)) (.ops bV) .skip)) (.seq (.staged bC ⟨[K 134,K 135,K 136,K 137,K 138,K 139,K 140,K 141,K 142,K 143],[]⟩) (.seq (.ops bD) (.seq (.ops bE) (.seq (.ops aZ) (.cond (.t (K 162)) (.ops bF) .skip))))))))))))) (bZ [] (StR bg n0 mi l g k h nx))) (bZ [] (StR bg n0 mi l g k h nx)) .ret ay h' nx':=fun _ _ _ hq=>hq;cases ho:g.o c with
  |true=>
   have key:=fun aJ a b d=>ajW S G hl hk hn yG hc ho (tm:=aJ) (Q:=aQ (gn C (.seq (.ops ig) (.seq (.ops ij) (.seq (.seq (.ops eZ) (.cond (.t (K 82)) (.ops ik) .skip)) (.seq (.seq (.ops fa) (.cond (.t (K 88)) (.ops im) .skip)) (.seq (.ops dq) (.seq (.ops cx) (.seq (.staged cy ⟨[K 105,K 106,K 107,K 108,K 109,K 110,K 111],[]⟩) (.seq (.seq (.ops cw) (.cond (.t (K 124)) (.ops bV) .skip)) (.seq (.staged bC ⟨[K 134,K 135,K 136,K 137,K 138,K 139,K 140,K 141,K 142,K 143],[]⟩) (.seq (.ops bD) (.seq (.ops bE) (.seq (.ops aZ) (.cond (.t (K 162)) (.ops bF) .skip))))))))))))) (bZ [] (StR bg n0 mi l g k h nx))) (bZ [] (StR bg n0 mi l g k h nx))) a b d Cq;simp only[bM,cz,gL,bO]at key;clear Cq;rcases hc with rfl|rfl|rfl
   ·simp[fM,hb,gB,ho];refine key _ ?_ ?_ ?_<;>simp
   ·simp[fM,hb,gB,ho];refine key _ ?_ ?_ ?_<;>simp
   ·simp[fM,hb,gB,ho];refine key _ ?_ ?_ ?_<;>simp
  |false=>
   have key:=fun aJ a b d=>adW S G hi hl hk hn yG hc ho (tm:=aJ) a b d;simp only[bM,cz,gL,bO]at key;rcases hc with rfl|rfl|rfl
   ·simp[fM,hb,gB,ho];refine key _ ?_ ?_ ?_<;>simp
   ·simp[fM,hb,gB,ho];refine key _ ?_ ?_ ?_<;>simp
   ·simp[fM,hb,gB,ho];refine key _ ?_ ?_ ?_<;>simp
def aKw(mi:Nat)(n most:Nat)(c1:AV)(bg:Key)(h:T ah)(nx:Key)(m:Nat)(ay:T AV)(h':T ah)(nx':Key):Prop:=∃(j:Nat) (l:List Ev) (g:GS) (cL cQ:AV) (oL oQ:Option Key),m=most-j∧j≤most∧j≤n∧l.length=j∧ae (K 1) ay=some c1∧ae (K 2) ay=some (I most)∧ae (K 7) ay=some (.ptr bg 0)∧ae (K 8) ay=some (I j)∧yF bg nx (lD mi) l g j cL cQ oL oQ h' nx'∧Vh mi l g∧Old nx h nx h' nx'
def aCT(mi most:Nat)(h:T ah)(nx:Key)(o:Out)(h':T ah)(nx':Key):Prop:=∃cR l g,o=.ret cR∧gI 8 eE cR l∧l.length≤most∧Vh mi l g∧Ext h nx h' nx'
theorem ahx{mi:Nat}(hi:mi<3){ks:List Int}(BL:∀x∈ks,zb x){c1:AV}(hc:gI 1 eI c1 ks){most:Nat}(hm:most≤16){h:T ah}{nx:Key}:aG C lJ [ft mi,c1,I most] h nx (aCT mi most h nx):=by
 have rA:C.raw da=false:=S.nr (by decide);have rG:C.raw nG=false:=S.nr (by decide);have s1:=kTSu nx;refine S.GR.call ?_;simp[Cd];simp[Eb];simp[Ec];simp[Ed];have G0:yF nx nx (lD mi) [] ⟨0,fun _=>0,fun _=>false,fun _=>false,fun _=>0,fun _=>(0,0)⟩ 0 .nils .nils none none (aw nx (some (.cells (gB (lD mi) .nils .nils ⟨0,fun _=>0,fun _=>false,fun _=>false,fun _=>0,fun _=>(0,0)⟩) .fix)) h) nx.succ:=⟨by simp,Gr.nil _ _ _,⟨0,fg _,.inl ⟨rfl,rfl,rfl⟩⟩,fg _,by omega,(fun b hb=>by cases hb),(fun b hb=>by cases hb)⟩;have e0:=E0 h nx (.cells (gB (lD mi) .nils .nils ⟨0,fun _=>0,fun _=>false,fun _=>false,fun _=>0,fun _=>(0,0)⟩) .fix);simp[gB]at G0 e0;refine W.dy (n:=most) (aKw mi ks.length most c1 nx h nx) ⟨0,[],_,_,_,_,_,by simp,by omega,by omega,rfl,by simp,by simp,by simp,by simp,G0,.nil _ rfl,by omega,fun b hb=>e0.g b hb⟩ ?_;rintro m ef h1 bS ⟨j,l,g,cL,cQ,oL,oQ,rfl,hjm,hjn,hlj,g1,g2,g7,g8,G,hr,O⟩;have nO:=O.n;refine W.of ?_;simp[Ee];have hR:Rd 1 c1 (ag eI ks) ks.length h1 bS:=hc.rd _ _;have fin:∀aJ:T AV,ae (K 7) aJ=some (.ptr nx 0)→gn C (.seq (.ops u7) .ret) (bZ [.tmp (K 6)] (aCT mi most h nx)) aJ h1 bS:=by intro aJ q7;have fr:=G.L.xN cn 9998;have hb:=G.lW;simp;simp[u7,q7,hb,gB];refine⟨_,l,g,rfl,fr.1,by omega,hr,by omega,fun b hb=>?_⟩;rw[fr.2 b (fun e=>by have:=(G.lo b e).1;omega)];exact O.g b hb
 simp only[bM,cz]at fin;by_cases bW:j<ks.length
 ·have v7:(j:Int)<ks.length:=by omega
  by_cases aTn:j<most
  ·have aKy:(j:Int)<most:=by omega
   have hx:=BL _ (OA bW);have cD:=Py (m:=1000000) (by omega) ks[j];have NQ:=uL S hx (m:=1000000) (by omega) (by omega) (h:=h1) (nx:=bS);simp[↓hR.ln,oG,g1,g2,g8,v7,aKy];simp at NQ;simp[↓hR.ixI bW,Ef,g1,g7,g8,rA];refine NQ.mono ?_;rintro o h2 aN ⟨rfl,rfl,rfl⟩;simp[rG];refine(aqd S G hi (by omega) (by omega) nO cD).mono ?_;rintro o h3 bY ⟨rfl,x,g',cL',HP,oL',LQ,G3,O3,st⟩;simp;simp[Eg,g8];rw[aB (by omega) (by omega)];exact⟨most-(j+1),by omega,j+1,l ++ [x],g',cL',HP,oL',LQ,rfl,by omega,by omega,by simp[hlj],by simp[g1],by simp[g2],by simp[g7],by simp,G3,hr.snoc st,O.trans O3⟩
  ·have xM:j=most:=by omega
   subst xM;simp[↓hR.ln,oG,g1,g2,g8,v7];refine fin _ ?_;simp[g7]
 ·have xM:j=ks.length:=by omega
  subst xM;simp[↓hR.ln,oG,g1,g2,g8];refine fin _ ?_;simp[g7]
end Ln
namespace Ln
open Go.Sx Go
theorem alr{n:Int}(h:zb n):zb (aW .i64 (n+1)):=by
 obtain⟨h1,h2⟩:=h;by_cases e:n+1<9223372036854775808
 ·rw[aB (by omega) e];exact⟨by omega,e⟩
 ·have:n=9223372036854775807:=by omega
  subst this;have:aW .i64 (9223372036854775807+1)=-9223372036854775808:=by decide
  rw[this];exact⟨by omega,by omega⟩
theorem Rd.ord{c:AV}{l:List Int}{h:T ah}{nx:Key}(g:Rd 1 c (ag eI l) l.length h nx):Ord c l l.length h nx:=by
 refine⟨fg _,?_⟩;rcases g with⟨e,_,e2⟩|⟨f,e⟩|⟨b,k,e,hb,hl,_⟩
 ·exact .inl ⟨e,e2⟩
 ·exact .inr (.inl ⟨f,by rw[List.take_length];exact e⟩)
 ·exact .inr (.inr ⟨b,k,e,hb,hl⟩)
theorem ahE(n:Int):nmI n<3:=Py (by omega) n
variable{C:bQ}{X:Kn}(S:Std C X)
include S
end Ln
namespace Ln
open Go.Sx Go
structure awh(c:AV)(h:T ah)(nx:Key):Prop where
 ex:∃ord:List Int,ord.length≤1000∧Ord c ord ord.length h nx
 bq:AV.beq c c=true
theorem awh.ext{c:AV}{h h':T ah}{nx nx':Key}(o:awh c h nx)(e:Ext h nx h' nx'):awh c h' nx':=by obtain⟨ord,h1,h2⟩:=o.ex;exact⟨⟨ord,h1,h2.ext e⟩,o.bq⟩
variable{C:bQ}{X:Kn}(S:Std C X)
include S
end Ln
namespace Ln
open Go.Sx Go
variable{C:bQ}{X:Kn}(S:Std C X)
include S
end Ln
namespace Ln
open Go.Sx Go
def vuF:Nat→Nat→List Nat
 |0,n=>[n]
 |k+1,n=>if n<128 then [n]else(128+n%128) ::vuF k (n / 128)
def vu(n:Nat):List Nat:=vuF 10 n
theorem amD{C:bQ}{l:List aA}{R:dh}{tm:T AV}{h:T ah}{nx:Key}(hw:gn C (.ops l) R tm h nx):lA C R l tm h nx:=by simpa using hw
def eY(b:Nat):List AV:=[.int .u8 (.lit (b:Int))]
theorem Kr:Flat 1 eY where
 len _:=rfl
 r7 x y hy:=by simp[eY]at hy;subst hy;exact dA _ _
 cell x y hy:=by simp[eY]at hy;subst hy;rfl
 lits x:=rfl
structure WS(w:Key)(c:AV)(bs:List Nat)(h:T ah)(nx n0:Key):Prop where
 lo:n0.toNat≤w.toNat
 hi:w.toNat<nx.toNat
 n:n0.toNat≤nx.toNat
 at_:ae w h=some (.cells [c] .fix)
 app:App c (ag eY bs) bs.length 1 h nx n0
def YZ(w:Key)(h:T ah)(nx:Key)(h':T ah):Prop:=∀b:Key,b.toNat<nx.toNat→b≠w→(∀B,ae b h=some B→B≠.tok∧∀l,B≠.cells l .part)→ae b h'=ae b h
theorem YZ.refl(w:Key)(h:T ah)(nx:Key):YZ w h nx h:=fun _ _ _ _=>rfl
theorem YZ.trans{w:Key}{h h1 h2:T ah}{nx bS:Key}(a:YZ w h nx h1)(hn:nx.toNat≤bS.toNat)(b:YZ w h1 bS h2):YZ w h nx h2:=fun k hk hw hB=>by have e:=a k hk hw hB;rw[b k (by omega) hw (by rw[e];exact hB),e]
theorem YZ.new(w:Key)(h:T ah)(nx:Key)(B:Option ah):YZ w h nx (aw nx B h):=fun _ hk _ _=>ax hk
theorem Ext.kp{h h':T ah}{nx nx':Key}(e:Ext h nx h' nx')(w:Key):YZ w h nx h':=fun b hb _ _=>e.g b hb
theorem WS.add{w:Key}{c:AV}{bs:List Nat}{h:T ah}{nx n0:Key}(W:WS w c bs h nx n0)(new:List Nat)(hl:bs.length+new.length≤1048576) :
  ∃c' h' nx',appendTo 1 c (ag eY new) new.length h nx=.val c' h' nx'∧c'.aT=true∧c'.cells=[c']∧ae w h'=some (.cells [c] .fix)∧WS w c' (bs++new) (aw w (some (.cells [c'] .fix)) h') nx' n0∧nx.toNat≤nx'.toNat∧(∀b:Key,b.toNat<n0.toNat→ae b (aw w (some (.cells [c'] .fix)) h')=ae b h)∧YZ w h nx (aw w (some (.cells [c'] .fix)) h'):=by
 obtain⟨c',h',nx',a1,a2,a3,a4,a5⟩:=W.app.dW (new:=ag eY new) (m:=new.length) W.n (by rw[Kr.rows]) hl (Kr.aeS new);have hw:ae w h'=some (.cells [c] .fix):=by rw[a5 w W.hi (fun B hB=>by rw[W.at_]at hB;cases hB;exact⟨by simp,by simp⟩)];exact W.at_
 have⟨x1,x2⟩:=a2.cell;refine⟨c',h',nx',a1,x1,x2,hw,⟨W.lo,by have:=W.hi;omega,by have:=W.n;omega,by rw[gTSm],?_⟩,a3,fun b hb=>by rw[ax (by have:=W.lo;omega)];exact a4 b hb,fun b hb OF hB=>by rw[aU _ _ _ _ OF];exact a5 b hb hB⟩;have:=a2.set (k:=w) (B:=some (.cells [c'] .fix)) (fun B hB=>by rw[hw]at hB;cases hB;exact⟨by simp,by simp⟩);rw[jg,Ko];exact this
theorem WS.ext{w:Key}{c:AV}{bs:List Nat}{h h':T ah}{nx nx' n0:Key}(W:WS w c bs h nx n0)(e:Ext h nx h' nx'):WS w c bs h' nx' n0:=
 ⟨W.lo,by have:=W.hi;have:=e.n;omega,by have:=W.n;have:=e.n;omega,by rw[e.g w W.hi];exact W.at_,W.app.ext e⟩
def jV(w:Key)(bs:List Nat)(h:T ah)(nx n0:Key)(o:Out)(h':T ah)(nx':Key):Prop:=o=.ret (.tuple [])∧∃c',WS w c' bs h' nx' n0∧nx.toNat≤nx'.toNat∧(∀b:Key,b.toNat<n0.toNat→ae b h'=ae b h)∧YZ w h nx h'
theorem wrap_u8(n:Nat):aW .u8 (n:Int)=((n%256:Nat):Int):=by rw[iC];simp[IntKind.wrap,IntKind.bits,IntKind.signed]
theorem avY(n:Nat):arith .or .u8 (.lit ((n%256:Nat):Int)) (.lit 128)=some (.lit ((128+n%128:Nat):Int)):=by
 have key:∀x:Fin 256,aW .u8 (.ofNat (Nat.lor (Ta .u8 ((x.val:Nat):Int)) (Ta .u8 128)))=((128+x.val%128:Nat):Int):=by decide +kernel
 have e:=key ⟨n%256,Nat.mod_lt _ (by omega)⟩;have e2:arith .or .u8 (.lit ((n%256:Nat):Int)) (.lit 128)=some (.lit (aW .u8 (.ofNat (Nat.lor (Ta .u8 ((n%256:Nat):Int)) (Ta .u8 128))))):=rfl;rw[e2,e];simp only;congr 3;omega
theorem aAs(orc:jR)(n:Nat)(k:Key)(tm:T AV)(h:T ah)(hk:ae k tm=some (.int .u64 (.lit (n:Int)))):lightOp orc (.bin .shr (.t k) (.v (.int .u64 (.lit 7)))) tm h=some (.int .u64 (.lit ((n / 128:Nat):Int))):=by simp only[lightOp,at_t,at_v,hk];rfl
theorem at7(orc:jR){k:Key}{v:AV}{tm:T AV}{h:T ah}(hk:ae k tm=some v):lightOp orc (.mov (.t k)) tm h=some v:=by simp[hk]
theorem avZ{C:bQ}{Q:dh}{tm:T AV}{h:T ah}{nx:Key}{n d:Nat}(hd:d=n / 128)(f1:ae (K 1) tm=some (.int .u64 (.lit (n:Int))))
  (hQ:Q .norm (aw (K 1) (some (.int .u64 (.lit (d:Int)))) (aw (K 19) (some (.int .u64 (.lit (d:Int)))) (aw (K 18) (some (.int .u64 (.lit (n:Int)))) tm))) h nx):gn C (.ops pH) Q tm h nx:=by
 subst hd;have e1:=at7 C.orc (h:=h) f1;have e2:=aAs C.orc n (K 18) (aw (K 18) (some (.int .u64 (.lit (n:Int)))) tm) h (by simp);have e3:=at7 C.orc (k:=K 19) (v:=.int .u64 (.lit ((n / 128:Nat):Int))) (tm:=aw (K 19) (some (.int .u64 (.lit ((n / 128:Nat):Int)))) (aw (K 18) (some (.int .u64 (.lit (n:Int)))) tm)) (h:=h) (by simp);generalize n / 128=d at e2 e3 hQ;simp only[at8,at9,aua,aub,auc,pH,aFm,aAt,aAu,cz,abo,wants_none,X4,aOp,Go.Sx.okV,e1,e2,e3,putTm_some,arJ];exact hQ
variable{C:bQ}
def aud(w:Key)(bs:List Nat)(n:Nat)(h:T ah)(nx n0:Key)(k:Nat)(ay:T AV)(h':T ah)(nx':Key):Prop:=
 ∃(n':Nat) (bs':List Nat) (c':AV),k≤10∧ae (K 0) ay=some (.ptr w 0)∧ae (K 1) ay=some (.int .u64 (.lit (n':Int)))∧WS w c' bs' h' nx' n0∧n'*128^(10-k)<18446744073709551616∧bs'++vuF k n'=bs++vu n∧bs'.length≤bs.length+(10-k)∧
  nx.toNat≤nx'.toNat∧(∀b:Key,b.toNat<n0.toNat→ae b h'=ae b h)∧YZ w h nx h'
theorem al8(S:Fn C fU nV){w:Key}{c:AV}{bs:List Nat}{h:T ah}{nx n0:Key}(Ws:WS w c bs h nx n0){n:Nat}(hn:n<18446744073709551616)(hl:bs.length≤100000) :
  aG C fU [.ptr w 0,.int .u64 (.lit (n:Int))] h nx (jV w (bs++vu n) h nx n0):=by
 refine S.call ?_;simp[nV];refine W.dy (n:=10) (aud w bs n h nx n0) ?_ ?_
 ·exact⟨n,bs,c,by omega,by simp,by simp,Ws,by simpa using hn,rfl,by omega,fg _,fun _ _=>rfl,YZ.refl _ _ _⟩
 ·rintro k ef h1 bS ⟨n',bs',c',hk,f0,f1,W1,cD,hbs,hlen,hnx,hfr,hkp⟩;refine W.of ?_;simp[xO];have s1:=kTSu bS;by_cases hsm:n'<128
  ·have av0:(n':Int)<128:=by omega
   have hv:vuF k n'=[n']:=by cases k<;>simp[vuF,hsm]
   simp[pI,f1,av0];obtain⟨m,hm⟩:∃m,m=n'%256:=⟨_,rfl⟩;have h12:aW .u8 (n':Int)=(m:Int):=by rw[wrap_u8,hm]
   have hmn:m=n':=by omega
   obtain⟨c2,h2,aN,g,x1,x2,x3,W2,x5,x6,x7⟩:=(W1.ext (E0 h1 bS (.cells [.int .u8 (.lit (m:Int))] .fix))).add [m] (by simp;omega);have Y0:ag eY [m]=[.int .u8 (.lit (m:Int))]:=je _ _;rw[Y0]at g;simp only[List.length_singleton]at g;have hz:∀H,bG (aM 9999) [AV.int .u8 (.lit (m:Int))] H=([AV.int .u8 (.lit (m:Int))],H):=fun H=>bT (by intro y hy;simp at hy;subst hy;exact dA _ _);simp[-appendTo,xP,f0,f1,W1.at_,h12,hz,g,x1,x2,x3];refine⟨rfl,c2,by rw[←hbs,hv,←hmn];exact W2,by omega,fun b hb=>?_,(hkp.trans hnx (YZ.new w h1 bS _)).trans (by omega) x7⟩;rw[x6 b hb,ax (by have:=W1.n;omega)];exact hfr b hb
  ·have av0:¬(n':Int)<128:=by omega
   cases k with
   |zero=>
    exfalso;have:(128:Nat)^(10-0)=1180591620717411303424:=by decide
    rw[this]at cD;omega
   |succ k=>
    simp[pI,f1,av0];obtain⟨m,hm⟩:∃m,m=n'%256:=⟨_,rfl⟩;obtain⟨y,hy⟩:∃y,y=128+n'%128:=⟨_,rfl⟩;have h12:aW .u8 (n':Int)=(m:Int):=by rw[wrap_u8,hm]
    have h13:arith .or .u8 (.lit (m:Int)) (.lit 128)=some (.lit (y:Int)):=by rw[hm,avY,hy]
    obtain⟨c2,h2,aN,g,x1,x2,x3,W2,x5,x6,x7⟩:=(W1.ext (E0 h1 bS (.cells [.int .u8 (.lit (y:Int))] .fix))).add [y] (by simp;omega);have Y0:ag eY [y]=[.int .u8 (.lit (y:Int))]:=je _ _;rw[Y0]at g;simp only[List.length_singleton]at g;have hz:∀H,bG (aM 9999) [AV.int .u8 (.lit (y:Int))] H=([AV.int .u8 (.lit (y:Int))],H):=fun H=>bT (by intro z hz;simp at hz;subst hz;exact dA _ _);simp[-appendTo,-arith,xQ,f0,f1,W1.at_,h12,h13,hz,g,x1,x2,x3];refine amD (avZ (n:=n') (d:=n' / 128) rfl (by simp[f1]) ?_);simp;refine⟨k,by omega,?_⟩;unfold aud;have hp:10-k=(10-(k+1))+1:=by omega
    refine⟨n' / 128,bs' ++ [y],c2,by omega,?_,?_,W2,?_,?_,?_,by omega,fun b hb=>?_,(hkp.trans hnx (YZ.new w h1 bS _)).trans (by omega) x7⟩
    ·simp[f0]
    ·simp
    ·rw[hp,Nat.pow_succ];have:n' / 128*(128^(10-(k+1))*128)≤n'*128^(10-(k+1)):=by rw[Nat.mul_comm (128^_) 128,←Nat.mul_assoc];exact Nat.mul_le_mul_right _ (Nat.div_mul_le_self _ _)
     omega
    ·rw[←hbs,vuF,if_neg hsm,hy,List.append_assoc];rfl
    ·rw[Ko,List.length_singleton];omega
    ·rw[x6 b hb,ax (by have:=W1.n;omega)];exact hfr b hb
theorem ajT(n:Int):aW .u64 n=((n.emod 18446744073709551616).toNat:Int):=by rw[iC];simp only[IntKind.wrap,IntKind.bits,IntKind.signed];have e:n.emod 18446744073709551616=n%18446744073709551616:=rfl;rw[e];simp;omega
theorem arK{q n0:Key}{h:T ah}{nx:Key}(hq:ae q h=some (.cells [] .fix))(Ap:n0.toNat≤q.toNat)(hn:n0.toNat≤nx.toNat)(m:List Nat)(hl:m.length≤1048576) :
  ∃c' h' nx',appendTo 1 (.slice q 0 0 1) (ag eY m) m.length h nx=.val c' h' nx'∧nx.toNat≤nx'.toNat∧gI 1 eY (aM 9999 c' h').1 m∧∀b:Key,b.toNat<n0.toNat→ae b (aM 9999 c' h').2=ae b h:=by
 by_cases hm:m=[]
 ·subst hm;have hz:=AP (n:=9998) (b:=q) (len:=0) (sz:=1) (l:=[]) (H:=aw q (some (.cells [] .fix)) h) (by rw[gTSm]) rfl (by simp);refine⟨.slice q 0 0 1,aw q (some (.cells [] .fix)) h,nx,by simp[hq],fg _,?_,fun b hb=>?_⟩
  ·rw[hz];exact .inr rfl
  ·rw[hz,ax (by omega),ax (by omega)]
 ·have hmp:0<m.length:=List.length_pos_iff.2 hm;have Qj:¬m.length=0:=by omega
  have hr:=Kr.rows m;have CX:=Kr.aeS m;have hz:=CC (n:=9998) (b:=nx) (len:=m.length) (sz:=1) (l:=ag eY m) (H:=aw nx (some (.cells (ag eY m) .part)) h) (by rw[gTSm]) hr (Kr.yo m);refine⟨.slice nx 0 m.length 1,aw nx (some (.cells (ag eY m) .part)) h,nx.succ,?_,by rw[kTSu];omega,?_,fun b hb=>?_⟩
  ·simp[hq,hl,CX,Qj]
  ·rw[hz];exact .inr rfl
  ·rw[hz,ax (by omega),ax (by omega)]
theorem amF(S:Fn C fV nW){w:Key}{c:AV}{bs:List Nat}{h:T ah}{nx n0:Key}(Ws:WS w c bs h nx n0)(hl:bs.length≤1048576) :
  aG C fV [.ptr w 0] h nx (fun o h' nx'=>(∃c',o=.ret c'∧gI 1 eY c' bs)∧Ext h nx h' nx'):=by
 have s1:=kTSu nx;refine S.call ?_;have EK:ae w (aw nx (some (.cells [] .fix)) h)=some (.cells [c] .fix):=by rw[ax Ws.hi];exact Ws.at_
 simp[nW];simp[xR];obtain⟨c',h',nx',g,hn,hR,hf⟩:=arK (q:=nx) (n0:=nx) (h:=aw nx (some (.cells [] .fix)) h) (nx:=nx.succ) (by rw[gTSm]) (fg _) (by omega) bs hl;have hE:Ext h nx (aM 9999 c' h').2 nx':=⟨by omega,fun b hb=>by rw[hf b hb,ax hb]⟩;rcases Ws.app.is with⟨rfl,e1,e2⟩|⟨b,rfl,hb,Ap,cD,hll⟩|⟨t,rfl,ht,Ap,cD⟩
 ·have:bs=[]:=zqr e2;subst this;simp only[ajU,List.length_nil]at g;simp[-appendTo,jS,EK,g];exact⟨hR,hE⟩
 ·have Ii:ae b (aw nx (some (.cells [] .fix)) h)=some (.cells (ag eY bs) .part):=by rw[ax cD];exact hb
  have hz:∀H,bG (aM 9999) (ag eY bs) H=(ag eY bs,H):=fun H=>bT (Kr.yo bs);have hle:bs.length≤(ag eY bs).length:=by rw[Kr.rows];omega
  have HO:List.take bs.length (ag eY bs)=ag eY bs:=RL (by rw[Kr.rows];omega);simp[-appendTo,jS,EK,Ii,hz,hle,HO,g];exact⟨hR,hE⟩
 ·simp[-appendTo,jS,EK,g];exact⟨hR,hE⟩
end Ln
namespace Ln
open Go.Sx Go
abbrev mJ(n:Nat):AV:=.int .u64 (.lit (n:Int))
def RK(a b:Nat):Nat:=Nat.xor a b%18446744073709551616
def orU(a b:Nat):Nat:=Nat.lor a b%18446744073709551616
def ahB(a b:Nat):Nat:=a*b%18446744073709551616
def aeI(a k:Nat):Nat:=a*2^k%18446744073709551616
def Wf(n:Int):Nat:=(n.emod 18446744073709551616).toNat
theorem Qc(n:Int):aW .u64 n=((Wf n:Nat):Int):=ajT n
theorem aym(a b:Nat):arith .mul .u64 (.lit (a:Int)) (.lit (b:Int))=some (.lit ((ahB a b:Nat):Int)):=by show some (SI.lit (aW .u64 (Int.mul (a:Int) (b:Int))))=_;rw[Qc];rfl
section
variable{C:bQ}{Q:dh}{L:List aA}{tm:T AV}{h:T ah}{nx d x y:Key}
theorem ug{o:BinOp}{a b:PX}{v:AV}(hl:lightOp C.orc (.bin o a b) tm h=some v):lA C Q (⟨some d,.bin o a b,none⟩ ::L) tm h nx=lA C Q L (aw d (some v) tm) h nx:=by simp only[at8,at9,aua,aub,auc,abo,wants_none,X4,aOp,Go.Sx.okV,hl,putTm_some]
theorem YY(a b:Nat)(h1:ae x tm=some (mJ a))(h2:ae y tm=some (mJ b)):lA C Q (⟨some d,.bin .xor (.t x) (.t y),none⟩ ::L) tm h nx=lA C Q L (aw d (some (mJ (RK a b))) tm) h nx:=
 ug (by simp only[lightOp,at_t,h1,h2];rfl)
theorem awm(a b:Nat)(h1:ae x tm=some (mJ a))(h2:ae y tm=some (mJ b)):lA C Q (⟨some d,.bin .or (.t x) (.t y),none⟩ ::L) tm h nx=lA C Q L (aw d (some (mJ (orU a b))) tm) h nx:=
 ug (by simp only[lightOp,at_t,h1,h2];rfl)
theorem aql(a:Nat)(h1:ae x tm=some (mJ a)):lA C Q (⟨some d,.bin .mul (.t x) (.v (.int .u64 (.lit 11400714819323198485))),none⟩ ::L) tm h nx=lA C Q L (aw d (some (mJ (ahB a 11400714819323198485))) tm) h nx:=
 ug (by simp only[lightOp,at_t,at_v,h1];show(match arith .mul .u64 (.lit (a:Int)) (.lit ((11400714819323198485:Nat):Int))with|some r=>some (AV.int .u64 r)|none=>none)=_;rw[aym])
theorem anh(a:Nat)(h1:ae x tm=some (mJ a)):lA C Q (⟨some d,.bin .shl (.t x) (.v (.int .u64 (.lit 8))),none⟩ ::L) tm h nx=lA C Q L (aw d (some (mJ (aeI a 8))) tm) h nx:=
 ug (by simp only[lightOp,at_t,at_v,h1];show some (AV.int .u64 (.lit (aW .u64 (Int.mul (a:Int) (.ofNat (Nat.pow 2 8))))))=_;rw[Qc];rfl)
theorem alp(a:Nat)(h1:ae x tm=some (mJ a)):lA C Q (⟨some d,.bin .shr (.t x) (.v (.int .u64 (.lit 32))),none⟩ ::L) tm h nx=lA C Q L (aw d (some (mJ (a / 4294967296))) tm) h nx:=
 ug (by simp only[lightOp,at_t,at_v,h1];rfl)
end
def Ob(s w:Nat):Nat:=RK (ahB (RK s w) 11400714819323198485) (ahB (RK s w) 11400714819323198485 / 4294967296)
variable{C:bQ}{X:Kn}(S:Std C X)(H:OU C)
include S H
theorem aaB(s w:Nat){h:T ah}{nx:Key}:aG C gH [mJ s,mJ w] h nx (fun o h' nx'=>o=.ret (mJ (Ob s w))∧h'=h∧nx'=nx):=by refine H.UT.call ?_;simp[UU];simp[Rm];simp[Rn,↓YY s w,↓aql (RK s w)];simp[Ro,↓alp (ahB (RK s w) 11400714819323198485),↓YY (ahB (RK s w) 11400714819323198485) (ahB (RK s w) 11400714819323198485 / 4294967296)];rfl
end Ln
namespace Ln
open Go.Sx Go
variable{C:bQ}{X:Kn}(S:Std C X)
include S
end Ln
namespace Ln
open Go.Sx Go
def aad(os:List Op)(k d q:Nat):Bool:=!(d.testBit q&&before (os.getD k default) (os.getD q default)) && !(!d.testBit q&&decide (0≤(os.getD q default).e)&&before (os.getD q default) (os.getD k default))
def Vu(os:List Op)(k d:Nat):Bool:=!d.testBit k&&(List.range os.length).all (aad os k d)
theorem ajg{os:List Op}(hb:∀o∈os,before o o=false){k d q:Nat}(hk:k<os.length):aad os k d q=aae os k d q:=by
 unfold aad aae;by_cases e:q=k
 ·subst e;have:=hb _ (OA hk);rw[pS hk,this];simp
 ·have:(q==k)=false:=by simpa using e
  rw[this,Bool.false_or];cases d.testBit q<;>cases before (os.getD k default) (os.getD q default)<;>cases before (os.getD q default) (os.getD k default)<;>cases decide (0≤(os.getD q default).e)<;>rfl
theorem asr{os:List Op}(hb:∀o∈os,before o o=false){k d:Nat}(hk:k<os.length):Vu os k d=Av os k d:=by have:Av os k d=(!d.testBit k&&(List.range os.length).all (aae os k d)):=rfl;rw[this];unfold Vu;congr 1;rw[Bool.eq_iff_iff,wG,wG];exact⟨fun h q hq=>by rw[←ajg hb hk];exact h q hq,fun h q hq=>by rw[ajg hb hk];exact h q hq⟩
theorem ajh{d k:Nat}(hd:d<65536):aW .i64 ((Ta .i64 ((d.div (2^k):Nat):Int) &&& Ta .i64 1:Nat):Int)=if d.testBit k=true then 1 else 0:=by
 have h1:d.div (2^k)≤d:=Nat.div_le_self _ _;have h2:Ta .i64 ((d.div (2^k):Nat):Int)=d.div (2^k):=uO (by omega);have h3:Ta .i64 1=1:=by decide
 rw[h2,h3,Nat.and_one_is_mod,aB (by omega) (by omega),Nat.testBit_eq_decide_div_mod_eq];show(((d / 2^k)%2:Nat):Int)=_;by_cases h:d / 2^k%2=1
 ·simp[h]
 ·have:d / 2^k%2=0:=by omega
  simp[this]
def TiI(X:Kn)(os:List Op)(cells:List AV)(cO:AV)(k d:Nat)(bj:Key)(h:T ah)(nx:Key)(m:Nat)(ay:T AV)(h':T ah)(nx':Key):Prop:=∃j:Nat,m=os.length-j∧j≤os.length∧ae (K 0) ay=some (.ptr bj 0)∧ae (K 1) ay=some (I k)∧ae (K 2) ay=some (I d)∧ae (K 18) ay=some cO∧ae (K 19) ay=some (I os.length)∧ae (K 20) ay=some (I j)∧ae bj h'=some (.cells cells .fix)∧Ext h nx h' nx'∧∀q,q<j→aad os k d q=true
variable{C:bQ}{X:Kn}(S:Std C X)
include S
theorem akx{i:Nat}{os:List Op}(ho:os.length≤16){cO:AV}(hc:gI 10 eO cO os){s0:St}{en k d:Nat}(hk:k<os.length)(hd:d<65536){h:T ah}{nx bj:Key}(hb:ae bj h=some (.cells (jB X i cO s0 en) .fix))(EJ:bj.toNat<nx.toNat) :
  aG C fC [.ptr bj 0,I k,I d] h nx (fun o h' nx'=>o=.ret (.bool (Vu os k d))∧Ext h nx h' nx'):=by
 have rB:C.raw ic=false:=S.nr (by decide);have E9:cO=.sl (ag eO os) os.length 10 .any:=by
  rcases hc with⟨_,rfl⟩|e
  ·simp at hk
  ·exact e
 subst E9;have hr:=fP.rows os;have eck:=fP.at hk;have tk:10≤os.length*10-k*10:=by omega
 have wJ:k≤64:=by omega
 refine S.sX.call ?_;simp[nC];simp[rJ];have ab:=ajh (k:=k) hd;cases ZN:d.testBit k with
 |true=>
  rw[ZN,if_pos rfl]at ab;have:Vu os k d=false:=by unfold Vu;rw[ZN];rfl
  simp[kh,O0,wJ,ab];simp[rQ];exact⟨this,Ext.refl _ _⟩
 |false=>
  rw[ZN,if_neg (by simp)]at ab;have CX:Vu os k d=(List.range os.length).all (aad os k d):=by unfold Vu;rw[ZN];rfl
  simp[kh,O0,wJ,ab];simp[rW,hb,jB];refine W.dy (n:=os.length) (TiI X os (jB X i (.sl (ag eO os) os.length 10 .any) s0 en) (.sl (ag eO os) os.length 10 .any) k d bj h nx) ⟨0,by simp,by omega,by simp,by simp,by simp,by simp,by simp,by simp,by simpa[jB]using hb,Ext.refl _ _,fun q hq=>absurd hq (by omega)⟩ ?_;rintro m ef h2 aN ⟨j,rfl,hj,g0,g1,g2,g18,g19,g20,Yn,e2,hq⟩;have n2:=e2.n;have s2:=kTSu aN;refine W.of ?_;simp[rX];by_cases bW:j<os.length
  ·have v7:(j:Int)<os.length:=by omega
   have ecj:=fP.at bW;have tj:10≤os.length*10-j*10:=by omega
   have j64:j≤64:=by omega
   have J7:aad os k d j=(!(d.testBit j&&before os[k] os[j]) && !(!d.testBit j&&decide (0≤os[j].e)&&before os[j] os[k])):=by unfold aad;rw[pS bW,pS hk]
   have WT:(eO os[j]).all AV.aT=true:=wG.2 (fP.cell _);have abj:=ajh (k:=j) hd;simp[ki,g19,g20,v7];simp[rY,g18,g20,bW,hr,tj,ecj,ZE,QS,WT];have e3:=E0 h2 aN (.cells (eO os[j]) .fix);have bo3:ae aN (aw aN (some (.cells (eO os[j]) .fix)) h2)=some (.cells (eO os[j]) .fix):=by simp
   have RZ:ae bj (aw aN (some (.cells (eO os[j]) .fix)) h2)=some (.cells (jB X i (.sl (ag eO os) os.length 10 .any) s0 en) .fix):=by rw[e3.g bj (by omega)];exact Yn
   have Iy:=e2.trans e3;generalize aw aN (some (.cells (eO os[j]) .fix)) h2=h3 at *;have fail:aad os k d j=false→∀h' nx',Ext h nx h' nx'→(Vu os k d=false∧Ext h nx h' nx'):=fun hf h' nx' e'=>⟨by rw[CX,aaf bW hf],e'⟩;have next:∀(aJ:T AV) (h':T ah) (nx':Key),ae (K 0) aJ=some (.ptr bj 0)→ae (K 1) aJ=some (I k)→ae (K 2) aJ=some (I d)→ae (K 18) aJ=some (.sl (ag eO os) os.length 10 .any)→ae (K 19) aJ=some (I os.length)→ae (K 20) aJ=some (I j)→ae bj h'=some (.cells (jB X i (.sl (ag eO os) os.length 10 .any) s0 en) .fix)→Ext h nx h' nx'→aad os k d j=true→
     lA C (aQ (fun tm h' nx'=>∃m,m<os.length-j∧TiI X os (jB X i (.sl (ag eO os) os.length 10 .any) s0 en) (.sl (ag eO os) os.length 10 .any) k d bj h nx m tm h' nx') (aC 0 (aQ (gn C (.seq (.ops jL) .ret) (bZ [.tmp (K 6)] fun o h' nx'=>o=.ret (.bool (Vu os k d))∧Ext h nx h' nx')) (bZ [.tmp (K 6)] fun o h' nx'=>o=.ret (.bool (Vu os k d))∧Ext h nx h' nx')))) kj aJ h' nx':=by
    intro aJ h' nx' q0 q1 q2 q18 q19 q20 b' e' vH;simp[kj,q20];rw[aB (by omega) (by omega)];exact⟨os.length-(j+1),by omega,j+1,rfl,by omega,by simp[q0],by simp[q1],by simp[q2],by simp[q18],by simp[q19],by simp,b',e',aag hq vH⟩
   cases hbj:d.testBit j with
   |true=>
    rw[hbj,if_pos rfl]at abj;rw[hbj]at J7;simp[kl,g2,O0,j64,abj];simp[gD,g0,g1,RZ,jB,bo3,hk,hr,tk,eck,QS,ZE,rB,ait];refine(Vv S os[k] os[j] _ _).mono ?_;rintro o h4 jZ ⟨rfl,e4⟩;have bj4:ae bj h4=some (.cells (jB X i (.sl (ag eO os) os.length 10 .any) s0 en) .fix):=by rw[e4.g bj (by omega)];exact RZ
    cases qx:before os[k] os[j]with
    |true=>rw[qx]at J7;simp;simp[ko];exact fail (by rw[J7];rfl) _ _ (Iy.trans e4)
    |false=>rw[qx]at J7;simp;refine next _ _ _ ?_ ?_ ?_ ?_ ?_ ?_ bj4 (Iy.trans e4) (by rw[J7];rfl)<;>simp[g0,g1,g2,g18,g19,g20]
   |false=>
    rw[hbj,if_neg (by simp)]at abj;rw[hbj]at J7;simp[kl,g2,O0,j64,abj];by_cases he:os[j].e<0
    ·have he2:¬0≤os[j].e:=by omega
     simp[he2]at J7;have e2':(eO os[j])[2]?=some (I os[j].e):=rfl;simp[gD,g0,g1,bo3,e2',he];refine next _ _ _ ?_ ?_ ?_ ?_ ?_ ?_ RZ Iy J7<;>simp[g0,g1,g2,g18,g19,g20]
    ·have he2:0≤os[j].e:=by omega
     simp[he2]at J7;have e2':(eO os[j])[2]?=some (I os[j].e):=rfl;simp[gD,g0,g1,RZ,jB,bo3,hk,hr,tk,eck,QS,ZE,rB,ait,e2',he];refine(Vv S os[j] os[k] _ _).mono ?_;rintro o h4 jZ ⟨rfl,e4⟩;have bj4:ae bj h4=some (.cells (jB X i (.sl (ag eO os) os.length 10 .any) s0 en) .fix):=by rw[e4.g bj (by omega)];exact RZ
     cases qx:before os[j] os[k]with
     |true=>rw[qx]at J7;simp;simp[ko];exact fail (by rw[J7];rfl) _ _ (Iy.trans e4)
     |false=>rw[qx]at J7;simp;refine next _ _ _ ?_ ?_ ?_ ?_ ?_ ?_ bj4 (Iy.trans e4) (by rw[J7];rfl)<;>simp[g0,g1,g2,g18,g19,g20]
  ·have xM:j=os.length:=by omega
   subst xM;have fin:Vu os k d=true:=by rw[CX];exact Vw hq
   simp[ki,g19,g20];simp[jL];exact⟨fin,e2⟩
end Ln
namespace Go.Sx
def ajw(ds:List Key):List YS:=ds.map YS.coll
abbrev rp:=Ex→List Key→T AV→T ah→Key→Prop
def tB(af:nN)(ds:List Key):nN:={af with dfs:=ajw ds++af.dfs}
def aDb(Q:rp)(af:nN)(k:List dD)(cs:List nN)(m:AM):Prop:=∃e ds ay h' nx' fr,Q e ds ay h' nx'∧Aft (tB af ds) k e ay fr∧m=⟨fr,cs,h',nx'⟩
def VI(C:bQ)(x:dD)(Q:rp)(ds:List Key)(tm:T AV)(h:T ah)(nx:Key):Prop:=
 ∀(af:nN) (k:List dD) (cs:List nN),af.mode=.run→af.vW=none→Ev C (aDb Q af k cs) ⟨{tB af ds with tm:=tm,todo:=x ::k},cs,h,nx⟩
abbrev V(C:bQ)(c:aI):rp→List Key→T AV→T ah→Key→Prop:=VI C (.code c)
section
variable{C:bQ}{Q Q':rp}{ds:List Key}{tm:T AV}{h:T ah}{nx:Key}
theorem VI.mono{x:dD}(hw:VI C x Q ds tm h nx)(hq:∀e ds tm h nx,Q e ds tm h nx→Q' e ds tm h nx):VI C x Q' ds tm h nx:=by intro af k cs h1 h2;refine(hw af k cs h1 h2).mono ?_;rintro m ⟨e,Cx,ay,h',nx',fr,q,a,t⟩;exact⟨e,Cx,ay,h',nx',fr,hq _ _ _ _ _ q,a,t⟩
theorem V.adZ{c:aI}(hw:W C c (fun e tm h nx=>Q e ds tm h nx) tm h nx):V C c Q ds tm h nx:=by intro af k cs h1 h2;refine(hw (tB af ds) k cs h1 trivial).mono ?_;rintro m ⟨e,ay,h',nx',fr,q,a,t⟩;exact⟨e,ds,ay,h',nx',fr,q,a,t⟩
def aaQ(Wp:List Key→T AV→T ah→Key→Prop)(Q:rp):rp:=fun e ds tm h nx=>match e with
 |.norm=>Wp ds tm h nx
 |e=>Q e ds tm h nx
def xg(id:Nat)(Q:rp):rp:=fun e ds tm h nx=>match e with
 |.exit j=>if j=id then Q .norm ds tm h nx else Q (.exit j) ds tm h nx
 |e=>Q e ds tm h nx
theorem V.seq{a b:aI}(hw:V C a (aaQ (V C b Q) Q) ds tm h nx):V C (.seq a b) Q ds tm h nx:=by
 intro af k cs h1 h2;refine .step (m':=⟨{tB af ds with tm:=tm,todo:=.code a ::.code b ::k},cs,h,nx⟩) (bB h1 rfl) ((hw af (.code b ::k) cs h1 h2).bind ?_);rintro m ⟨e,Cx,ay,h',nx',fr,q,ha,rfl⟩;cases e with
 |norm=>cases ha;exact q af k cs h1 h2
 |ret=>exact .now ⟨.ret,Cx,ay,h',nx',fr,q,ha,rfl⟩
 |exit id=>obtain⟨k2,e1,e2⟩:=ha;exact .now ⟨.exit id,Cx,ay,h',nx',fr,q,⟨k2,e1,e2⟩,rfl⟩
 |pan a=>exact .now ⟨.pan a,Cx,ay,h',nx',fr,q,ha,rfl⟩
theorem V.cond{x:PX}{a b:aI}{t:Bool}(hx:x.at tm=some (.bool t))(hw:V C (if t then a else b) Q ds tm h nx):V C (.cond x a b) Q ds tm h nx:=by intro af k cs h1 h2;refine .step (m':=⟨{tB af ds with tm:=tm,todo:=.code (if t then a else b) ::k},cs,h,nx⟩) (bB h1 ?_) (hw af k cs h1 h2);simp only[cK,hx];cases t<;>rfl
theorem V.block{id:Nat}{c:aI}(hw:V C c (xg id Q) ds tm h nx):V C (.block id c) Q ds tm h nx:=by
 intro af k cs h1 h2;refine .step (m':=⟨{tB af ds with tm:=tm,todo:=.code c ::.inBlock id ::k},cs,h,nx⟩) (bB h1 rfl) ((hw af (.inBlock id ::k) cs h1 h2).bind ?_);rintro m ⟨e,Cx,ay,h',nx',fr,q,ha,rfl⟩;cases e with
 |norm=>cases ha;exact .step (m':=⟨{tB af Cx with tm:=ay,todo:=k},cs,h',nx'⟩) (bB h1 rfl) (.now ⟨.norm,Cx,ay,h',nx',_,q,rfl,rfl⟩)
 |ret=>exact .now ⟨.ret,Cx,ay,h',nx',fr,q,ha,rfl⟩
 |exit j=>
  obtain⟨k2,e1,rfl⟩:=ha;by_cases hj:j=id
  ·subst hj;simp only[xg,if_true]at q;refine .step (m':=⟨{tB af Cx with tm:=ay,todo:=k},cs,h',nx'⟩) (bB h1 ?_) (.now ⟨.norm,Cx,ay,h',nx',_,q,rfl,rfl⟩);simp only[cK,e1,nT,beqN_eq,decide_true,cond_true]
  ·simp only[xg,if_neg hj]at q;refine .now ⟨.exit j,Cx,ay,h',nx',_,q,⟨k2,?_,rfl⟩,rfl⟩;rw[e1];simp only[nT,beqN_eq,show ¬id=j from fun e=>hj e.symm,decide_false,cond_false]
 |pan a=>exact .now ⟨.pan a,Cx,ay,h',nx',fr,q,ha,rfl⟩
theorem V.dy{c:aI}(Inv:Nat→List Key→T AV→T ah→Key→Prop){n:Nat}(hi:Inv n ds tm h nx)
  (hw:∀n ds tm h nx,Inv n ds tm h nx→V C c (aaQ (fun ds tm h nx=>∃m,m<n∧Inv m ds tm h nx) Q) ds tm h nx):V C (.loop c) Q ds tm h nx:=by
 have key:∀(n:Nat) (ds:List Key) (tm:T AV) (h:T ah) (nx:Key),Inv n ds tm h nx→VI C (.inLoop c) Q ds tm h nx:=by
  intro n
  induction n using Nat.strongRecOn with
  |_ n ih=>
   intro ds tm h nx hi af k cs h1 h2;refine .step (m':=⟨{tB af ds with tm:=tm,todo:=.code c ::.inLoop c ::k},cs,h,nx⟩) (bB h1 rfl) ((hw n ds tm h nx hi af (.inLoop c ::k) cs h1 h2).bind ?_);rintro m ⟨e,Cx,ay,h',nx',fr,q,ha,rfl⟩;cases e with
   |norm=>cases ha;obtain⟨m,hm,him⟩:=q;exact ih m hm Cx ay h' nx' him af k cs h1 h2
   |ret=>exact .now ⟨.ret,Cx,ay,h',nx',fr,q,ha,rfl⟩
   |exit id=>obtain⟨k2,e1,e2⟩:=ha;exact .now ⟨.exit id,Cx,ay,h',nx',fr,q,⟨k2,e1,e2⟩,rfl⟩
   |pan a=>exact .now ⟨.pan a,Cx,ay,h',nx',fr,q,ha,rfl⟩
 intro af k cs h1 h2;refine .step (m':=⟨{tB af ds with tm:=tm,todo:=.code c ::.inLoop c ::k},cs,h,nx⟩) (bB h1 rfl) ((hw n ds tm h nx hi af (.inLoop c ::k) cs h1 h2).bind ?_);rintro m ⟨e,Cx,ay,h',nx',fr,q,ha,rfl⟩;cases e with
 |norm=>cases ha;obtain⟨m,hm,him⟩:=q;exact key m Cx ay h' nx' him af k cs h1 h2
 |ret=>exact .now ⟨.ret,Cx,ay,h',nx',fr,q,ha,rfl⟩
 |exit id=>obtain⟨k2,e1,e2⟩:=ha;exact .now ⟨.exit id,Cx,ay,h',nx',fr,q,⟨k2,e1,e2⟩,rfl⟩
 |pan a=>exact .now ⟨.pan a,Cx,ay,h',nx',fr,q,ha,rfl⟩
def aK0(Q:rp):Option aI→List Key→T AV→T ah→Key→Prop
 |none,ds,tm,h,nx=>Q .norm ds tm h nx
 |some .ret,ds,tm,h,nx=>Q .ret ds tm h nx
 |some (.exit i),ds,tm,h,nx=>Q (.exit i) ds tm h nx
 |some _,_,_,_,_=>False
def ajq(Q:rp)(d l:Key)(fn:Nat)(tm:T AV)(res:List RV)(ps:List Key)(a b:aI)(ds:List Key):Out→T ah→Key→Prop:=fun o h' nx'=>∃v,o=.ret v∧∃st pd,ae l h'=some (.loop st pd fn tm res ps a b d)∧st≠.busy∧aK0 Q pd (d ::ds) tm (aw l (some (.loop .exhausted pd fn tm res ps a b d)) h') nx'
noncomputable def rq(fn:Nat)(tm:T AV)(res:List RV)(ps:List Key)(a b:aI)(h:T ah)(nx:Key):T ah:=aw nx.succ (some (.loop .ready none fn tm res ps a b nx)) (aw nx (some (.dfs false)) h)
theorem V.rangeF{f:PX}{ps:List Key}{a b:aI}{g:Nat}{first cap:List AV}(hf:f.at tm=some (.fn g first cap))(hs:∀l h nx,C.sum g l h nx=none)
  (hc:∀fn res,aG C g (first ++ .yld nx.succ ::cap) (rq fn tm res ps a b h nx) nx.succ.succ (ajq Q nx nx.succ fn tm res ps a b ds)):V C (.rangeF f ps a b) Q ds tm h nx:=by
 intro af k cs h1 h2;rcases hc af.fn af.res with⟨v,h',nx',e,_⟩|⟨_,p,hp,gM⟩
 ·rw[hs]at e;cases e
 ·refine .step (m':=⟨ai g p (first ++ .yld nx.succ ::cap),{tB af (nx ::ds)with tm:=tm,todo:=.inRF nx.succ ::k} ::cs,rq af.fn tm af.res ps a b h nx,nx.succ.succ⟩) (bB h1 ?_) ((gM _).bind ?_)
  ·have hp':(bif Nat.beq (Key.gj 12 g).toNat g then ae (Key.gj 12 g) C.fns else none)=some p:=hp;have hr:(tB af ds).vW=none:=h2;simp only[cK,hf,hr,sTCe,H7,hp',EN];have QM:(tB af (nx ::ds)).vW=none:=h2;rw[QM];rfl
  ·rintro m2 ⟨o,h',nx',OB,h3,⟨v,rfl,st,pd,hl,ei,hq⟩,hfn,hdf,⟨hd,Sa,l,QN,rfl,rfl⟩,rfl⟩;have e1:jP C ⟨OB,{tB af (nx ::ds)with tm:=tm,todo:=.inRF nx.succ ::k} ::cs,h3,nx'⟩=.next ⟨{tB af (nx ::ds)with tm:=tm,todo:=.endRF nx.succ ::k},cs,(dc (C.mY g) l h3).2,nx'⟩:=by unfold jP;simp only[Sa];unfold AN;simp only[hd,Sa,QN,hfn,yV];unfold MX;simp only[hdf,cond_false,dw]
   refine .step e1 ?_;refine .step (m':=⟨{tB af (nx ::ds)with tm:=tm,todo:=(pd.map dD.code).toList++k},cs,aw nx.succ (some (.loop .exhausted pd af.fn tm af.res ps a b nx)) (dc (C.mY g) l h3).2,nx'⟩) (bB h1 ?_) ?_
   ·cases st with
    |busy=>exact absurd rfl ei
    |_=>simp only[cK,hl,sTCe];cases pd<;>rfl
   ·cases pd with
    |none=>exact .now ⟨.norm,_,_,_,_,_,hq,rfl,rfl⟩
    |some c=>
     cases c with
     |ret=>exact .now ⟨.ret,_,_,_,_,_,hq,⟨k,rfl⟩,rfl⟩
     |exit i=>exact .now ⟨.exit i,_,_,_,_,_,hq,⟨k,rfl,rfl⟩,rfl⟩
     |_=>exact hq.elim
end
noncomputable def RC(C:bQ):aI→rp→List Key→T AV→T ah→Key→Prop
 |.seq a b,Q,ds,tm,h,nx=>RC C a (aaQ (RC C b Q) Q) ds tm h nx
 |.cond x a b,Q,ds,tm,h,nx=>match x.at tm with
  |some (.bool t)=>(t=true→RC C a Q ds tm h nx)∧(t=false→RC C b Q ds tm h nx)
  |_=>False
 |.block id c,Q,ds,tm,h,nx=>RC C c (xg id Q) ds tm h nx
 |.loop c,Q,ds,tm,h,nx=>V C (.loop c) Q ds tm h nx
 |.rangeF f ps a b,Q,ds,tm,h,nx=>V C (.rangeF f ps a b) Q ds tm h nx
 |.skip,Q,ds,tm,h,nx=>Q .norm ds tm h nx
 |.exit id,Q,ds,tm,h,nx=>Q (.exit id) ds tm h nx
 |.ret,Q,ds,tm,h,nx=>Q .ret ds tm h nx
 |.ops l,Q,ds,tm,h,nx=>lA C (fun e tm h nx=>Q e ds tm h nx) l tm h nx
 |.staged l d,Q,ds,tm,h,nx=>wpS C (fun e tm h nx=>Q e ds tm h nx) d l [] tm h nx
section
variable{C:bQ}
theorem vD:∀{c:aI} {Q:rp} {ds:List Key} {tm:T AV} {h:T ah} {nx:Key},RC C c Q ds tm h nx→V C c Q ds tm h nx
 |.seq a b,Q,ds,tm,h,nx,hw=>by
  have hw:RC C a (aaQ (RC C b Q) Q) ds tm h nx:=hw;refine V.seq ((vD hw).mono fun e ds tm h nx hq=>?_);cases e with
  |norm=>exact vD hq
  |_=>exact hq
 |.cond x a b,Q,ds,tm,h,nx,hw=>by
  unfold RC at hw;split at hw
  ·rename_i t hx;refine V.cond hx ?_;cases t with
   |true=>exact vD (hw.1 rfl)
   |false=>exact vD (hw.2 rfl)
  ·exact hw.elim
 |.block id c,Q,ds,tm,h,nx,hw=>by have hw:RC C c (xg id Q) ds tm h nx:=hw;exact V.block (vD hw)
 |.loop c,Q,ds,tm,h,nx,hw=>hw
 |.rangeF f ps a b,Q,ds,tm,h,nx,hw=>hw
 |.skip,Q,ds,tm,h,nx,hw=>V.adZ (W.skip hw)
 |.exit id,Q,ds,tm,h,nx,hw=>V.adZ (W.exit hw)
 |.ret,Q,ds,tm,h,nx,hw=>V.adZ (W.ret hw)
 |.ops l,Q,ds,tm,h,nx,hw=>V.adZ (W.ops (Ek hw))
 |.staged l d,Q,ds,tm,h,nx,hw=>V.adZ (W.staged (El hw))
variable(Q:rp)(ds:List Key)(tm:T AV)(h:T ah)(nx:Key)
@[simp] theorem aEQ(a b:aI):RC C (.seq a b) Q ds tm h nx=RC C a (aaQ (RC C b Q) Q) ds tm h nx:=yL Iff.rfl
@[simp] theorem aDc(x:PX)(a b:aI):RC C (.cond x a b) Q ds tm h nx=(match x.at tm with
  |some (.bool t)=>(t=true→RC C a Q ds tm h nx)∧(t=false→RC C b Q ds tm h nx)
  |_=>False):=yL Iff.rfl
@[simp] theorem az8(id:Nat)(c:aI):RC C (.block id c) Q ds tm h nx=RC C c (xg id Q) ds tm h nx:=yL Iff.rfl
@[simp] theorem aDd(c:aI):RC C (.loop c) Q ds tm h nx=V C (.loop c) Q ds tm h nx:=yL Iff.rfl
@[simp] theorem ayu(f:PX)(ps:List Key)(a b:aI):RC C (.rangeF f ps a b) Q ds tm h nx=V C (.rangeF f ps a b) Q ds tm h nx:=yL Iff.rfl
@[simp] theorem aDe:RC C .skip Q ds tm h nx=Q .norm ds tm h nx:=yL Iff.rfl
@[simp] theorem aDf(id:Nat):RC C (.exit id) Q ds tm h nx=Q (.exit id) ds tm h nx:=yL Iff.rfl
@[simp] theorem aER:RC C .ret Q ds tm h nx=Q .ret ds tm h nx:=yL Iff.rfl
def atD(Q:rp)(ds:List Key):dh:=fun e tm h nx=>Q e ds tm h nx
@[simp] theorem aK1(e:Ex):atD Q ds e tm h nx=Q e ds tm h nx:=yL Iff.rfl
@[simp] theorem aES(l:List aA):RC C (.ops l) Q ds tm h nx=lA C (atD Q ds) l tm h nx:=yL Iff.rfl
@[simp] theorem ayv(l:List aS)(d:SD):RC C (.staged l d) Q ds tm h nx=wpS C (atD Q ds) d l [] tm h nx:=yL Iff.rfl
@[simp] theorem az9(Wp:List Key→T AV→T ah→Key→Prop):aaQ Wp Q .norm ds tm h nx=Wp ds tm h nx:=yL Iff.rfl
@[simp] theorem aDg(Wp:List Key→T AV→T ah→Key→Prop):aaQ Wp Q .ret ds tm h nx=Q .ret ds tm h nx:=yL Iff.rfl
@[simp] theorem aAa(Wp:List Key→T AV→T ah→Key→Prop)(i:Nat):aaQ Wp Q (.exit i) ds tm h nx=Q (.exit i) ds tm h nx:=yL Iff.rfl
@[simp] theorem aDh(Wp:List Key→T AV→T ah→Key→Prop)(a:AV):aaQ Wp Q (.pan a) ds tm h nx=Q (.pan a) ds tm h nx:=yL Iff.rfl
@[simp] theorem avu(j:Nat):xg j Q .norm ds tm h nx=Q .norm ds tm h nx:=yL Iff.rfl
@[simp] theorem ayw(j:Nat):xg j Q .ret ds tm h nx=Q .ret ds tm h nx:=yL Iff.rfl
@[simp] theorem avv(j i:Nat):xg j Q (.exit i) ds tm h nx=if i=j then Q .norm ds tm h nx else Q (.exit i) ds tm h nx:=yL Iff.rfl
@[simp] theorem ayx(j:Nat)(a:AV):xg j Q (.pan a) ds tm h nx=Q (.pan a) ds tm h nx:=yL Iff.rfl
end
def apV(res:List RV)(R:Out→T ah→Key→Prop):rp:=fun e ds tm h nx=>match e with
 |.norm|.ret=>ds.Nodup∧(∀b∈ds,ae b h=some (.dfs false))∧∀h2:T ah,(∀b,b∉ds→ae b h2=ae b h)→∃l,resultsA h2 tm res=some l∧R (.ret (pG (bG (aM 9999) l h2).1)) (bG (aM 9999) l h2).2 nx
 |_=>False
theorem RD{C:bQ}{S:AM→Prop}:∀(ds:List Key) (fr:nN) (cs:List nN) (h:T ah) (nx:Key),ds.Nodup→(∀b∈ds,ae b h=some (.dfs false))→fr.mode=.ret→fr.dfs=ajw ds→
  (∀h2:T ah,(∀b,b∉ds→ae b h2=ae b h)→Ev C S ⟨{fr with dfs:=[]},cs,h2,nx⟩)→Ev C S ⟨fr,cs,h,nx⟩
 | [],fr,cs,h,nx,_,_,_,hd,hk=>by
  have:=hk h (fun _ _=>rfl);have e:({fr with dfs:=[]}:nN)=fr:=by cases fr;cases hd;rfl
  rw[e]at this;exact this
 |b ::ds,fr,cs,h,nx,hn,hb,hm,hd,hk=>by
  rw[List.nodup_cons]at hn;refine .step (m':=⟨{fr with dfs:=ajw ds},cs,aw b (some (.dfs true)) h,nx⟩) ?_ (RD ds _ cs _ nx hn.2 (fun c hc=>?_) hm rfl fun h2 h3=>?_)
  ·have hd:fr.dfs=.coll b ::ajw ds:=hd;unfold jP;simp only[hm];unfold AN;simp only[hd,hb b (by simp),sTCe,hm]
  ·rw[aU _ _ _ _ (fun e=>hn.1 (by rw[←e];exact hc))];exact hb c (by simp[hc])
  ·refine hk h2 fun c hc=>?_;simp only[OG,not_or]at hc;rw[h3 c hc.2,aU _ _ _ _ hc.1]
theorem aG.aKW{C:bQ}{f:Nat}{p:fe}{l:List AV}{h:T ah}{nx:Key}{R:Out→T ah→Key→Prop}(hs:C.sum f l h nx=none)(hp:IP C f=some p)(hr:C.mY f=false)(hw:V C p.body (apV p.res R) [] (iN l (K 0) .nil) h nx):aG C f l h nx R:=by
 refine .inr ⟨hs,p,hp,fun cs=>(hw (ai f p l) [] cs rfl rfl).bind ?_⟩;have fin:∀(ay:T AV) (t:List dD) (ds:List Key) (h':T ah) (nx':Key),ds.Nodup→(∀b∈ds,ae b h'=some (.dfs false))→(∀h2:T ah,(∀b,b∉ds→ae b h2=ae b h')→∃l,resultsA h2 ay p.res=some l∧R (.ret (pG (bG (aM 9999) l h2).1)) (bG (aM 9999) l h2).2 nx')→
   Ev C (aCH C f R cs) ⟨{tB (ai f p l) ds with tm:=ay,todo:=t,mode:=.ret},cs,h',nx'⟩:=by
  intro ay t ds h' nx' q1 q2 q3;refine RD ds _ cs h' nx' q1 q2 rfl (List.append_nil _) fun h2 h3=>?_;obtain⟨l1,hl,hR⟩:=q3 h2 h3;refine .now ⟨_,_,nx',_,h2,hR,rfl,rfl,⟨rfl,rfl,l1,hl,?_,?_⟩,rfl⟩<;>rw[hr]<;>rfl
 rintro m ⟨e,ds,ay,h',nx',fr,q,ha,rfl⟩;cases e with
 |norm=>cases ha;exact .step (m':=⟨{tB (ai f p l) ds with tm:=ay,todo:=[],mode:=.ret},cs,h',nx'⟩) (bB rfl rfl) (fin _ _ _ _ _ q.1 q.2.1 q.2.2)
 |ret=>obtain⟨t',rfl⟩:=ha;exact .step (m':=⟨{tB (ai f p l) ds with tm:=ay,todo:=.code .ret ::t',mode:=.ret},cs,h',nx'⟩) (bB rfl rfl) (fin _ _ _ _ _ q.1 q.2.1 q.2.2)
 |exit id=>exact q.elim
 |pan a=>exact q.elim
end Go.Sx
