/- A part of the proof. No condition. -/
import Derived.Test.YtecbfpngkfdkoaaGreatP27
import Derived.Test.YtecbfpngkfdkoaaGreatP7
import Derived.Lib.LaidTab
set_option linter.unusedSimpArgs false
set_option linter.unusedVariables false
set_option linter.unusedSectionVars false
namespace Ln
open Go.Sx Go
theorem Lb:∀(k n:Nat),n<128^(k+1)→∀b∈zj k n,b<256
 |0,n,h,b,hb=>by simp[zj]at hb;omega
 |k+1,n,h,b,hb=>by
  rw[zj]at hb;split at hb
  ·simp at hb;omega
  ·simp only[zk]at hb;rcases hb with rfl|hb
   ·omega
   ·refine Lb k (n / 128) ?_ b hb;rw[Nat.pow_succ]at h;omega
theorem sX{n:Nat}(h:n<18446744073709551616):∀b∈vu n,b<256:=by
 refine Lb 10 n ?_;have:(128:Nat)^(10+1)=151115727451828646838272:=by decide
 omega
theorem N4:∀(n c b:Nat),b∈sb n c→b<256
 |0,c,b,h=>by simp[sb]at h
 |n+1,c,b,h=>by
  rw[sb]at h;rcases zk.1 h with rfl|h
  ·omega
  ·exact N4 n _ b h
mutual
theorem HV:∀v:Vt,DN v→ku v=true→bV v<1000000→∀b∈bT v,b<256
 |.mk k n a b l,hi,hf,hs,x,hx=>by
  obtain⟨i1,i2,i3,i4,i5⟩:=hi;simp only[ku,fa]at hf;rw[bV]at hs;have Cr:=kS l;have h1:=sX (BH i1.1 i1.2);have h2:=sX (BH i2.1 i2.2);have h3:=sX (BH (n:=(l.length:Int)) (by omega) (by omega));have h4:=sX i3;have h5:=FW l i5 hf.2 (by omega);have h6:=N4 a b;rw[bT]at hx;rcases List.mem_append.1 hx with hx|hx
  ·exact h1 x hx
  ·split at hx
   ·exact h2 x hx
   ·split at hx
    ·rename_i k1;have:=hf.1;unfold iT at this;rw[if_neg ‹_›,if_pos k1]at this;simp only[fa,Bool.or_eq_true,decide_eq_true_eq]at this;simp at hx;omega
    ·split at hx
     ·rcases List.mem_append.1 hx with hx|hx
      ·exact h3 x hx
      ·exact h5 x hx
     ·simp only[List.mem_append]at hx;rcases hx with(hx|hx)|hx|hx
      ·exact h4 x hx
      ·exact h6 x hx
      ·exact h3 x hx
      ·exact h5 x hx
theorem FW:∀l:List Vt,II l→fH l=true→bS l<1000000→∀b∈bj l,b<256
 | [],_,_,_,x,hx=>by simp[bj]at hx
 |v ::l,hi,hf,hs,x,hx=>by
  simp only[fH,fa]at hf;rw[bS]at hs;rw[bj]at hx;rcases List.mem_append.1 hx with hx|hx
  ·exact HV v hi.1 hf.1 (by omega) x hx
  ·exact FW l hi.2 hf.2 (by omega) x hx
end
theorem HF{l:List Cv}(iR:OkF l)(hl:l.length<1000000)(hs:∀c∈l,(bT c.2).length<1000000):∀b∈mT l,b<256:=by
 intro b hb;unfold mT at hb;rcases List.mem_append.1 hb with hb|hb
 ·exact sX (BH (by omega) (by omega)) b hb
 ·obtain⟨c,hc,hb⟩:=List.mem_flatMap.1 hb;obtain⟨o1,o2,o3⟩:=iR c hc;obtain⟨f1,f2,f3⟩:=sx.1 o3;unfold fR at hb;rcases List.mem_append.1 hb with hb|hb
  ·exact sX (BH o1.1 o1.2) b hb
  ·rcases List.mem_append.1 hb with hb|hb
   ·exact sX (by have:=hs c hc;omega) b hb
   ·exact HV _ o2 f1 (by omega) b hb
def OG(l:List Cv):Prop:=∀c∈l,eB c.1∧On c.2 64
theorem OG.f{l:List Cv}(h:OG l):OkF l:=fun c hc=>by obtain⟨h1,h2,h3,h4,h5⟩:=h c hc;exact⟨h1,h2,sx.2 ⟨h3,h4,by omega⟩⟩
theorem OG.len{l:List Cv}(h:OG l):∀c∈l,(bT c.2).length≤3840:=fun c hc=>by obtain⟨h1,h2,h3,h4,h5⟩:=h c hc;have:=Lc c.2 h3;omega
theorem OG.enc{l:List Cv}(h:OG l):(l.flatMap fR).length≤3870*l.length:=by
 induction l with
 |nil=>simp
 |cons c l ih=>have h1:=ih fun x hx=>h x (by simp[hx]);have h2:=h.len c (by simp);have h3:=lF (zz c.1);have h4:=lF (bT c.2).length;rw[List.flatMap_cons,fO,Ci,fR,fO,fO];omega
theorem OG.mT{l:List Cv}(h:OG l)(hl:l.length≤4):(mT l).length≤16000∧0<(Ln.mT l).length:=by have h1:=h.enc;have h2:=lF (zz l.length);have h3:=Mv (zz l.length);unfold Ln.mT;rw[fO];omega
theorem App.rd5{c:AV}{l:List Cv}{h:T ab}{nx n0:Key}(ha:App c (an ep l) l.length 5 h nx n0):Rd 5 c (an ep l) l.length h nx:=by
 rcases ha.is with⟨a1,a2,a3⟩|⟨b,a1,a2,a3,a4,a5⟩|⟨t,a1,a2,a3,a4⟩
 ·exact .inl ⟨a1,a2,a3⟩
 ·exact .inr (.inr ⟨b,_,a1,a2,a4,a5⟩)
 ·exact .inr (.inl ⟨_,a1⟩)
def aep(n:Nat)(h:T ab)(nx:Key)(tm:T AV)(m:Nat)(aD:T AV)(h':T ab)(nx':Key):Prop:=∃(j:Nat) (us:List Cv) (ca:AV),m=n-j∧j≤n∧us.length=j∧(∀i:Nat,i<5→ae (K i) aD=ae (K i) tm)∧ae (K 11) aD=some ca∧ae (K 12) aD=some (I j)∧App ca (an ep us) us.length 5 h' nx' nx∧OG us∧Ext h nx h' nx'
variable{C:cX}(S:tq C)
include S
theorem Uu{c:AV}{l:List Int}(hc:py 1 eI c l)(qs:∀n∈l,eB n){many:Int}(Ke:eB many){h:T ab}{nx:Key}{tm:T AV}{Q:cu}(f0:ae (K 0) tm=some c)(f1:ae (K 1) tm=some (I many))(f11:ae (K 11) tm=some .nils)(f12:ae (K 12) tm=some (I 0))
  (hQ:∀aD h' nx' us ca,us.length≤4→(∀i:Nat,i<5→ae (K i) aD=ae (K i) tm)→ae (K 11) aD=some ca→App ca (an ep us) us.length 5 h' nx' nx→OG us→Ext h nx h' nx'→Q .norm aD h' nx') :
  W C (.loop eR) (cz 0 Q) tm h nx:=by
 have qA:C.raw cQ=false:=S.nr (by decide);have qP:C.raw lU=false:=S.nr (by decide);have qV:C.raw jP=false:=S.nr (by decide);have Py:∀n H,aK n c H=(c,H):=fun n H=>hc.sg _ _;have hz:∀v n H,aO (aK n) (eV v) H=(eV v,H):=fun v n H=>aG (dq.sg v);have Ns:∀(c:Cv) n H,aO (aK n) (I c.1 ::eV c.2) H=(I c.1 ::eV c.2,H):=fun c n H=>aG (cV.sg c);have han:=L8 (m:=5) (by omega) many;refine W.hO (n:=Lx many 5) (aep (Lx many 5) h nx tm) ⟨0,[],.nils,by simp,by omega,rfl,fun _ _=>rfl,f11,f12,App.nil 5,fun c hc=>by simp at hc,Ext.refl _ _⟩ ?_;rintro m dT h1 nx1 ⟨j,us,ca,rfl,hj,Ok,hs,g11,g12,A,ok,E⟩;have g0:ae (K 0) dT=some c:=by rw[hs 0 (by omega)];exact f0
 have g1:ae (K 1) dT=some (I many):=by rw[hs 1 (by omega)];exact f1
 have n1:=E.n;refine W.of ?_;simp[eR];simp[oa,g1,g12,qA];refine(AR S Ke (m:=5) (by omega) (by omega)).mono ?_;rintro o h2 aP ⟨rfl,rfl,rfl⟩;by_cases eo:j<Lx many 5
 ·have nK:(j:Int)<Lx many 5:=by omega
  simp[g12,nK];simp[oc,g0,g11,g12,qP,Py];refine(QW S hc qs (i:=j) (m:=70) (by omega) (by omega)).mono ?_;rintro o h3 bu ⟨⟨k,rfl,hk⟩,rfl,rfl⟩;have hw1:aX .i64 ((k:Int)-3)=(k:Int)-3:=aJ (by omega) (by omega);have Qn:aX .i64 (3*(j:Int))=3*(j:Int):=aJ (by omega) (by omega);simp[g0,g11,g12,qV,Py,hw1,Qn];refine(Qr S hc qs (p:=3*j) (by omega)).mono ?_;rintro o h4 sw ⟨⟨v,rfl,hv⟩,e4⟩;have n4:=e4.n;have s4:=kTSu sw;have Gz:=cZ v;have XW:=ew v;have JH:=dI v;obtain⟨c6,h6,xC,ha,A6,n6,x1,x2⟩:=((A.ext e4).ext (E0 h4 sw (.cells (ep ((k:Int)-3,v)) .fix))).LV cV (by omega) (by omega) ((k:Int)-3,v);change appendTo 5 ca (I ((k:Int)-3) ::eV v) 1 (ar sw (some (.cells (I ((k:Int)-3) ::eV v) .fix)) h4) sw.succ=_ at ha;have hz3:∀n H,aO (aK n) (I ((k:Int)-3) ::eV v) H=(I ((k:Int)-3) ::eV v,H):=fun n H=>Ns ((k:Int)-3,v) n H;simp[-appendTo,g11,Gz,XW,JH,hz,hz3,ha];simp[od,g12];rw[aJ (by omega) (by omega)];refine⟨Lx many 5-(j+1),by omega,j+1,us ++ [((k:Int)-3,v)],c6,rfl,by omega,by rw[fO,Ok];rfl,?_,by simp,by simp,A6,?_,by omega,fun b hb=>by rw[x1 b hb,al (by omega),e4.g b (by omega)];exact E.g b hb⟩
  ·intro i hi;have e:∀j:Nat,5≤j→∀(v:Option AV) (t:T AV),ae (K i) (ar (K j) v t)=ae (K i) t:=fun j hj v t=>by rw[get_set_K,if_neg (by omega)]
   simp[e];exact hs i hi
  ·intro x hx;rcases List.mem_append.1 hx with hx|hx
   ·exact ok x hx
   ·simp at hx;subst hx;exact⟨⟨by omega,by omega⟩,hv⟩
 ·have nK:¬(j:Int)<Lx many 5:=by omega
  simp[g12,nK];refine hQ _ _ _ us ca (by omega) ?_ (by simp[g11]) A ok E;intro i hi;have e:∀j:Nat,5≤j→∀(v:Option AV) (t:T AV),ae (K i) (ar (K j) v t)=ae (K i) t:=fun j hj v t=>by rw[get_set_K,if_neg (by omega)]
  simp[e];exact hs i hi
end Ln
namespace Ln
open Go.Sx Go
theorem zd{i j:Nat}(h:i<j)(v:Option AV)(t:T AV):ae (K i) (ar (K j) v t)=ae (K i) t:=by rw[get_set_K,if_neg (by omega)]
theorem WN{c:AV}{l:List Nat}(h:py 1 eY c l)(hl:0<l.length):c=.sl (an eY l) l.length 1 .any:=by
 rcases h with⟨_,e⟩|e
 ·rw[e]at hl;simp at hl
 ·exact e
variable{C:cX}(S:tq C)
include S
theorem Zc{ca:AV}{us:List Cv}{h:T ab}{nx n0:Key}{tm:T AV}(Uv:us.length≤4)(ok:OG us)(A:App ca (an ep us) us.length 5 h nx n0)(f11:ae (K 11) tm=some ca){Q:cu}{P:av}
  (hQ:∀aD h' nx' cb cc,py 1 eY cb (mT us)→py 1 eY cc (mT us)→(∀i:Nat,i<13→ae (K i) aD=ae (K i) tm)→ae (K 13) aD=some cb→ae (K 14) aD=some (I 0)→ae (K 15) aD=some cc→ae (K 16) aD=some (I 0)→Ext h nx h' nx'→il C P Q aD h' nx') :
  il C ((av.ops iM).seq ((av.ops iN).seq P)) Q tm h nx:=by
 have q1:C.raw jS=true:=S.rw (by decide);have q2:C.raw dD=false:=S.nr (by decide);have q3:C.raw iv=true:=S.rw (by decide);obtain⟨hb1,GC⟩:=ok.mT Uv;simp;simp[iM,f11,q1];refine(Vq S (by omega) (App.rd5 A)).mono ?_;rintro o h1 nx1 ⟨⟨cp,rfl,hp⟩,e1⟩;have hzp:∀n H,aK n cp H=(cp,H):=fun n H=>hp.sg _ _;simp[q2,hzp];refine(I4 S hp ok.f (by omega)).mono ?_;rintro o h2 aP ⟨⟨cb,rfl,HG⟩,e2⟩;simp;simp[iN,f11,q3];refine(Ov S (App.rd5 ((A.ext e1).ext e2)) ok.f (by omega)).mono ?_;rintro o h3 bu ⟨⟨cc,rfl,HH⟩,e3⟩;simp;refine hQ _ _ _ cb cc HG HH (fun i hi=>?_) (by simp) (by simp) (by simp) (by simp) (e1.trans (e2.trans e3));have e:∀j:Nat,13≤j→∀(v:Option AV) (t:T AV),ae (K i) (ar (K j) v t)=ae (K i) t:=fun j hj v t=>zd (by omega) v t;simp[e]
theorem Zd{cb cc:AV}{bs:List Nat}{h:T ab}{nx:Key}{tm:T AV}(HG:py 1 eY cb bs)(HH:py 1 eY cc bs)(hp:0<bs.length)(hl:bs.length≤100000)(f13:ae (K 13) tm=some cb)(f14:ae (K 14) tm=some (I 0))(f15:ae (K 15) tm=some cc)(f16:ae (K 16) tm=some (I 0)){Q:cu}{P T1 T2:av}
  (hQ:∀aD h' nx',(∀i:Nat,i<28→ae (K i) aD=ae (K i) tm)→Ext h nx h' nx'→il C P Q aD h' nx') :
  il C (((av.ops iO).seq (.cond (.t IB) T1 .skip)).seq (((av.ops gK).seq (.cond (.t PD) T2 .skip)).seq P)) Q tm h nx:=by
 have q1:C.raw b5=true:=S.rw (by decide);have cL:((bs.length:Int)==0)=false:=bq (by omega);simp;simp[iO,f13,f14,f15,f16,q1];refine(J0 S.mg HG (JS.of HH) (by omega)).mono ?_;rintro o h1 nx1 ⟨rfl,e1⟩;have ad8:=f13;rw[WN HG hp]at ad8;simp;simp[gK,ad8,f14,cL];refine hQ _ _ _ (fun i hi=>?_) e1;have e:∀j:Nat,28≤j→∀(v:Option AV) (t:T AV),ae (K i) (ar (K j) v t)=ae (K i) t:=fun j hj v t=>zd (by omega) v t;simp[e]
end Ln
namespace Ln
open Go.Sx Go
variable{C:cX}(S:tq C)
include S
theorem Uw{cb:AV}{bs:List Nat}{h:T ab}{nx:Key}{tm:T AV}(HG:py 1 eY cb bs)(hl:bs.length≤50000)(f13:ae (K 13) tm=some cb){Q:cu}{P T1:av}
  (hQ:∀aD h' nx' r,RS r (vu bs.length++bs) 0 h' nx' nx→(∀i:Nat,i<17→ae (K i) aD=ae (K i) tm)→ae (K 18) aD=some (.ptr r 0)→Ext h nx h' nx'→il C P Q aD h' nx') :
  il C ((av.ops gQ).seq ((av.ops gR).seq ((av.ops gS).seq (((av.ops gT).seq (.cond (.t Wt) T1 .skip)).seq P)))) Q tm h nx:=by
 have q3:C.raw bZ=false:=S.nr (by decide);have q4:C.raw bt=false:=S.nr (by decide);have q5:C.raw dM=true:=S.rw (by decide);have hzb:∀n H,aK n cb H=(cb,H):=fun n H=>HG.sg _ _;have hep:∀orc r,fq orc .ptr (.ptr r 0) .nilp=some false:=fun orc r=>by rw[fq]
 have s2:=kTSu nx;simp;simp[gQ];have W0:WS nx .nils [] (ar nx (some (.cells [.nils] .fix)) h) nx.succ nx:=⟨cI _,by omega,by omega,by rw[gTSm],App.nil 1⟩;simp[gR,f13,q3,hzb];refine(Na S.me S.eh (S.nr (by decide)) W0 HG (by omega) (by simp)).mono ?_;rintro o h3 bu ⟨rfl,cw,W3,n3,g3,k3⟩;have LD:=lF bs.length;simp;simp[gS,q4];refine(EX S.fZ W3 (by simp only[fO,List.length_nil];omega)).mono ?_;rintro o h4 sw ⟨⟨cd,rfl,id4⟩,e4⟩;simp[q5];refine(Is S.sG (JS.of id4) (by simp only[fO,List.length_nil];omega)).mono ?_;rintro o h5 Dd ⟨r,rfl,R5,e5⟩;simp;have m4:=e4.n;have m5:=e5.n;have R6:RS r (vu bs.length++bs) 0 h5 Dd nx:=by obtain⟨r1,r2,b,off,all,k,a1,a2,a3,a4,a5,a6,a7,a9⟩:=R5;exact⟨by omega,r2,b,off,all,k,by simpa using a1,a2,a3,by simpa using a4,a5,by omega,a7,a9⟩
 simp[gT,hep];refine hQ _ _ _ r R6 (fun i hi=>?_) (by simp) ⟨by omega,fun b hb=>by rw[e5.g b (by omega),e4.g b (by omega),g3 b (by omega),al (by omega)]⟩;have e:∀j:Nat,17≤j→∀(v:Option AV) (t:T AV),ae (K i) (ar (K j) v t)=ae (K i) t:=fun j hj v t=>zd (by omega) v t;simp[e]
theorem Ux{ca:AV}{us:List Cv}{bs:List Nat}{r:Key}{h:T ab}{nx n0 n1:Key}{tm:T AV}(Uv:us.length≤4)(ok:OG us)(Ir:bs=mT us)(A:App ca (an ep us) us.length 5 h nx n0)(aec:n0.toNat≤n1.toNat)(R:RS r (vu bs.length++bs) 0 h nx n1)(f11:ae (K 11) tm=some ca)(f18:ae (K 18) tm=some (.ptr r 0)){Q:cu}{P T1:av}
  (hQ:∀aD h' nx',(∀i:Nat,i<17→ae (K i) aD=ae (K i) tm)→nx.toNat≤nx'.toNat→(∀b:Key,b.toNat<n0.toNat→ae b h'=ae b h)→il C P Q aD h' nx') :
  il C ((av.ops gU).seq (((av.ops gV).seq (.cond (.t k98) T1 .skip)).seq P)) Q tm h nx:=by
 have q1:C.raw cN=false:=S.nr (by decide);have q2:C.raw dE=true:=S.rw (by decide);have q3:C.raw gy=false:=S.nr (by decide);have q4:C.raw lW=false:=S.nr (by decide);obtain⟨hb1,GC⟩:=ok.mT Uv;rw[←Ir]at hb1 GC;have nI:∀b∈bs,b<256:=by rw[Ir];exact HF ok.f (by omega) fun c hc=>by have:=ok.len c hc;omega
 have LD:=lF bs.length;have ZO:CV bs=some us:=by rw[Ir];refine SA (by omega) fun c hc=>?_;obtain⟨o1,o2,o3⟩:=ok.f c hc;exact⟨o1,o2,o3,by have:=ok.len c hc;omega⟩
 have R1:RO r (some (vu bs.length++bs)) h nx n1:=⟨R,fun b hb=>by
  rcases List.mem_append.1 hb with hb|hb
  ·exact sX (by omega) b hb
  ·exact nI b hb⟩
 have hLB:LB (some (vu bs.length++bs)):=fun x hx=>by cases hx;rw[fO];omega
 have hrr:rR (some (vu bs.length++bs))=(bs,some []):=by have:=MD (t:=bs) (by omega) [];rw[List.append_nil]at this;exact this
 have Ls:=R.1;simp;simp[gU,f18,q1];refine(Ho S R1 hLB).mono ?_;rintro o h1 nx1 ⟨⟨cr,rfl,ir⟩,R2,k1⟩;rw[hrr]at ir;simp only at ir;have m1:=k1.1;simp[q2];refine(NS S (JS.of ir) nI (by omega)).mono ?_;rintro o h2 aP ⟨hV,e2⟩;rw[ZO]at hV;obtain⟨cp,rfl,hp⟩:=hV;have m2:=e2.n;have s2:=kTSu aP;have pc:=hp.cell;have hzp:∀n H,aK n cp H=(cp,H):=fun n H=>hp.sg _ _;simp[pc.1];have v19:ae aP (ar aP (some (.cells [cp] .fix)) h2)=some (.cells [cp] .fix):=by simp
 have e3:=e2.trans (E0 h2 aP (.cells [cp] .fix));generalize ar aP (some (.cells [cp] .fix)) h2=h3 at *;simp[gV,v19,q3,hzp,pc.1];refine(Vj S (by omega) hp).mono ?_;rintro o h4 sw ⟨⟨cq,rfl,hq⟩,e4⟩;have m4:=e4.n;have hzq:∀n H,aK n cq H=(cq,H):=fun n H=>hq.sg _ _;have ajD:∀b:Key,ae b h=some .tok∨(∃l,ae b h=some (.cells l .part))→b≠r:=by rintro b hx rfl;obtain⟨_,_,_,_,_,_,a1,_⟩:=R;rw[a1]at hx;rcases hx with hx|⟨l,hx⟩<;>simp at hx
 have A4:App ca (an ep us) us.length 5 h4 sw n0:=((A.tY m1 fun b hb hx=>k1.2 b hb (ajD b hx)).ext e3).ext e4;obtain⟨Lr,Jl⟩:py 5 ep (aK 9999 ca h4).1 us∧∀b:Key,b.toNat<n0.toNat→ae b (aK 9999 ca h4).2=ae b h4:=A4.Dh cV 9998;simp[f11,q4,hzq];refine(Pk S (by omega) ok.f hq Lr).mono ?_;rintro o h5 Dd ⟨rfl,e5⟩;have m5:=e5.n;have m3:=e3.n;simp;refine hQ _ _ _ (fun i hi=>?_) (by omega) (fun b hb=>?_)
 ·have e:∀j:Nat,17≤j→∀(v:Option AV) (t:T AV),ae (K i) (ar (K j) v t)=ae (K i) t:=fun j hj v t=>zd (by omega) v t;simp[e]
 ·have JW:=R.2.1;rw[e5.g b (by omega),Jl b hb,e4.g b (by omega),e3.g b (by omega),k1.2 b (by omega) (ay (by omega))]
end Ln
namespace Ln
open Go.Sx Go
theorem ajU(bs:List Nat)(j:Nat)(hj:j<bs.length)(x:Nat):List.take j (an eY bs)++(AV.int .u8 (.lit (x:Int))) ::List.drop (j+1) (an eY bs)=an eY (bs.set j x):=by have e:bs.set j x=bs.take j++x ::bs.drop (j+1):=List.set_eq_take_append_cons_drop.trans (by rw[if_pos hj]);have e1:=bE.take bs j;have e2:=bE.drop bs (j+1);rw[Nat.mul_one]at e1 e2;rw[e,gA,db,e1,e2];rfl
def IG(d:AV)(h:T ab)(nx:Key):Prop:=∃m:List Nat,JS d m h nx∧(∀b∈m,b<256)∧m.length≤65536
theorem IG.ext{d:AV}{h h':T ab}{nx nx':Key}(t:IG d h nx)(e:Ext h nx h' nx'):IG d h' nx':=by obtain⟨m,a,b,c⟩:=t;exact⟨m,a.ext e,b,c⟩
theorem JS.beq{d:AV}{m:List Nat}{h:T ab}{nx:Key}(hd:JS d m h nx):d.beq d=true:=by
 rcases hd with⟨rfl,rfl⟩|⟨fl,rfl⟩|⟨b,k',rfl,_,_⟩
 ·rfl
 ·exact beq_refl _ (by simp[AV.lits,bE.V7])
 ·exact beq_refl _ rfl
variable{C:cX}(S:tq C)
include S
theorem aiu{cb:AV}{bs:List Nat}{P1:Int}{WM:Nat}{h:T ab}{nx:Key}{tm:T AV}(hl:bs.length≤60000)(hp:0<bs.length)(HG:cb=.sl (an eY bs) bs.length 1 .any)(xl:eB P1)(f13:ae (K 13) tm=some cb)(f3:ae (K 3) tm=some (I P1))(f4:ae (K 4) tm=some (.int .u8 (.lit (WM:Int)))){Q:cu}{P:av}
  (hQ:∀aD h' nx' q j,(∀i:Nat,i<17→ae (K i) aD=ae (K i) tm)→ae (K 21) aD=some (.slice q 0 bs.length 1)→ae q h'=some (.cells (an eY (bs.set j WM)) .part)→nx.toNat≤q.toNat→q.toNat<nx'.toNat→Ext h nx h' nx'→il C P Q aD h' nx') :
  il C ((av.ops gW).seq ((av.ops gX).seq P)) Q tm h nx:=by
 have q1:C.raw fT=false:=S.nr (by decide);have q2:C.raw cQ=false:=S.nr (by decide);subst HG;simp;simp[gW,f13,q1];refine(PN S.yL (.inr rfl) bs.length (by omega) h nx).mono ?_;rintro o h3 bu ⟨⟨cx,rfl,hx⟩,e3⟩;rw[Hf (cI _)]at hx;rcases hx with⟨_,e⟩|⟨q,rfl,hq,hq1,OI⟩
 ·rw[e]at hp;simp at hp
 have eo:=L8 hp P1;have hr:=bE.rows bs;have dH:=ajU bs (Lx P1 bs.length) eo WM;have m3:=e3.n;simp;simp[gX,f3,f4,q2];refine(AR S xl hp (by omega)).mono ?_;rintro o h4 sw ⟨rfl,rfl,rfl⟩;generalize Lx P1 bs.length=j at *;have hjr:j+1≤(an eY bs).length:=by omega
 simp[f4,eo,hq,hjr,dH];refine hQ _ _ _ q j ?_ ?_ ?_ hq1 (by omega) ⟨by omega,fun b hb=>?_⟩
 ·intro i hi;have e:∀j:Nat,17≤j→∀(v:Option AV) (t:T AV),ae (K i) (ar (K j) v t)=ae (K i) t:=fun j hj v t=>zd (by omega) v t;simp[e]
 ·simp
 ·rw[gTSm]
 ·rw[al (by omega),e3.g b hb]
theorem aiv{cb d:AV}{bs ys raw:List Nat}{q:Key}{h:T ab}{nx:Key}{tm:T AV}(hl:bs.length≤60000)(hp:0<bs.length)(HG:cb=.sl (an eY bs) bs.length 1 .any)(hd:py 1 eY d raw)(hrb:∀b∈raw,b<256)(nI:∀b∈bs,b<256)(hyb:∀b∈ys,b<256)(hys:ys.length=bs.length)(hq:ae q h=some (.cells (an eY ys) .part))(f2:ae (K 2) tm=some d)(f13:ae (K 13) tm=some cb)(f21:ae (K 21) tm=some (.slice q 0 bs.length 1))(ZL:q.toNat<nx.toNat){Q:cu}
  (hQ:∀aD h' nx' lb ds,ae (K 22) aD=some (.slice lb 0 3 1)→ds.length=3→ae lb h'=some (.cells ds .fix)→lb.toNat<nx'.toNat→(∀(i:Nat) (d:AV),ds[i]?=some d→IG d h' nx')→Ext h nx h' nx'→Q .norm aD h' nx') :
  il C (.staged gY ⟨[QJ,QK,QL,QM,QN,QO,QP,QQ,QR,kX],[]⟩) Q tm h nx:=by
 have q1:C.raw fT=false:=S.nr (by decide);have ds:∀n h,aK n d h=(d,h):=py.sg hd;subst HG;have hw:aX .i64 ((bs.length:Int)-1)=((bs.length-1:Nat):Int):=by rw[show(bs.length:Int)-1=((bs.length-1:Nat):Int) by omega];exact aJ (by omega) (by omega)
 have hr:=bE.rows bs;obtain⟨p,hpp⟩:∃p,p=bs.length-1:=⟨_,rfl⟩;rw[←hpp]at hw;have aex:p≤bs.length:=by omega
 have VZ:p≤(an eY bs).length:=by omega
 have Ju:List.take p (an eY bs)=an eY (bs.take p):=by have:=bE.take bs p;rwa [Nat.mul_one]at this
 simp[gY,f2,f13,f21,q1,ds,hw,aex,VZ,Ju];refine(PN S.yL hd 40 (by omega) h nx).mono ?_;rintro o h1 nx1 ⟨⟨c0,rfl,F0⟩,e1⟩;have m1:=e1.n;have s1:=kTSu nx1;have Oy:c0.cells=[c0]:=by rcases F0 with⟨rfl,_⟩|⟨q0,rfl,_⟩<;>rfl
 simp[Oy];have e2:=E0 h1 nx1 (.cells [c0,.slice q 0 bs.length 1,.sl (an eY (List.take p bs)) p 1 .any] .fix);have E:=e1.trans e2;refine hQ _ _ _ nx1 [c0,.slice q 0 bs.length 1,.sl (an eY (List.take p bs)) p 1 .any] (by simp) rfl (by rw[gTSm]) (by omega) ?_ E;have t0:IG c0 (ar nx1 (some (.cells [c0,.slice q 0 bs.length 1,.sl (an eY (List.take p bs)) p 1 .any] .fix)) h1) nx1.succ:=by
  refine⟨raw.take 40,?_,fun b hb=>hrb b (List.mem_of_mem_take hb),by rw[LF];omega⟩;rcases F0 with⟨a,b⟩|⟨q0,a,b,c,d⟩
  ·exact .inl ⟨a,b⟩
  ·exact .inr (.inr ⟨q0,.part,a,by rw[al d];exact b,by omega⟩)
 have t1:IG (.slice q 0 bs.length 1) (ar nx1 (some (.cells [c0,.slice q 0 bs.length 1,.sl (an eY (List.take p bs)) p 1 .any] .fix)) h1) nx1.succ:=
  ⟨ys,.inr (.inr ⟨q,.part,by rw[hys],by rw[E.g q ZL];exact hq,by omega⟩),hyb,by omega⟩
 have t2:IG (.sl (an eY (List.take p bs)) p 1 .any) (ar nx1 (some (.cells [c0,.slice q 0 bs.length 1,.sl (an eY (List.take p bs)) p 1 .any] .fix)) h1) nx1.succ:=
  ⟨bs.take p,.inr (.inl ⟨_,by rw[LF,Nat.min_eq_left aex]⟩),fun b hb=>nI b (List.mem_of_mem_take hb),by rw[LF];omega⟩
 intro i d' hi;have:i=0∨i=1∨i=2∨3≤i:=by omega
 rcases this with rfl|rfl|rfl|h5
 ·simp at hi;subst hi;exact t0
 ·simp at hi;subst hi;exact t1
 ·simp at hi;subst hi;exact t2
 ·rw[JE (by simpa using h5)]at hi;cases hi
end Ln
namespace Ln
open Go.Sx Go
def ajv(lb:Key)(h:T ab)(nx:Key)(k:Nat)(aD:T AV)(h':T ab)(nx':Key):Prop:=
 ∃i:Nat,k=3-i∧i≤3∧ae (K 22) aD=some (.slice lb 0 3 1)∧ae (K 23) aD=some (I i)∧Ext h nx h' nx'
variable{C:cX}(S:tq C)
include S
theorem Re{lb:Key}{ds:List AV}{h:T ab}{nx:Key}{tm:T AV}{Q:cu}(Tr:ds.length=3)(TN:ae lb h=some (.cells ds .fix))(bF:lb.toNat<nx.toNat)(hT:∀(i:Nat) (d:AV),ds[i]?=some d→IG d h nx)(f22:ae (K 22) tm=some (.slice lb 0 3 1))(f23:ae (K 23) tm=some (I 0))
  (hQ:∀aD h' nx',Ext h nx h' nx'→Q .norm aD h' nx') :
  W C (.loop eS) (cz 2 Q) tm h nx:=by
 have q1:C.raw dE=true:=S.rw (by decide);have q2:C.raw dD=false:=S.nr (by decide);have q3:C.raw b5=true:=S.rw (by decide);refine W.hO (n:=3) (ajv lb h nx) ⟨0,rfl,by omega,f22,f23,Ext.refl _ _⟩ ?_;rintro k dT h1 nx1 ⟨i,rfl,hi,f22,f23,e1⟩;refine W.of ?_;simp[eS];by_cases hi3:i<3
 ·have aap:(i:Int)<3:=by omega
  have ajw:i<ds.length:=by omega
  have Fy:ds[i]?=some ds[i]:=zqb ajw;obtain⟨m,hd,hb,hm⟩:=(hT i _ Fy).ext e1;generalize hdd:ds[i]=d at Fy hd;have ad9:ae lb h1=some (.cells ds .fix):=by rw[e1.g lb bF];exact TN
  have n1:=e1.n;simp[gL,f23,aap];simp[mI,f22,f23,hi3,ad9,Fy,hdd,q1];refine(NS S hd hb (by omega)).mono ?_;rintro o h2 aP ⟨ho,e2⟩;have n2:=e2.n;have s2:=kTSu aP;cases hdl:CV m with
  |some l=>
   rw[hdl]at ho;obtain⟨c',rfl,hc⟩:=ho;obtain⟨he,iR⟩:=Sw hb hdl;have cc:=hc.cell;have Py:∀n H,aK n c' H=(c',H):=fun n H=>hc.sg _ _;simp[cc.1];have v24:ae aP (ar aP (some (.cells [c'] .fix)) h2)=some (.cells [c'] .fix):=by simp
   have e3:=e2.trans (E0 h2 aP (.cells [c'] .fix));generalize ar aP (some (.cells [c'] .fix)) h2=h3 at *;simp[gM,v24,q2,Py,cc.1];refine(I4 S hc iR (by rw[he];omega)).mono ?_;rintro o h4 sw ⟨⟨cb,rfl,HG⟩,e4⟩;rw[he]at HG;have E4:=(e1.trans e3).trans e4;have hd4:JS d m h4 sw:=(hd.ext e3).ext e4;have ajy:ae lb h4=some (.cells ds .fix):=by rw[e4.g lb (by have:=e3.n;omega),e3.g lb (by omega)];exact ad9
   simp;simp[gO,f22,f23,hi3,ajy,Fy,hdd,q3];refine(J0 S.mg HG hd4 (by omega)).mono ?_;rintro o h5 Dd ⟨rfl,e5⟩;simp;simp[gP,f23];rw[aJ (by omega) (by omega)];exact⟨3-(i+1),by omega,i+1,rfl,by omega,by simp[f22],by simp,E4.trans e5⟩
  |none=>
   rw[hdl]at ho;subst ho;simp;have v24:ae aP (ar aP (some (.cells [.nils] .fix)) h2)=some (.cells [.nils] .fix):=by simp
   have e3:=e2.trans (E0 h2 aP (.cells [.nils] .fix));generalize ar aP (some (.cells [.nils] .fix)) h2=h3 at *;simp[gM,v24,q2];refine(I4 S (l:=[]) (.inl ⟨rfl,rfl⟩) (fun c hc=>by simp at hc) (by decide)).mono ?_;rintro o h4 sw ⟨⟨cb,rfl,HG⟩,e4⟩;have ajz:ae aP h4=some (.cells [.nils] .fix):=by rw[e4.g aP (by have:=e3.n;omega)];exact v24
   have E4:=(e1.trans e3).trans e4;simp;simp[gO,ajz];simp[gP,f23];rw[aJ (by omega) (by omega)];exact⟨3-(i+1),by omega,i+1,rfl,by omega,by simp[f22],by simp,E4⟩
 ·have aap:¬(i:Int)<3:=by omega
  simp[gL,f23,aap];exact hQ _ _ _ e1
end Ln
namespace Ln
open Go.Sx Go
variable{C:cX}
theorem acZ{l:List aT}{d:SD}{P:av}{Q:cu}{tm:T AV}{h:T ab}{nx:Key}(hQ:il C (.staged l d) (fy (il C P Q) Q) tm h nx):il C ((av.staged l d).seq P) Q tm h nx:=by simpa using hQ
variable(S:tq C)
include S
theorem Rc{c:AV}{l:List Int}(hc:py 1 eI c l)(qs:∀n∈l,eB n){many:Int}(Ke:eB many){h:T ab}{nx:Key}{tm:T AV}{Q:cu}{P:av}(f0:ae (K 0) tm=some c)(f1:ae (K 1) tm=some (I many))
  (hQ:∀aD h' nx' us ca,us.length≤4→(∀i:Nat,i<5→ae (K i) aD=ae (K i) tm)→ae (K 11) aD=some ca→App ca (an ep us) us.length 5 h' nx' nx→OG us→Ext h nx h' nx'→il C P Q aD h' nx') :
  il C ((av.ops iC).seq ((av.ops iD).seq (((av.ops iE).seq (.block 0 (.loop eR))).seq P))) Q tm h nx:=by
 simp;simp[iC];simp[iD];simp[iE];refine Uu S hc qs Ke (by simp[f0]) (by simp[f1]) (by simp) (by simp) ?_;intro aD h' nx' us ca Uv hs g11 A ok E;simp;refine hQ aD h' nx' us ca Uv (fun i hi=>?_) g11 A ok E;rw[hs i hi];have e:∀j:Nat,10≤j→∀(v:Option AV) (t:T AV),ae (K i) (ar (K j) v t)=ae (K i) t:=fun j hj v t=>zd (by omega) v t;simp[e]
theorem Zb{lb:Key}{ds:List AV}{h0 h:T ab}{Kf nx:Key}{tm:T AV}(Tr:ds.length=3)(TN:ae lb h=some (.cells ds .fix))(bF:lb.toNat<nx.toNat)(hT:∀(i:Nat) (d:AV),ds[i]?=some d→IG d h nx)(f22:ae (K 22) tm=some (.slice lb 0 3 1))(e0:Ext h0 Kf h nx) :
  il C (((av.ops gH).seq (.block 2 (.loop eS))).seq ((av.ops gI).seq .ret)) (eO [RV.tmp (K 10)] fun o h' nx'=>o=Out.ret (AV.bool true)∧Ext h0 Kf h' nx') tm h nx:=by
 have q1:C.raw nB=false:=S.nr (by decide);simp;simp[gH];refine Re S Tr TN bF hT (by simp[f22]) (by simp) ?_;intro aD h' nx' e4;simp;simp[gI,q1];refine ax.known (S.No _ _) ?_;simp;exact e0.trans e4
theorem OH{c d:AV}{l:List Int}{raw:List Nat}{many P1:Int}{WM:Nat}(hc:py 1 eI c l)(qs:∀n∈l,eB n)(Ke:eB many)(hd:py 1 eY d raw)(hrb:∀b∈raw,b<256)(xl:eB P1)(V0:WM<256)(h:T ab)(nx:Key) :
  ax C jD [c,I many,d,I P1,.int .u8 (.lit (WM:Int))] h nx (fun o h' nx'=>o=.ret (.bool true)∧Ext h nx h' nx'):=by
 refine S.pL.call ?_;refine Rc S hc qs Ke (by simp) (by simp) ?_;intro dT h1 nx1 us ca Uv hs1 f11 A ok e1;have g2:ae (K 2) dT=some d:=by rw[hs1 2 (by omega)];simp
 have g3:ae (K 3) dT=some (I P1):=by rw[hs1 3 (by omega)];simp
 have g4:ae (K 4) dT=some (.int .u8 (.lit (WM:Int))):=by rw[hs1 4 (by omega)];simp
 obtain⟨hb1,GC⟩:=ok.mT Uv;have nI:∀b∈mT us,b<256:=HF ok.f (by omega) fun c hc=>by have:=ok.len c hc;omega
 refine Zc S Uv ok A f11 ?_;intro dR h2 aP cb cc HG HH Wf f13 f14 f15 f16 e2;obtain⟨bs,Ir⟩:∃bs,bs=mT us:=⟨_,rfl⟩;rw[←Ir]at HG HH hb1 GC nI;have ac0:=WN HG GC;refine Zd S HG HH GC (by omega) f13 f14 f15 f16 ?_;intro tm3 h3 bu Ze e3;have e13:=e1.trans (e2.trans e3);have A3:=(A.ext e2).ext e3;have n1:=e1.n;have n2:=e2.n;have n3:=e3.n;refine Uw S HG (by omega) (by rw[Ze 13 (by omega)];exact f13) ?_;intro tm4 h4 sw r R hs4 f18 e4;have n4:=e4.n;refine Ux S Uv ok Ir (A3.ext e4) (n1:=bu) (by omega) R (by rw[hs4 11 (by omega),Ze 11 (by omega),Wf 11 (by omega)];exact f11) f18 ?_;intro tm5 h5 Dd hs5 n5 f5;have e5:Ext h nx h5 Dd:=⟨by omega,fun b hb=>by rw[f5 b hb];exact(e13.trans e4).g b hb⟩;refine aiu S (by omega) GC ac0 xl (by rw[hs5 13 (by omega),hs4 13 (by omega),Ze 13 (by omega)];exact f13) (by rw[hs5 3 (by omega),hs4 3 (by omega),Ze 3 (by omega),Wf 3 (by omega)];exact g3) (by rw[hs5 4 (by omega),hs4 4 (by omega),Ze 4 (by omega),Wf 4 (by omega)];exact g4) ?_;intro tm6 h6 xC q j hs6 f21 hq hq1 OI e6;refine acZ ?_;refine aiv S (by omega) GC ac0 hd hrb nI (ys:=bs.set j WM) (fun b hb=>?_) (by rw[List.length_set]) hq (by rw[hs6 2 (by omega),hs5 2 (by omega),hs4 2 (by omega),Ze 2 (by omega),Wf 2 (by omega)];exact g2) (by rw[hs6 13 (by omega),hs5 13 (by omega),hs4 13 (by omega),Ze 13 (by omega)];exact f13) f21 OI ?_
 ·rcases List.mem_or_eq_of_mem_set hb with hb|rfl
  ·exact nI b hb
  ·exact V0
 intro tm7 h7 nx7 lb ds f22 Tr TN bF hT e7;exact Zb S Tr TN bF hT f22 ((e5.trans e6).trans e7)
end Ln
namespace Go.Sx
def zW(W:World)(c i:Nat):Option Value:=match W.heap[c]? with
 |some (.cells arr _ _)=>arr[i]?
 |_=>none
theorem U7{W:World}:∀c i v,zW W c i=some v→∃arr elem f,W.heap[c]?=some (.cells arr elem f)∧arr[i]?=some v:=by
 intro c i v h;unfold zW at h;split at h
 ·rename_i arr e f he;exact⟨arr,e,f,he,h⟩
 ·cases h
end Go.Sx
