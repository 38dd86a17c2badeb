/- A part of the proof. No condition. -/
import Derived.Test.YtecbfpngkfdkoaaGreatP33
import Derived.Test.YtecbfpngkfdkoaaGreatP20
import Derived.Test.YtecbfpngkfdkoaaGreatP6
set_option linter.unusedSimpArgs false
set_option linter.unusedVariables false
set_option linter.unusedSectionVars false
namespace Ln
open Go.Sx Go
structure GS where
 n:Int
 d:Nat→Int
 o:Nat→Bool
 lt:Nat→Bool
 a:Nat→Int
 s:Nat→Nat×Nat
def aeA{α:Type}(f:Nat→α)(c:Nat)(v:α):Nat→α:=fun i=>if i=c then v else f i
@[simp] theorem auS{α:Type}(f:Nat→α)(c:Nat)(v:α):aeA f c v c=v:=by simp[aeA]
@[simp] theorem azm{α:Type}(f:Nat→α){c i:Nat}(v:α)(h:i≠c):aeA f c v i=f i:=by simp[aeA,h]
def gB(m:Nat×Nat)(cL cQ:AV)(g:GS):List AV:=[cL,.str m.1 m.2,I g.n,cQ,I (g.d 0),I (g.d 1),I (g.d 2),I (g.d 3),.bool (g.o 0),.bool (g.o 1),.bool (g.o 2),.bool (g.o 3),.bool (g.lt 0),.bool (g.lt 1),.bool (g.lt 2),.bool (g.lt 3),I (g.a 0),I (g.a 1),I (g.a 2),I (g.a 3),.str (g.s 0).1 (g.s 0).2,.str (g.s 1).1 (g.s 1).2,.str (g.s 2).1 (g.s 2).2,.str (g.s 3).1 (g.s 3).2]
structure GOk(bg n0:Key)(m:Nat×Nat)(l:List Ev)(g:GS)(k:Nat)(cL cQ:AV)(oL oQ:Option Key)(h:T ah)(nx:Key):Prop where
 xG:ae bg h=Vv (gB m cL cQ g)
 L:Gr 8 cL (ag eE l) l.length h nx oL
 Q:∃len,len≤k∧QR cQ len h nx oQ
 b0:n0.toNat≤bg.toNat
 bn:bg.toNat<nx.toNat
 lo:∀b,oL=some b→n0.toNat≤b.toNat∧b≠bg∧oQ≠some b
 qo:∀b,oQ=some b→n0.toNat≤b.toNat∧b≠bg
structure Old(n0:Key)(h:T ah)(nx:Key)(h':T ah)(nx':Key):Prop where
 n:nx.toNat≤nx'.toNat
 g:∀b:Key,b.toNat<n0.toNat→ae b h'=ae b h
theorem Old.trans{n0 nx nx' n2:Key}{h h' h2:T ah}(a:Old n0 h nx h' nx')(b:Old n0 h' nx' h2 n2):Old n0 h nx h2 n2:=⟨Nat.le_trans a.n b.n,fun x hx=>(b.g x hx).trans (a.g x hx)⟩
theorem _root_.Go.Sx.Gr.cell{z:Nat}{c:AV}{l:List AV}{len:Nat}{h:T ah}{nx:Key}{ob:Option Key}(g:Gr z c l len h nx ob):c.aP=true∧c.cells=[c]:=by rcases g with⟨rfl,_⟩|⟨b,k,_,rfl,_⟩|⟨t,_,rfl,_⟩<;>exact⟨rfl,rfl⟩
theorem QR.cell{c:AV}{len:Nat}{h:T ah}{nx:Key}{oQ:Option Key}(g:QR c len h nx oQ):c.aP=true∧c.cells=[c]:=by rcases g with⟨rfl,_⟩|⟨b,off,q,_,rfl,_⟩|⟨t,q,_,rfl,_⟩<;>exact⟨rfl,rfl⟩
theorem GOk.put{bg n0:Key}{m:Nat×Nat}{l:List Ev}{g g':GS}{k:Nat}{cL cQ:AV}{oL oQ:Option Key}{h:T ah}{nx:Key}(G:GOk bg n0 m l g k cL cQ oL oQ h nx):GOk bg n0 m l g' k cL cQ oL oQ (av bg (Vv (gB m cL cQ g')) h) nx∧Old n0 h nx (av bg (Vv (gB m cL cQ g')) h) nx:=by obtain⟨len,hlen,hQ⟩:=G.Q;refine⟨⟨by simp,G.L.cy (fa _) fun b hb=>aR _ _ _ _ (G.lo b hb).2.1,⟨len,hlen,hQ.cy (fa _) fun b hb=>aR _ _ _ _ (G.qo b hb).2⟩,G.b0,G.bn,G.lo,G.qo⟩,fa _,fun b hb=>aR _ _ _ _ fun e=>?_⟩;have:=G.b0;rw[e]at hb;omega
variable{C:bK}{X:Kn}(S:Std C X)
include S
end Ln
namespace Ln
open Go.Sx Go
theorem _root_.Go.Sx.Gr.lits{z:Nat}{α:Type}{enc:α→List AV}(F:Flat z enc){c:AV}{us:List α}{len:Nat}{h:T ah}{nx:Key}{ob:Option Key}(g:Gr z c (ag enc us) len h nx ob):AV.beq c c=true:=by
 rcases g with⟨rfl,_⟩|⟨b,k,_,rfl,_⟩|⟨t,_,rfl,_⟩
 ·exact beq_refl _ rfl
 ·exact beq_refl _ rfl
 ·exact beq_refl _ (by simp only[AV.lits];exact F.aoa _)
theorem GOk.up{bg n0:Key}{m:Nat×Nat}{l:List Ev}{g:GS}{k:Nat}{cL cQ:AV}{oL oQ:Option Key}{h h':T ah}{nx nx':Key}(G:GOk bg n0 m l g k cL cQ oL oQ h nx)(e:Ext h nx h' nx'):GOk bg n0 m l g k cL cQ oL oQ h' nx':=by obtain⟨len,hlen,hQ⟩:=G.Q;exact⟨by rw[e.g bg G.bn];exact G.xG,G.L.ext e,⟨len,hlen,hQ.ext e⟩,G.b0,Lk G.bn e.n,G.lo,G.qo⟩
theorem GOk.more{bg n0:Key}{m:Nat×Nat}{l:List Ev}{g:GS}{k:Nat}{cL cQ:AV}{oL oQ:Option Key}{h:T ah}{nx:Key}(G:GOk bg n0 m l g k cL cQ oL oQ h nx):GOk bg n0 m l g (k+1) cL cQ oL oQ h nx:=by obtain⟨len,hlen,hQ⟩:=G.Q;exact⟨G.xG,G.L,⟨len,by omega,hQ⟩,G.b0,G.bn,G.lo,G.qo⟩
theorem Old.qD{n0 nx nx':Key}{h h':T ah}(e:Ext h nx h' nx')(hn:n0.toNat≤nx.toNat):Old n0 h nx h' nx':=⟨e.n,fun b hb=>e.g b (by omega)⟩
theorem Old.refl(n0:Key)(h:T ah)(nx:Key):Old n0 h nx h nx:=⟨fa _,fun _ _=>rfl⟩
inductive ahr(mi:Nat)(g:GS)(x:Ev)(g':GS):Prop
 |lost (h:x=⟨2,0,(0,0),[],⟨0,0⟩⟩) (ho:g'.o=fun _=>false)
 |ends (c:Nat) (r:Int) (hc:c<3) (ho:g.o c=true) (h:x=⟨1,c,(0,0),[],⟨0,r⟩⟩) (T0:g'.o=aeA g.o c false)
 |begins (c:Nat) (cmd:nB) (aZZ:List U) (hc:c<3) (ho:g.o c=false) (hm:cmd∈aI mi) (ha:aZZ.length=cmd.ar) (hk:∀u∈aZZ,u.k=0) (h:x=⟨0,c,cmd.name,aZZ,⟨0,0⟩⟩) (T0:g'.o=aeA g.o c true)
variable{C:bK}{X:Kn}(S:Std C X)
include S
end Ln
namespace Ln
open Go.Sx Go
def anH(cA:AV)(aZZ:List U)(h:T ah)(n0 nx b8:Key):Prop:=(cA=.nils∧aZZ=[])∨∃(ba:Key) (u:U),cA=.slice ba 0 1 4∧aZZ=[u]∧ae ba h=Vv (eU u)∧n0.toNat≤ba.toNat∧ba.toNat<nx.toNat∧ba≠b8
theorem anH.ae5{cA:AV}{aZZ:List U}{h:T ah}{n0 nx b8:Key}(a:anH cA aZZ h n0 nx b8)(B:ah):∃H1,aN 9999 cA (av nx (some B) h)=(aK aZZ,H1)∧∀b:Key,b.toNat<n0.toNat→n0.toNat≤nx.toNat→ae b H1=ae b h:=by
 rcases a with⟨rfl,rfl⟩|⟨ba,u,rfl,rfl,h1,h2,h3,_⟩
 ·exact⟨_,rfl,fun b hb hn=>az (by omega)⟩
 ·have hg:ae ba (av nx (some B) h)=Vv (eU u):=by rw[az h3];exact h1
  refine⟨_,BN (n:=9998) hg rfl (wA.vV u),fun b hb hn=>?_⟩;rw[az (by omega),az (by omega)]
theorem anH.cell{cA:AV}{aZZ:List U}{h:T ah}{n0 nx b8:Key}(a:anH cA aZZ h n0 nx b8):cA.aP=true∧cA.cells=[cA]:=by rcases a with⟨rfl,rfl⟩|⟨ba,u,rfl,_⟩<;>exact⟨rfl,rfl⟩
def evB(c:Nat)(cmd:nB)(cA:AV):List AV:=[I 0,I c,.str cmd.name.1 cmd.name.2,cA,I 0,I 0,.str 0 0,.nils]
variable{C:bK}{X:Kn}(S:Std C X)
include S
end Ln
namespace Ln
open Go.Sx Go
theorem GOk.put0{bg n0:Key}{m:Nat×Nat}{l:List Ev}{g g':GS}{k:Nat}{cL cQ:AV}{oL oQ:Option Key}{h:T ah}{nx nx0 b8:Key}{c:Nat}{cmd:nB}{cA:AV}(G:GOk bg n0 m l g k cL cQ oL oQ h nx0)(h8:ae b8 h=Vv (evB c cmd cA))(h80:nx0.toNat≤b8.toNat):GOk bg n0 m l g' k cL cQ oL oQ (av bg (Vv (gB m cL cQ g')) h) nx0∧ae b8 (av bg (Vv (gB m cL cQ g')) h)=Vv (evB c cmd cA)∧Old n0 h nx (av bg (Vv (gB m cL cQ g')) h) nx:=by obtain⟨G1,O1⟩:=G.put (g':=g');have bn:=G.bn;exact⟨G1,by rw[aR _ _ _ _ (fun e=>by rw[e]at h80;omega)];exact h8,fa _,O1.g⟩
variable{C:bK}{X:Kn}(S:Std C X)
include S
end Ln
namespace Ln
open Go.Sx Go
variable{C:bK}{X:Kn}(S:Std C X)
include S
end Ln
namespace Ln
open Go.Sx Go
inductive ake(mi:Nat):List Ev→GS→Prop
 |nil (g:GS) (h:g.o=fun _=>false):ake mi [] g
 |snoc {l:List Ev} {g g':GS} {x:Ev} (h:ake mi l g) (s:ahr mi g x g'):ake mi (l ++ [x]) g'
theorem ahr.few{mi:Nat}{g g':GS}{x:Ev}(s:ahr mi g x g'):x.args.length≤1∧0≤x.client∧x.client≤3:=by
 cases s with
 |lost h _=>subst h;simp
 |ends c r hc _ h _=>subst h;simp;omega
 |begins c cmd aZZ hc _ _ ha _ h _=>
  subst h;have:cmd.ar≤1:=by cases cmd<;>decide
  refine⟨?_,?_,?_⟩
  ·show aZZ.length≤1;omega
  ·show(0:Int)≤c;omega
  ·show(c:Int)≤3;omega
theorem ake.few{mi:Nat}{l:List Ev}{g:GS}(h:ake mi l g):∀x∈l,x.args.length≤1∧0≤x.client∧x.client≤3:=by
 induction h with
 |nil g h=>intro x hx;cases hx
 |snoc h s ih=>
  intro x hx;rcases List.mem_append.1 hx with hx|hx
  ·exact ih x hx
  ·simp at hx;subst hx;exact s.few
theorem _root_.Go.Sx.Rd.ixI{c:AV}{us:List Int}{h:T ah}{nx:Key}(g:Rd 1 c (ag eI us) us.length h nx){i:Nat}(hi:i<us.length){C:bK}{Q:cH}{L:List ay}{tm:T AV}{n2 k1 k2 d1 d2:Key}(h1:ae k1 tm=some c)(h2:ae k2 tm=some (I i)) :
  lH C Q (⟨some d1,.indexL 1 (.t k1) (.t k2),none⟩ ::⟨some d2,.load false 1 (.t d1),none⟩ ::L) tm h n2=lH C Q L (av d2 (some (I us[i])) (av d1 (some (GO 1 i c)) tm)) h n2:=by
 have T8:(ag eI us).length=us.length:=kX _;have hd:=Gq hi;have tl:1≤us.length-i:=by omega
 rcases g with⟨_,_,e⟩|⟨f,rfl⟩|⟨b,k,rfl,hb,_,_⟩
 ·omega
 ·simp[h1,h2,hi,T8,hd,tl,GO]
 ·simp[h1,h2,hi,T8,GO,hb]
variable{C:bK}{X:Kn}(S:Std C X)
include S
end Ln
namespace Ln
open Go.Sx Go
def vuF:Nat→Nat→List Nat
 |0,n=>[n]
 |k+1,n=>if n<128 then [n]else(128+n%128) ::vuF k (n / 128)
def vu(n:Nat):List Nat:=vuF 10 n
theorem ahn{C:bK}{l:List ay}{R:cH}{tm:T AV}{h:T ah}{nx:Key}(hw:iH C (.ops l) R tm h nx):lH C R l tm h nx:=by simpa using hw
def eY(b:Nat):List AV:=[.int .u8 (.lit (b:Int))]
theorem Hq:Flat 1 eY where
 len _:=rfl
 vV x y hy:=by simp[eY]at hy;subst hy;exact dz _ _
 cell x y hy:=by simp[eY]at hy;subst hy;rfl
 lits x:=rfl
structure WS(w:Key)(c:AV)(bs:List Nat)(h:T ah)(nx n0:Key):Prop where
 lo:n0.toNat≤w.toNat
 hi:w.toNat<nx.toNat
 n:n0.toNat≤nx.toNat
 at_:ae w h=Vv [c]
 app:App c (ag eY bs) bs.length 1 h nx n0
def T7(w:Key)(h:T ah)(nx:Key)(h':T ah):Prop:=∀b:Key,b.toNat<nx.toNat→b≠w→(∀B,ae b h=some B→B≠.tok∧∀l,B≠.cells l .part)→ae b h'=ae b h
theorem T7.refl(w:Key)(h:T ah)(nx:Key):T7 w h nx h:=fun _ _ _ _=>rfl
theorem T7.trans{w:Key}{h h1 h2:T ah}{nx bF:Key}(a:T7 w h nx h1)(hn:nx.toNat≤bF.toNat)(b:T7 w h1 bF h2):T7 w h nx h2:=fun k hk hw hB=>by have e:=a k hk hw hB;rw[b k (by omega) hw (by rw[e];exact hB),e]
theorem T7.new(w:Key)(h:T ah)(nx:Key)(B:Option ah):T7 w h nx (av nx B h):=fun _ hk _ _=>az hk
theorem Ext.kp{h h':T ah}{nx nx':Key}(e:Ext h nx h' nx')(w:Key):T7 w h nx h':=fun b hb _ _=>e.g b hb
theorem WS.add{w:Key}{c:AV}{bs:List Nat}{h:T ah}{nx n0:Key}(W:WS w c bs h nx n0)(new:List Nat)(hl:bs.length+new.length≤1048576) :
  ∃c' h' nx',appendTo 1 c (ag eY new) new.length h nx=.val c' h' nx'∧c'.aP=true∧c'.cells=[c']∧ae w h'=Vv [c]∧WS w c' (bs++new) (av w (Vv [c']) h') nx' n0∧nx.toNat≤nx'.toNat∧(∀b:Key,b.toNat<n0.toNat→ae b (av w (Vv [c']) h')=ae b h)∧T7 w h nx (av w (Vv [c']) h'):=by
 obtain⟨c',h',nx',a1,a2,a3,a4,a5⟩:=W.app.dp (new:=ag eY new) (m:=new.length) W.n (by rw[Hq.rows]) hl (Hq.ap3 new);have hw:ae w h'=Vv [c]:=by rw[a5 w W.hi (fun B hB=>by rw[W.at_]at hB;cases hB;exact⟨by simp,by simp⟩)];exact W.at_
 have⟨x1,x2⟩:=a2.cell;refine⟨c',h',nx',a1,x1,x2,hw,⟨W.lo,by have:=W.hi;omega,by have:=W.n;omega,by rw[gTSm],?_⟩,a3,fun b hb=>by rw[az (by have:=W.lo;omega)];exact a4 b hb,fun b hb hw2 hB=>by rw[aR _ _ _ _ hw2];exact a5 b hb hB⟩;have:=a2.set (k:=w) (B:=Vv [c']) (fun B hB=>by rw[hw]at hB;cases hB;exact⟨by simp,by simp⟩);rw[fU,Ho];exact this
theorem WS.ext{w:Key}{c:AV}{bs:List Nat}{h h':T ah}{nx nx' n0:Key}(W:WS w c bs h nx n0)(e:Ext h nx h' nx'):WS w c bs h' nx' n0:=
 ⟨W.lo,by have:=W.hi;have:=e.n;omega,by have:=W.n;have:=e.n;omega,by rw[e.g w W.hi];exact W.at_,W.app.ext e⟩
def iM(w:Key)(bs:List Nat)(h:T ah)(nx n0:Key)(o:Out)(h':T ah)(nx':Key):Prop:=o=.ret (.tuple [])∧∃c',WS w c' bs h' nx' n0∧nx.toNat≤nx'.toNat∧(∀b:Key,b.toNat<n0.toNat→ae b h'=ae b h)∧T7 w h nx h'
theorem wrap_u8(n:Nat):bP .u8 (n:Int)=((n%256:Nat):Int):=by rw[gW];simp[IntKind.wrap,IntKind.bits,IntKind.signed]
theorem ap4(n:Nat):arith .or .u8 (.lit ((n%256:Nat):Int)) (.lit 128)=some (.lit ((128+n%128:Nat):Int)):=by
 have key:∀x:Fin 256,bP .u8 (.ofNat (Nat.lor (Oq .u8 ((x.val:Nat):Int)) (Oq .u8 128)))=((128+x.val%128:Nat):Int):=by decide +kernel
 have e:=key ⟨n%256,Nat.mod_lt _ (by omega)⟩;have e2:arith .or .u8 (.lit ((n%256:Nat):Int)) (.lit 128)=some (.lit (bP .u8 (.ofNat (Nat.lor (Oq .u8 ((n%256:Nat):Int)) (Oq .u8 128))))):=rfl;rw[e2,e];simp only;congr 3;omega
theorem avh(orc:iG)(n:Nat)(k:Key)(tm:T AV)(h:T ah)(hk:ae k tm=some (.int .u64 (.lit (n:Int)))):lightOp orc (.bin .shr (.t k) (.v (.int .u64 (.lit 7)))) tm h=some (.int .u64 (.lit ((n / 128:Nat):Int))):=by simp only[lightOp,at_t,at_v,hk];rfl
theorem aod(orc:iG){k:Key}{v:AV}{tm:T AV}{h:T ah}(hk:ae k tm=some v):lightOp orc (.mov (.t k)) tm h=some v:=by simp[hk]
theorem ap5{C:bK}{Q:cH}{tm:T AV}{h:T ah}{nx:Key}{n d:Nat}(hd:d=n / 128)(f1:ae (K 1) tm=some (.int .u64 (.lit (n:Int))))
  (hQ:Q .norm (av (K 1) (some (.int .u64 (.lit (d:Int)))) (av (K 19) (some (.int .u64 (.lit (d:Int)))) (av (K 18) (some (.int .u64 (.lit (n:Int)))) tm))) h nx):iH C (.ops mA) Q tm h nx:=by
 subst hd;have e1:=aod C.orc (h:=h) f1;have e2:=avh C.orc n (K 18) (av (K 18) (some (.int .u64 (.lit (n:Int)))) tm) h (by simp);have e3:=aod C.orc (k:=K 19) (v:=.int .u64 (.lit ((n / 128:Nat):Int))) (tm:=av (K 19) (some (.int .u64 (.lit ((n / 128:Nat):Int)))) (av (K 18) (some (.int .u64 (.lit (n:Int)))) tm)) (h:=h) (by simp);generalize n / 128=d at e2 e3 hQ;simp only[Wc,Wd,We,Wf,Wg,mA,azQ,avi,avj,kj,Wh,wants_none,SU,aOp,okV,e1,e2,e3,putTm_some,alL];exact hQ
variable{C:bK}
def aoe(w:Key)(bs:List Nat)(n:Nat)(h:T ah)(nx n0:Key)(k:Nat)(aw:T AV)(h':T ah)(nx':Key):Prop:=
 ∃(n':Nat) (bs':List Nat) (c':AV),k≤10∧ae (K 0) aw=some (.ptr w 0)∧ae (K 1) aw=some (.int .u64 (.lit (n':Int)))∧WS w c' bs' h' nx' n0∧n'*128^(10-k)<18446744073709551616∧bs'++vuF k n'=bs++vu n∧bs'.length≤bs.length+(10-k)∧
  nx.toNat≤nx'.toNat∧(∀b:Key,b.toNat<n0.toNat→ae b h'=ae b h)∧T7 w h nx h'
theorem agP(S:Fn C eK lM){w:Key}{c:AV}{bs:List Nat}{h:T ah}{nx n0:Key}(Ws:WS w c bs h nx n0){n:Nat}(hn:n<18446744073709551616)(hl:bs.length≤100000) :
  aH C eK [.ptr w 0,.int .u64 (.lit (n:Int))] h nx (iM w (bs++vu n) h nx n0):=by
 refine S.call ?_;simp[lM];refine W.cM (n:=10) (aoe w bs n h nx n0) ?_ ?_
 ·exact⟨n,bs,c,by omega,by simp,by simp,Ws,by simpa using hn,rfl,by omega,fa _,fun _ _=>rfl,T7.refl _ _ _⟩
 ·rintro k dD h1 bF ⟨n',bs',c',hk,f0,f1,W1,bY,hbs,hlen,hnx,hfr,hkp⟩;refine W.of ?_;simp[uM];have s1:=kTSu bF;by_cases hsm:n'<128
  ·have ap6:(n':Int)<128:=by omega
   have hv:vuF k n'=[n']:=by cases k<;>simp[vuF,hsm]
   simp[mB,f1,ap6];obtain⟨m,hm⟩:∃m,m=n'%256:=⟨_,rfl⟩;have h12:bP .u8 (n':Int)=(m:Int):=by rw[wrap_u8,hm]
   have hmn:m=n':=by omega
   obtain⟨c2,h2,aU,g,x1,x2,x3,W2,x5,x6,x7⟩:=(W1.ext (E0 h1 bF (.cells [.int .u8 (.lit (m:Int))] .fix))).add [m] (by simp;omega);have Y1:ag eY [m]=[.int .u8 (.lit (m:Int))]:=fj _ _;rw[Y1]at g;simp only[List.length_singleton]at g;have hz:∀H,bC (aN 9999) [AV.int .u8 (.lit (m:Int))] H=([AV.int .u8 (.lit (m:Int))],H):=fun H=>cn (by intro y hy;simp at hy;subst hy;exact dz _ _);simp[-appendTo,uN,f0,f1,W1.at_,h12,hz,g,x1,x2,x3];refine⟨rfl,c2,by rw[←hbs,hv,←hmn];exact W2,by omega,fun b hb=>?_,(hkp.trans hnx (T7.new w h1 bF _)).trans (by omega) x7⟩;rw[x6 b hb,az (by have:=W1.n;omega)];exact hfr b hb
  ·have ap6:¬(n':Int)<128:=by omega
   cases k with
   |zero=>
    exfalso;have:(128:Nat)^(10-0)=1180591620717411303424:=by decide
    rw[this]at bY;omega
   |succ k=>
    simp[mB,f1,ap6];obtain⟨m,hm⟩:∃m,m=n'%256:=⟨_,rfl⟩;obtain⟨y,hy⟩:∃y,y=128+n'%128:=⟨_,rfl⟩;have h12:bP .u8 (n':Int)=(m:Int):=by rw[wrap_u8,hm]
    have h13:arith .or .u8 (.lit (m:Int)) (.lit 128)=some (.lit (y:Int)):=by rw[hm,ap4,hy]
    obtain⟨c2,h2,aU,g,x1,x2,x3,W2,x5,x6,x7⟩:=(W1.ext (E0 h1 bF (.cells [.int .u8 (.lit (y:Int))] .fix))).add [y] (by simp;omega);have Y1:ag eY [y]=[.int .u8 (.lit (y:Int))]:=fj _ _;rw[Y1]at g;simp only[List.length_singleton]at g;have hz:∀H,bC (aN 9999) [AV.int .u8 (.lit (y:Int))] H=([AV.int .u8 (.lit (y:Int))],H):=fun H=>cn (by intro z hz;simp at hz;subst hz;exact dz _ _);simp[-appendTo,-arith,uO,f0,f1,W1.at_,h12,h13,hz,g,x1,x2,x3];refine ahn (ap5 (n:=n') (d:=n' / 128) rfl (by simp[f1]) ?_);simp;refine⟨k,by omega,?_⟩;unfold aoe;have hp:10-k=(10-(k+1))+1:=by omega
    refine⟨n' / 128,bs' ++ [y],c2,by omega,?_,?_,W2,?_,?_,?_,by omega,fun b hb=>?_,(hkp.trans hnx (T7.new w h1 bF _)).trans (by omega) x7⟩
    ·simp[f0]
    ·simp
    ·rw[hp,Nat.pow_succ];have:n' / 128*(128^(10-(k+1))*128)≤n'*128^(10-(k+1)):=by rw[Nat.mul_comm (128^_) 128,←Nat.mul_assoc];exact Nat.mul_le_mul_right _ (Nat.div_mul_le_self _ _)
     omega
    ·rw[←hbs,vuF,if_neg hsm,hy,List.append_assoc];rfl
    ·rw[Ho,List.length_singleton];omega
    ·rw[x6 b hb,az (by have:=W1.n;omega)];exact hfr b hb
theorem aey(n:Int):bP .u64 n=((n.emod 18446744073709551616).toNat:Int):=by rw[gW];simp only[IntKind.wrap,IntKind.bits,IntKind.signed];have e:n.emod 18446744073709551616=n%18446744073709551616:=rfl;rw[e];simp;omega
theorem alM{q n0:Key}{h:T ah}{nx:Key}(hq:ae q h=Vv [])(xH:n0.toNat≤q.toNat)(hn:n0.toNat≤nx.toNat)(m:List Nat)(hl:m.length≤1048576) :
  ∃c' h' nx',appendTo 1 (.slice q 0 0 1) (ag eY m) m.length h nx=.val c' h' nx'∧nx.toNat≤nx'.toNat∧iB 1 eY (aN 9999 c' h').1 m∧∀b:Key,b.toNat<n0.toNat→ae b (aN 9999 c' h').2=ae b h:=by
 by_cases hm:m=[]
 ·subst hm;have hz:=BN (n:=9998) (b:=q) (len:=0) (sz:=1) (l:=[]) (H:=av q (Vv []) h) (by rw[gTSm]) rfl (by simp);refine⟨.slice q 0 0 1,av q (Vv []) h,nx,by simp[hq],fa _,?_,fun b hb=>?_⟩
  ·rw[hz];exact .inr rfl
  ·rw[hz,az (by omega),az (by omega)]
 ·have hmp:0<m.length:=List.length_pos_iff.2 hm;have Mp:¬m.length=0:=by omega
  have hr:=Hq.rows m;have z6:=Hq.ap3 m;have hz:=Ep (n:=9998) (b:=nx) (len:=m.length) (sz:=1) (l:=ag eY m) (H:=av nx (some (.cells (ag eY m) .part)) h) (by rw[gTSm]) hr (Hq.Er m);refine⟨.slice nx 0 m.length 1,av nx (some (.cells (ag eY m) .part)) h,nx.succ,?_,by rw[kTSu];omega,?_,fun b hb=>?_⟩
  ·simp[hq,hl,z6,Mp]
  ·rw[hz];exact .inr rfl
  ·rw[hz,az (by omega),az (by omega)]
theorem ahp(S:Fn C eL lN){w:Key}{c:AV}{bs:List Nat}{h:T ah}{nx n0:Key}(Ws:WS w c bs h nx n0)(hl:bs.length≤1048576) :
  aH C eL [.ptr w 0] h nx (fun o h' nx'=>(∃c',o=.ret c'∧iB 1 eY c' bs)∧Ext h nx h' nx'):=by
 have s1:=kTSu nx;refine S.call ?_;have EO:ae w (av nx (Vv []) h)=Vv [c]:=by rw[az Ws.hi];exact Ws.at_
 simp[lN];simp[uP];obtain⟨c',h',nx',g,hn,hR,hf⟩:=alM (q:=nx) (n0:=nx) (h:=av nx (Vv []) h) (nx:=nx.succ) (by rw[gTSm]) (fa _) (by omega) bs hl;have hE:Ext h nx (aN 9999 c' h').2 nx':=⟨by omega,fun b hb=>by rw[hf b hb,az hb]⟩;rcases Ws.app.is with⟨rfl,e1,e2⟩|⟨b,rfl,hb,xH,bY,ZA⟩|⟨t,rfl,ht,xH,bY⟩
 ·have:bs=[]:=SK e2;subst this;simp only[aez,List.length_nil]at g;simp[-appendTo,iI,EO,g];exact⟨hR,hE⟩
 ·have hb2:ae b (av nx (Vv []) h)=some (.cells (ag eY bs) .part):=by rw[az bY];exact hb
  have hz:∀H,bC (aN 9999) (ag eY bs) H=(ag eY bs,H):=fun H=>cn (Hq.Er bs);have hle:bs.length≤(ag eY bs).length:=by rw[Hq.rows];omega
  have Hr:List.take bs.length (ag eY bs)=ag eY bs:=OV (by rw[Hq.rows];omega);simp[-appendTo,iI,EO,hb2,hz,hle,Hr,g];exact⟨hR,hE⟩
 ·simp[-appendTo,iI,EO,g];exact⟨hR,hE⟩
end Ln
namespace Ln
open Go.Sx Go
abbrev kJ(n:Nat):AV:=.int .u64 (.lit (n:Int))
def NA(a b:Nat):Nat:=Nat.xor a b%18446744073709551616
def orU(a b:Nat):Nat:=Nat.lor a b%18446744073709551616
def aca(a b:Nat):Nat:=a*b%18446744073709551616
def Zr(a k:Nat):Nat:=a*2^k%18446744073709551616
def Q5(n:Int):Nat:=(n.emod 18446744073709551616).toNat
theorem Mi(n:Int):bP .u64 n=((Q5 n:Nat):Int):=aey n
theorem as9(a b:Nat):arith .mul .u64 (.lit (a:Int)) (.lit (b:Int))=some (.lit ((aca a b:Nat):Int)):=by show some (SI.lit (bP .u64 (Int.mul (a:Int) (b:Int))))=_;rw[Mi];rfl
section
variable{C:bK}{Q:cH}{L:List ay}{tm:T AV}{h:T ah}{nx d x y:Key}
theorem qZ{o:BinOp}{a b:PX}{v:AV}(hl:lightOp C.orc (.bin o a b) tm h=some v):lH C Q (⟨some d,.bin o a b,none⟩ ::L) tm h nx=lH C Q L (av d (some v) tm) h nx:=by simp only[Wc,Wd,We,Wf,Wg,Wh,wants_none,SU,aOp,okV,hl,putTm_some]
theorem T6(a b:Nat)(h1:ae x tm=some (kJ a))(h2:ae y tm=some (kJ b)):lH C Q (⟨some d,.bin .xor (.t x) (.t y),none⟩ ::L) tm h nx=lH C Q L (av d (some (kJ (NA a b))) tm) h nx:=
 qZ (by simp only[lightOp,at_t,h1,h2];rfl)
theorem aqu(a b:Nat)(h1:ae x tm=some (kJ a))(h2:ae y tm=some (kJ b)):lH C Q (⟨some d,.bin .or (.t x) (.t y),none⟩ ::L) tm h nx=lH C Q L (av d (some (kJ (orU a b))) tm) h nx:=
 qZ (by simp only[lightOp,at_t,h1,h2];rfl)
theorem akm(a:Nat)(h1:ae x tm=some (kJ a)):lH C Q (⟨some d,.bin .mul (.t x) (.v (.int .u64 (.lit 11400714819323198485))),none⟩ ::L) tm h nx=lH C Q L (av d (some (kJ (aca a 11400714819323198485))) tm) h nx:=
 qZ (by simp only[lightOp,at_t,at_v,h1];show(match arith .mul .u64 (.lit (a:Int)) (.lit ((11400714819323198485:Nat):Int))with|some r=>some (AV.int .u64 r)|none=>none)=_;rw[as9])
theorem ah6(a:Nat)(h1:ae x tm=some (kJ a)):lH C Q (⟨some d,.bin .shl (.t x) (.v (.int .u64 (.lit 8))),none⟩ ::L) tm h nx=lH C Q L (av d (some (kJ (Zr a 8))) tm) h nx:=
 qZ (by simp only[lightOp,at_t,at_v,h1];show some (AV.int .u64 (.lit (bP .u64 (Int.mul (a:Int) (.ofNat (Nat.pow 2 8))))))=_;rw[Mi];rfl)
theorem afS(a:Nat)(h1:ae x tm=some (kJ a)):lH C Q (⟨some d,.bin .shr (.t x) (.v (.int .u64 (.lit 32))),none⟩ ::L) tm h nx=lH C Q L (av d (some (kJ (a / 4294967296))) tm) h nx:=
 qZ (by simp only[lightOp,at_t,at_v,h1];rfl)
end
def KB(s w:Nat):Nat:=NA (aca (NA s w) 11400714819323198485) (aca (NA s w) 11400714819323198485 / 4294967296)
variable{C:bK}{X:Kn}(S:Std C X)(H:Mk C)
include S H
theorem Vp(s w:Nat){h:T ah}{nx:Key}:aH C fy [kJ s,kJ w] h nx (fun o h' nx'=>o=.ret (kJ (KB s w))∧h'=h∧nx'=nx):=by refine H.PU.call ?_;simp[PV];simp[Nc];simp[Nd,↓T6 s w,↓akm (NA s w)];simp[Nf,↓afS (aca (NA s w) 11400714819323198485),↓T6 (aca (NA s w) 11400714819323198485) (aca (NA s w) 11400714819323198485 / 4294967296)];rfl
end Ln
namespace Ln
open Go.Sx Go
variable{C:bK}{X:Kn}(S:Std C X)
include S
end Ln
namespace Ln
open Go.Sx Go
def Vb(os:List Op)(k d q:Nat):Bool:=!(d.testBit q&&before (os.getD k default) (os.getD q default)) && !(!d.testBit q&&decide (0≤(os.getD q default).e)&&before (os.getD q default) (os.getD k default))
def Qr(os:List Op)(k d:Nat):Bool:=!d.testBit k&&(List.range os.length).all (Vb os k d)
theorem adW{os:List Op}(hb:∀o∈os,before o o=false){k d q:Nat}(hk:k<os.length):Vb os k d q=Vc os k d q:=by
 unfold Vb Vc;by_cases e:q=k
 ·subst e;have:=hb _ (Mg hk);rw[mQ hk,this];simp
 ·have:(q==k)=false:=by simpa using e
  rw[this,Bool.false_or];cases d.testBit q<;>cases before (os.getD k default) (os.getD q default)<;>cases before (os.getD q default) (os.getD k default)<;>cases decide (0≤(os.getD q default).e)<;>rfl
theorem amu{os:List Op}(hb:∀o∈os,before o o=false){k d:Nat}(hk:k<os.length):Qr os k d=xN os k d:=by have:xN os k d=(!d.testBit k&&(List.range os.length).all (Vc os k d)):=rfl;rw[this];unfold Qr;congr 1;rw[Bool.eq_iff_iff,vJ,vJ];exact⟨fun h q hq=>by rw[←adW hb hk];exact h q hq,fun h q hq=>by rw[adW hb hk];exact h q hq⟩
theorem adX{d k:Nat}(hd:d<65536):bP .i64 ((Oq .i64 ((d.div (2^k):Nat):Int) &&& Oq .i64 1:Nat):Int)=if d.testBit k=true then 1 else 0:=by
 have h1:d.div (2^k)≤d:=Nat.div_le_self _ _;have h2:Oq .i64 ((d.div (2^k):Nat):Int)=d.div (2^k):=r9 (by omega);have h3:Oq .i64 1=1:=by decide
 rw[h2,h3,Nat.and_one_is_mod,aC (by omega) (by omega),Nat.testBit_eq_decide_div_mod_eq];show(((d / 2^k)%2:Nat):Int)=_;by_cases h:d / 2^k%2=1
 ·simp[h]
 ·have:d / 2^k%2=0:=by omega
  simp[this]
def TiI(X:Kn)(os:List Op)(cells:List AV)(cO:AV)(k d:Nat)(bj:Key)(h:T ah)(nx:Key)(m:Nat)(aw:T AV)(h':T ah)(nx':Key):Prop:=∃j:Nat,m=os.length-j∧j≤os.length∧ae (K 0) aw=some (.ptr bj 0)∧ae (K 1) aw=some (I k)∧ae (K 2) aw=some (I d)∧ae (K 18) aw=some cO∧ae (K 19) aw=some (I os.length)∧ae (K 20) aw=some (I j)∧ae bj h'=Vv cells∧Ext h nx h' nx'∧∀q,q<j→Vb os k d q=true
variable{C:bK}{X:Kn}(S:Std C X)
include S
theorem ae4{i:Nat}{os:List Op}(ho:os.length≤16){cO:AV}(hc:iB 10 eO cO os){s0:St}{en k d:Nat}(hk:k<os.length)(hd:d<65536){h:T ah}{nx bj:Key}(hb:ae bj h=Vv (jB X i cO s0 en))(By:bj.toNat<nx.toNat) :
  aH C eb [.ptr bj 0,I k,I d] h nx (fun o h' nx'=>o=.ret (.bool (Qr os k d))∧Ext h nx h' nx'):=by
 have rB:=S.r fV;have BX:cO=.sl (ag eO os) os.length 10 .any:=by
  rcases hc with⟨_,rfl⟩|e
  ·simp at hk
  ·exact e
 subst BX;have hr:=ez.rows os;have eck:=ez.at hk;have tk:10≤os.length*10-k*10:=by omega
 have vS:k≤64:=by omega
 refine S.qg.call ?_;simp[ly];simp[oH];have ab:=adX (k:=k) hd;cases UM:d.testBit k with
 |true=>
  rw[UM,if_pos rfl]at ab;have:Qr os k d=false:=by unfold Qr;rw[UM];rfl
  simp[iX,Lo,vS,ab];simp[oR];exact⟨this,Ext.refl _ _⟩
 |false=>
  rw[UM,if_neg (by simp)]at ab;have z6:Qr os k d=(List.range os.length).all (Vb os k d):=by unfold Qr;rw[UM];rfl
  simp[iX,Lo,vS,ab];simp[oU,hb,jB];refine W.cM (n:=os.length) (TiI X os (jB X i (.sl (ag eO os) os.length 10 .any) s0 en) (.sl (ag eO os) os.length 10 .any) k d bj h nx) ⟨0,by simp,by omega,by simp,by simp,by simp,by simp,by simp,by simp,by simpa[jB]using hb,Ext.refl _ _,fun q hq=>absurd hq (by omega)⟩ ?_;rintro m dD h2 aU ⟨j,rfl,hj,g0,g1,g2,g18,g19,g20,Tm,e2,hq⟩;have n2:=e2.n;have s2:=kTSu aU;refine W.of ?_;simp[oV];by_cases bG:j<os.length
  ·have sZ:(j:Int)<os.length:=by omega
   have ecj:=ez.at bG;have tj:10≤os.length*10-j*10:=by omega
   have j64:j≤64:=by omega
   have GZ:Vb os k d j=(!(d.testBit j&&before os[k] os[j]) && !(!d.testBit j&&decide (0≤os[j].e)&&before os[j] os[k])):=by unfold Vb;rw[mQ bG,mQ hk]
   have RA:(eO os[j]).all AV.aP=true:=vJ.2 (ez.cell _);have abj:=adX (k:=j) hd;simp[iY,g19,g20,sZ];simp[oW,g18,g20,bG,hr,tj,ecj,UC,MI,RA];have e3:=E0 h2 aU (.cells (eO os[j]) .fix);have bo3:ae aU (av aU (Vv (eO os[j])) h2)=Vv (eO os[j]):=by simp
   have Ps:ae bj (av aU (Vv (eO os[j])) h2)=Vv (jB X i (.sl (ag eO os) os.length 10 .any) s0 en):=by rw[e3.g bj (by omega)];exact Tm
   have NK:=e2.trans e3;generalize av aU (Vv (eO os[j])) h2=h3 at *;have fail:Vb os k d j=false→∀h' nx',Ext h nx h' nx'→(Qr os k d=false∧Ext h nx h' nx'):=fun hf h' nx' e'=>⟨by rw[z6,Vd bG hf],e'⟩;have next:∀(aW:T AV) (h':T ah) (nx':Key),ae (K 0) aW=some (.ptr bj 0)→ae (K 1) aW=some (I k)→ae (K 2) aW=some (I d)→ae (K 18) aW=some (.sl (ag eO os) os.length 10 .any)→ae (K 19) aW=some (I os.length)→ae (K 20) aW=some (I j)→ae bj h'=Vv (jB X i (.sl (ag eO os) os.length 10 .any) s0 en)→Ext h nx h' nx'→Vb os k d j=true→
     lH C (aM (fun tm h' nx'=>∃m,m<os.length-j∧TiI X os (jB X i (.sl (ag eO os) os.length 10 .any) s0 en) (.sl (ag eO os) os.length 10 .any) k d bj h nx m tm h' nx') (aA 0 (aM (iH C (.seq (.ops iy) .ret) (dF [.tmp (K 6)] fun o h' nx'=>o=.ret (.bool (Qr os k d))∧Ext h nx h' nx')) (dF [.tmp (K 6)] fun o h' nx'=>o=.ret (.bool (Qr os k d))∧Ext h nx h' nx')))) iZ aW h' nx':=by
    intro aW h' nx' q0 q1 q2 q18 q19 q20 b' e' sO;simp[iZ,q20];rw[aC (by omega) (by omega)];exact⟨os.length-(j+1),by omega,j+1,rfl,by omega,by simp[q0],by simp[q1],by simp[q2],by simp[q18],by simp[q19],by simp,b',e',Ve hq sO⟩
   cases hbj:d.testBit j with
   |true=>
    rw[hbj,if_pos rfl]at abj;rw[hbj]at GZ;simp[ja,g2,Lo,j64,abj];simp[fq,g0,g1,Ps,jB,bo3,hk,hr,tk,eck,MI,UC,rB,ac9];refine(Qs S os[k] os[j] _ _).mono ?_;rintro o h4 jw ⟨rfl,e4⟩;have ZN:ae bj h4=Vv (jB X i (.sl (ag eO os) os.length 10 .any) s0 en):=by rw[e4.g bj (by omega)];exact Ps
    cases nC:before os[k] os[j]with
    |true=>rw[nC]at GZ;simp;simp[jb];exact fail (by rw[GZ];rfl) _ _ (NK.trans e4)
    |false=>rw[nC]at GZ;simp;refine next _ _ _ ?_ ?_ ?_ ?_ ?_ ?_ ZN (NK.trans e4) (by rw[GZ];rfl)<;>simp[g0,g1,g2,g18,g19,g20]
   |false=>
    rw[hbj,if_neg (by simp)]at abj;rw[hbj]at GZ;simp[ja,g2,Lo,j64,abj];by_cases he:os[j].e<0
    ·have he2:¬0≤os[j].e:=by omega
     simp[he2]at GZ;have ZM:(eO os[j])[2]?=some (I os[j].e):=rfl;simp[fq,g0,g1,bo3,ZM,he];refine next _ _ _ ?_ ?_ ?_ ?_ ?_ ?_ Ps NK GZ<;>simp[g0,g1,g2,g18,g19,g20]
    ·have he2:0≤os[j].e:=by omega
     simp[he2]at GZ;have ZM:(eO os[j])[2]?=some (I os[j].e):=rfl;simp[fq,g0,g1,Ps,jB,bo3,hk,hr,tk,eck,MI,UC,rB,ac9,ZM,he];refine(Qs S os[j] os[k] _ _).mono ?_;rintro o h4 jw ⟨rfl,e4⟩;have ZN:ae bj h4=Vv (jB X i (.sl (ag eO os) os.length 10 .any) s0 en):=by rw[e4.g bj (by omega)];exact Ps
     cases nC:before os[j] os[k]with
     |true=>rw[nC]at GZ;simp;simp[jb];exact fail (by rw[GZ];rfl) _ _ (NK.trans e4)
     |false=>rw[nC]at GZ;simp;refine next _ _ _ ?_ ?_ ?_ ?_ ?_ ?_ ZN (NK.trans e4) (by rw[GZ];rfl)<;>simp[g0,g1,g2,g18,g19,g20]
  ·have vK:j=os.length:=by omega
   subst vK;have fin:Qr os k d=true:=by rw[z6];exact Qt hq
   simp[iY,g19,g20];simp[iy];exact⟨fin,e2⟩
end Ln
namespace Go.Sx
def aee(ds:List Key):List TR:=ds.map TR.coll
abbrev ox:=Ex→List Key→T AV→T ah→Key→Prop
def qv(af:lG)(ds:List Key):lG:={af with dfs:=aee ds++af.dfs}
def axO(Q:ox)(af:lG)(k:List cT)(cs:List lG)(m:AM):Prop:=∃e ds aw h' nx' fr,Q e ds aw h' nx'∧Aft (qv af ds) k e aw fr∧m=⟨fr,cs,h',nx'⟩
def VI(C:bK)(x:cT)(Q:ox)(ds:List Key)(tm:T AV)(h:T ah)(nx:Key):Prop:=
 ∀(af:lG) (k:List cT) (cs:List lG),af.mode=.run→af.sV=none→Ev C (axO Q af k cs) ⟨{qv af ds with tm:=tm,todo:=x ::k},cs,h,nx⟩
abbrev V(C:bK)(c:aG):ox→List Key→T AV→T ah→Key→Prop:=VI C (.code c)
section
variable{C:bK}{Q Q':ox}{ds:List Key}{tm:T AV}{h:T ah}{nx:Key}
theorem VI.mono{x:cT}(hw:VI C x Q ds tm h nx)(hq:∀e ds tm h nx,Q e ds tm h nx→Q' e ds tm h nx):VI C x Q' ds tm h nx:=by intro af k cs h1 h2;refine(hw af k cs h1 h2).mono ?_;rintro m ⟨e,zD,aw,h',nx',fr,q,a,t⟩;exact⟨e,zD,aw,h',nx',fr,hq _ _ _ _ _ q,a,t⟩
theorem V.YE{c:aG}(hw:W C c (fun e tm h nx=>Q e ds tm h nx) tm h nx):V C c Q ds tm h nx:=by intro af k cs h1 h2;refine(hw (qv af ds) k cs h1 trivial).mono ?_;rintro m ⟨e,aw,h',nx',fr,q,a,t⟩;exact⟨e,ds,aw,h',nx',fr,q,a,t⟩
def VE(Wp:List Key→T AV→T ah→Key→Prop)(Q:ox):ox:=fun e ds tm h nx=>match e with
 |.norm=>Wp ds tm h nx
 |e=>Q e ds tm h nx
def uc(id:Nat)(Q:ox):ox:=fun e ds tm h nx=>match e with
 |.exit j=>if j=id then Q .norm ds tm h nx else Q (.exit j) ds tm h nx
 |e=>Q e ds tm h nx
theorem V.seq{a b:aG}(hw:V C a (VE (V C b Q) Q) ds tm h nx):V C (.seq a b) Q ds tm h nx:=by
 intro af k cs h1 h2;refine .step (m':=⟨{qv af ds with tm:=tm,todo:=.code a ::.code b ::k},cs,h,nx⟩) (bp h1 rfl) ((hw af (.code b ::k) cs h1 h2).bind ?_);rintro m ⟨e,zD,aw,h',nx',fr,q,ha,rfl⟩;cases e with
 |norm=>cases ha;exact q af k cs h1 h2
 |ret=>exact .now ⟨.ret,zD,aw,h',nx',fr,q,ha,rfl⟩
 |exit id=>obtain⟨k2,e1,e2⟩:=ha;exact .now ⟨.exit id,zD,aw,h',nx',fr,q,⟨k2,e1,e2⟩,rfl⟩
 |pan a=>exact .now ⟨.pan a,zD,aw,h',nx',fr,q,ha,rfl⟩
theorem V.cond{x:PX}{a b:aG}{t:Bool}(hx:x.at tm=some (.bool t))(hw:V C (if t then a else b) Q ds tm h nx):V C (.cond x a b) Q ds tm h nx:=by intro af k cs h1 h2;refine .step (m':=⟨{qv af ds with tm:=tm,todo:=.code (if t then a else b) ::k},cs,h,nx⟩) (bp h1 ?_) (hw af k cs h1 h2);simp only[bT,hx];cases t<;>rfl
theorem V.block{id:Nat}{c:aG}(hw:V C c (uc id Q) ds tm h nx):V C (.block id c) Q ds tm h nx:=by
 intro af k cs h1 h2;refine .step (m':=⟨{qv af ds with tm:=tm,todo:=.code c ::.inBlock id ::k},cs,h,nx⟩) (bp h1 rfl) ((hw af (.inBlock id ::k) cs h1 h2).bind ?_);rintro m ⟨e,zD,aw,h',nx',fr,q,ha,rfl⟩;cases e with
 |norm=>cases ha;exact .step (m':=⟨{qv af zD with tm:=aw,todo:=k},cs,h',nx'⟩) (bp h1 rfl) (.now ⟨.norm,zD,aw,h',nx',_,q,rfl,rfl⟩)
 |ret=>exact .now ⟨.ret,zD,aw,h',nx',fr,q,ha,rfl⟩
 |exit j=>
  obtain⟨k2,e1,rfl⟩:=ha;by_cases hj:j=id
  ·subst hj;simp only[uc,if_true]at q;refine .step (m':=⟨{qv af zD with tm:=aw,todo:=k},cs,h',nx'⟩) (bp h1 ?_) (.now ⟨.norm,zD,aw,h',nx',_,q,rfl,rfl⟩);simp only[bT,e1,lL,beqN_eq,decide_true,cond_true]
  ·simp only[uc,if_neg hj]at q;refine .now ⟨.exit j,zD,aw,h',nx',_,q,⟨k2,?_,rfl⟩,rfl⟩;rw[e1];simp only[lL,beqN_eq,show ¬id=j from fun e=>hj e.symm,decide_false,cond_false]
 |pan a=>exact .now ⟨.pan a,zD,aw,h',nx',fr,q,ha,rfl⟩
theorem V.cM{c:aG}(Inv:Nat→List Key→T AV→T ah→Key→Prop){n:Nat}(hi:Inv n ds tm h nx)
  (hw:∀n ds tm h nx,Inv n ds tm h nx→V C c (VE (fun ds tm h nx=>∃m,m<n∧Inv m ds tm h nx) Q) ds tm h nx):V C (.loop c) Q ds tm h nx:=by
 have key:∀(n:Nat) (ds:List Key) (tm:T AV) (h:T ah) (nx:Key),Inv n ds tm h nx→VI C (.inLoop c) Q ds tm h nx:=by
  intro n
  induction n using Nat.strongRecOn with
  |_ n ih=>
   intro ds tm h nx hi af k cs h1 h2;refine .step (m':=⟨{qv af ds with tm:=tm,todo:=.code c ::.inLoop c ::k},cs,h,nx⟩) (bp h1 rfl) ((hw n ds tm h nx hi af (.inLoop c ::k) cs h1 h2).bind ?_);rintro m ⟨e,zD,aw,h',nx',fr,q,ha,rfl⟩;cases e with
   |norm=>cases ha;obtain⟨m,hm,him⟩:=q;exact ih m hm zD aw h' nx' him af k cs h1 h2
   |ret=>exact .now ⟨.ret,zD,aw,h',nx',fr,q,ha,rfl⟩
   |exit id=>obtain⟨k2,e1,e2⟩:=ha;exact .now ⟨.exit id,zD,aw,h',nx',fr,q,⟨k2,e1,e2⟩,rfl⟩
   |pan a=>exact .now ⟨.pan a,zD,aw,h',nx',fr,q,ha,rfl⟩
 intro af k cs h1 h2;refine .step (m':=⟨{qv af ds with tm:=tm,todo:=.code c ::.inLoop c ::k},cs,h,nx⟩) (bp h1 rfl) ((hw n ds tm h nx hi af (.inLoop c ::k) cs h1 h2).bind ?_);rintro m ⟨e,zD,aw,h',nx',fr,q,ha,rfl⟩;cases e with
 |norm=>cases ha;obtain⟨m,hm,him⟩:=q;exact key m zD aw h' nx' him af k cs h1 h2
 |ret=>exact .now ⟨.ret,zD,aw,h',nx',fr,q,ha,rfl⟩
 |exit id=>obtain⟨k2,e1,e2⟩:=ha;exact .now ⟨.exit id,zD,aw,h',nx',fr,q,⟨k2,e1,e2⟩,rfl⟩
 |pan a=>exact .now ⟨.pan a,zD,aw,h',nx',fr,q,ha,rfl⟩
def aEX(Q:ox):Option aG→List Key→T AV→T ah→Key→Prop
 |none,ds,tm,h,nx=>Q .norm ds tm h nx
 |some .ret,ds,tm,h,nx=>Q .ret ds tm h nx
 |some (.exit i),ds,tm,h,nx=>Q (.exit i) ds tm h nx
 |some _,_,_,_,_=>False
def ad7(Q:ox)(d l:Key)(fn:Nat)(tm:T AV)(res:List RV)(ps:List Key)(a b:aG)(ds:List Key):Out→T ah→Key→Prop:=fun o h' nx'=>∃v,o=.ret v∧∃st pd,ae l h'=some (.loop st pd fn tm res ps a b d)∧st≠.busy∧aEX Q pd (d ::ds) tm (av l (some (.loop .exhausted pd fn tm res ps a b d)) h') nx'
noncomputable def oy(fn:Nat)(tm:T AV)(res:List RV)(ps:List Key)(a b:aG)(h:T ah)(nx:Key):T ah:=av nx.succ (some (.loop .ready none fn tm res ps a b nx)) (av nx (some (.dfs false)) h)
theorem V.rangeF{f:PX}{ps:List Key}{a b:aG}{g:Nat}{first cap:List AV}(hf:f.at tm=some (.fn g first cap))(hs:∀l h nx,C.sum g l h nx=none)
  (hc:∀fn res,aH C g (first ++ .yld nx.succ ::cap) (oy fn tm res ps a b h nx) nx.succ.succ (ad7 Q nx nx.succ fn tm res ps a b ds)):V C (.rangeF f ps a b) Q ds tm h nx:=by
 intro af k cs h1 h2;rcases hc af.fn af.res with⟨v,h',nx',e,_⟩|⟨_,p,hp,fC⟩
 ·rw[hs]at e;cases e
 ·refine .step (m':=⟨an g p (first ++ .yld nx.succ ::cap),{qv af (nx ::ds)with tm:=tm,todo:=.inRF nx.succ ::k} ::cs,oy af.fn tm af.res ps a b h nx,nx.succ.succ⟩) (bp h1 ?_) ((fC _).bind ?_)
  ·have hp':(bif Nat.beq (Key.fe 12 g).toNat g then ae (Key.fe 12 g) C.fns else none)=some p:=hp;have hr:(qv af ds).sV=none:=h2;simp only[bT,hf,hr,sTCe,Ey,hp',BB];have Pq:(qv af (nx ::ds)).sV=none:=h2;rw[Pq];rfl
  ·rintro m2 ⟨o,h',nx',KZ,h3,⟨v,rfl,st,pd,hl,dy,hq⟩,hfn,hdf,⟨hd,NN,l,MD,rfl,rfl⟩,rfl⟩;have e1:iD C ⟨KZ,{qv af (nx ::ds)with tm:=tm,todo:=.inRF nx.succ ::k} ::cs,h3,nx'⟩=.next ⟨{qv af (nx ::ds)with tm:=tm,todo:=.endRF nx.succ ::k},cs,(b9 (C.kY g) l h3).2,nx'⟩:=by unfold iD;simp only[NN];unfold yb;simp only[hd,NN,MD,hfn,wc];unfold JF;simp only[hdf,cond_false,cz]
   refine .step e1 ?_;refine .step (m':=⟨{qv af (nx ::ds)with tm:=tm,todo:=(pd.map cT.code).toList++k},cs,av nx.succ (some (.loop .exhausted pd af.fn tm af.res ps a b nx)) (b9 (C.kY g) l h3).2,nx'⟩) (bp h1 ?_) ?_
   ·cases st with
    |busy=>exact absurd rfl dy
    |_=>simp only[bT,hl,sTCe];cases pd<;>rfl
   ·cases pd with
    |none=>exact .now ⟨.norm,_,_,_,_,_,hq,rfl,rfl⟩
    |some c=>
     cases c with
     |ret=>exact .now ⟨.ret,_,_,_,_,_,hq,⟨k,rfl⟩,rfl⟩
     |exit i=>exact .now ⟨.exit i,_,_,_,_,_,hq,⟨k,rfl,rfl⟩,rfl⟩
     |_=>exact hq.elim
end
noncomputable def Nt(C:bK):aG→ox→List Key→T AV→T ah→Key→Prop
 |.seq a b,Q,ds,tm,h,nx=>Nt C a (VE (Nt C b Q) Q) ds tm h nx
 |.cond x a b,Q,ds,tm,h,nx=>match x.at tm with
  |some (.bool t)=>(t=true→Nt C a Q ds tm h nx)∧(t=false→Nt C b Q ds tm h nx)
  |_=>False
 |.block id c,Q,ds,tm,h,nx=>Nt C c (uc id Q) ds tm h nx
 |.loop c,Q,ds,tm,h,nx=>V C (.loop c) Q ds tm h nx
 |.rangeF f ps a b,Q,ds,tm,h,nx=>V C (.rangeF f ps a b) Q ds tm h nx
 |.skip,Q,ds,tm,h,nx=>Q .norm ds tm h nx
 |.exit id,Q,ds,tm,h,nx=>Q (.exit id) ds tm h nx
 |.ret,Q,ds,tm,h,nx=>Q .ret ds tm h nx
 |.ops l,Q,ds,tm,h,nx=>lH C (fun e tm h nx=>Q e ds tm h nx) l tm h nx
 |.staged l d,Q,ds,tm,h,nx=>wpS C (fun e tm h nx=>Q e ds tm h nx) d l [] tm h nx
section
variable{C:bK}
theorem sK:∀{c:aG} {Q:ox} {ds:List Key} {tm:T AV} {h:T ah} {nx:Key},Nt C c Q ds tm h nx→V C c Q ds tm h nx
 |.seq a b,Q,ds,tm,h,nx,hw=>by
  have hw:Nt C a (VE (Nt C b Q) Q) ds tm h nx:=hw;refine V.seq ((sK hw).mono fun e ds tm h nx hq=>?_);cases e with
  |norm=>exact sK hq
  |_=>exact hq
 |.cond x a b,Q,ds,tm,h,nx,hw=>by
  unfold Nt at hw;split at hw
  ·rename_i t hx;refine V.cond hx ?_;cases t with
   |true=>exact sK (hw.1 rfl)
   |false=>exact sK (hw.2 rfl)
  ·exact hw.elim
 |.block id c,Q,ds,tm,h,nx,hw=>by have hw:Nt C c (uc id Q) ds tm h nx:=hw;exact V.block (sK hw)
 |.loop c,Q,ds,tm,h,nx,hw=>hw
 |.rangeF f ps a b,Q,ds,tm,h,nx,hw=>hw
 |.skip,Q,ds,tm,h,nx,hw=>V.YE (W.skip hw)
 |.exit id,Q,ds,tm,h,nx,hw=>V.YE (W.exit hw)
 |.ret,Q,ds,tm,h,nx,hw=>V.YE (W.ret hw)
 |.ops l,Q,ds,tm,h,nx,hw=>V.YE (W.ops (Bd hw))
 |.staged l d,Q,ds,tm,h,nx,hw=>V.YE (W.staged (Be hw))
variable(Q:ox)(ds:List Key)(tm:T AV)(h:T ah)(nx:Key)
@[simp] theorem azo(a b:aG):Nt C (.seq a b) Q ds tm h nx=Nt C a (VE (Nt C b Q) Q) ds tm h nx:=vT Iff.rfl
@[simp] theorem axP(x:PX)(a b:aG):Nt C (.cond x a b) Q ds tm h nx=(match x.at tm with
  |some (.bool t)=>(t=true→Nt C a Q ds tm h nx)∧(t=false→Nt C b Q ds tm h nx)
  |_=>False):=vT Iff.rfl
@[simp] theorem auV(id:Nat)(c:aG):Nt C (.block id c) Q ds tm h nx=Nt C c (uc id Q) ds tm h nx:=vT Iff.rfl
@[simp] theorem axQ(c:aG):Nt C (.loop c) Q ds tm h nx=V C (.loop c) Q ds tm h nx:=vT Iff.rfl
@[simp] theorem ath(f:PX)(ps:List Key)(a b:aG):Nt C (.rangeF f ps a b) Q ds tm h nx=V C (.rangeF f ps a b) Q ds tm h nx:=vT Iff.rfl
@[simp] theorem axR:Nt C .skip Q ds tm h nx=Q .norm ds tm h nx:=vT Iff.rfl
@[simp] theorem axS(id:Nat):Nt C (.exit id) Q ds tm h nx=Q (.exit id) ds tm h nx:=vT Iff.rfl
@[simp] theorem azp:Nt C .ret Q ds tm h nx=Q .ret ds tm h nx:=vT Iff.rfl
def atD(Q:ox)(ds:List Key):cH:=fun e tm h nx=>Q e ds tm h nx
@[simp] theorem aEY(e:Ex):atD Q ds e tm h nx=Q e ds tm h nx:=vT Iff.rfl
@[simp] theorem azq(l:List ay):Nt C (.ops l) Q ds tm h nx=lH C (atD Q ds) l tm h nx:=vT Iff.rfl
@[simp] theorem ati(l:List aL)(d:SD):Nt C (.staged l d) Q ds tm h nx=wpS C (atD Q ds) d l [] tm h nx:=vT Iff.rfl
@[simp] theorem auW(Wp:List Key→T AV→T ah→Key→Prop):VE Wp Q .norm ds tm h nx=Wp ds tm h nx:=vT Iff.rfl
@[simp] theorem axT(Wp:List Key→T AV→T ah→Key→Prop):VE Wp Q .ret ds tm h nx=Q .ret ds tm h nx:=vT Iff.rfl
@[simp] theorem auX(Wp:List Key→T AV→T ah→Key→Prop)(i:Nat):VE Wp Q (.exit i) ds tm h nx=Q (.exit i) ds tm h nx:=vT Iff.rfl
@[simp] theorem axU(Wp:List Key→T AV→T ah→Key→Prop)(a:AV):VE Wp Q (.pan a) ds tm h nx=Q (.pan a) ds tm h nx:=vT Iff.rfl
@[simp] theorem apw(j:Nat):uc j Q .norm ds tm h nx=Q .norm ds tm h nx:=vT Iff.rfl
@[simp] theorem atj(j:Nat):uc j Q .ret ds tm h nx=Q .ret ds tm h nx:=vT Iff.rfl
@[simp] theorem apx(j i:Nat):uc j Q (.exit i) ds tm h nx=if i=j then Q .norm ds tm h nx else Q (.exit i) ds tm h nx:=vT Iff.rfl
@[simp] theorem atk(j:Nat)(a:AV):uc j Q (.pan a) ds tm h nx=Q (.pan a) ds tm h nx:=vT Iff.rfl
end
def ajY(res:List RV)(R:Out→T ah→Key→Prop):ox:=fun e ds tm h nx=>match e with
 |.norm|.ret=>ds.Nodup∧(∀b∈ds,ae b h=some (.dfs false))∧∀h2:T ah,(∀b,b∉ds→ae b h2=ae b h)→∃l,resultsA h2 tm res=some l∧R (.ret (mz (bC (aN 9999) l h2).1)) (bC (aN 9999) l h2).2 nx
 |_=>False
theorem Nu{C:bK}{S:AM→Prop}:∀(ds:List Key) (fr:lG) (cs:List lG) (h:T ah) (nx:Key),ds.Nodup→(∀b∈ds,ae b h=some (.dfs false))→fr.mode=.ret→fr.dfs=aee ds→
  (∀h2:T ah,(∀b,b∉ds→ae b h2=ae b h)→Ev C S ⟨{fr with dfs:=[]},cs,h2,nx⟩)→Ev C S ⟨fr,cs,h,nx⟩
 | [],fr,cs,h,nx,_,_,_,hd,hk=>by
  have:=hk h (fun _ _=>rfl);have e:({fr with dfs:=[]}:lG)=fr:=by cases fr;cases hd;rfl
  rw[e]at this;exact this
 |b ::ds,fr,cs,h,nx,hn,hb,hm,hd,hk=>by
  rw[List.nodup_cons]at hn;refine .step (m':=⟨{fr with dfs:=aee ds},cs,av b (some (.dfs true)) h,nx⟩) ?_ (Nu ds _ cs _ nx hn.2 (fun c hc=>?_) hm rfl fun h2 h3=>?_)
  ·have hd:fr.dfs=.coll b ::aee ds:=hd;unfold iD;simp only[hm];unfold yb;simp only[hd,hb b (by simp),sTCe,hm]
  ·rw[aR _ _ _ _ (fun e=>hn.1 (by rw[←e];exact hc))];exact hb c (by simp[hc])
  ·refine hk h2 fun c hc=>?_;simp only[K3,not_or]at hc;rw[h3 c hc.2,aR _ _ _ _ hc.1]
theorem aH.aET{C:bK}{f:Nat}{p:ej}{l:List AV}{h:T ah}{nx:Key}{R:Out→T ah→Key→Prop}(hs:C.sum f l h nx=none)(hp:Fl C f=some p)(hr:C.kY f=false)(hw:V C p.body (ajY p.res R) [] (gw l (K 0) .nil) h nx):aH C f l h nx R:=by
 refine .inr ⟨hs,p,hp,fun cs=>(hw (an f p l) [] cs rfl rfl).bind ?_⟩;have fin:∀(aw:T AV) (t:List cT) (ds:List Key) (h':T ah) (nx':Key),ds.Nodup→(∀b∈ds,ae b h'=some (.dfs false))→(∀h2:T ah,(∀b,b∉ds→ae b h2=ae b h')→∃l,resultsA h2 aw p.res=some l∧R (.ret (mz (bC (aN 9999) l h2).1)) (bC (aN 9999) l h2).2 nx')→
   Ev C (axo C f R cs) ⟨{qv (an f p l) ds with tm:=aw,todo:=t,mode:=.ret},cs,h',nx'⟩:=by
  intro aw t ds h' nx' q1 q2 q3;refine Nu ds _ cs h' nx' q1 q2 rfl (List.append_nil _) fun h2 h3=>?_;obtain⟨l1,hl,hR⟩:=q3 h2 h3;refine .now ⟨_,_,nx',_,h2,hR,rfl,rfl,⟨rfl,rfl,l1,hl,?_,?_⟩,rfl⟩<;>rw[hr]<;>rfl
 rintro m ⟨e,ds,aw,h',nx',fr,q,ha,rfl⟩;cases e with
 |norm=>cases ha;exact .step (m':=⟨{qv (an f p l) ds with tm:=aw,todo:=[],mode:=.ret},cs,h',nx'⟩) (bp rfl rfl) (fin _ _ _ _ _ q.1 q.2.1 q.2.2)
 |ret=>obtain⟨t',rfl⟩:=ha;exact .step (m':=⟨{qv (an f p l) ds with tm:=aw,todo:=.code .ret ::t',mode:=.ret},cs,h',nx'⟩) (bp rfl rfl) (fin _ _ _ _ _ q.1 q.2.1 q.2.2)
 |exit id=>exact q.elim
 |pan a=>exact q.elim
theorem Ah.mono{C:bK}{l:Key}{args:List AV}{h:T ah}{nx:Key}{R R':Out→T ah→Key→Prop}(hy:Ah C l args h nx R)(hr:∀o h nx,R o h nx→R' o h nx):Ah C l args h nx R':=by
 obtain⟨fn,tm,res,ps,a,b,d,hl,dD,hz,hw⟩:=hy;refine⟨fn,tm,res,ps,a,b,d,hl,dD,hz,hw.mono ?_⟩;rintro e aW h2 aU ⟨he,p,hp,hw2⟩;refine⟨he,p,hp,hw2.mono ?_⟩;rintro e3 SS h3 cF ⟨hp3,q⟩;refine⟨hp3,?_⟩;cases e3 with
 |norm=>exact hr _ _ _ q
 |ret=>exact hr _ _ _ q
 |exit i=>exact hr _ _ _ q
 |pan a=>exact q
end Go.Sx
namespace Ln
open Go.Sx Go
theorem PY(os:List Op)(q:Nat):∀n:Nat,(ik os n).testBit q=(decide (q<n)&&decide (0≤(os.getD q default).e))
 |0=>by simp[ik]
 |n+1=>by
  unfold ik;have ih:=PY os q n;by_cases he:0≤(os.getD n default).e
  ·rw[if_pos he,Nat.testBit_or,ih,Nat.testBit_two_pow];by_cases e:n=q
   ·subst e;simp;simpa using he
   ·by_cases hq:q<n
    ·simp[hq,show q<n+1 by omega,e]
    ·simp[hq,show ¬q<n+1 by omega,e]
  ·rw[if_neg he,ih];by_cases e:q=n
   ·subst e;simp;simpa using he
   ·by_cases hq:q<n
    ·simp[hq,show q<n+1 by omega]
    ·simp[hq,show ¬q<n+1 by omega]
theorem amt(os:List Op)(d:Nat):(d &&& ik os os.length=ik os os.length)↔Ag os d=true:=by
 unfold Ag;rw[vJ];constructor
 ·intro h q hq;have hq:=List.mem_range.1 hq;have h2:=congrArg (fun x=>Nat.testBit x q) h;simp only[Nat.testBit_and,PY,hq,decide_true,Bool.true_and]at h2;cases h3:decide (0≤(os.getD q default).e)with
  |false=>rfl
  |true=>rw[h3,Bool.and_true]at h2;rw[h2];rfl
 ·intro h;apply Nat.eq_of_testBit_eq;intro q;rw[Nat.testBit_and,PY];by_cases hq:q<os.length
  ·have:=h q (List.mem_range.2 hq);cases h3:decide (0≤(os.getD q default).e)with
   |false=>simp
   |true=>rw[h3]at this;simp at this;simp[hq,this]
  ·simp[hq]
variable{C:bK}{X:Kn}(S:Std C X)
include S
theorem ac0{i:Nat}{os:List Op}(ho:os.length≤16){cO:AV}{s0:St}{c:Cf St}(hd:c.1<65536){h:T ah}{nx bj:Key}(hb:ae bj h=Vv (jB X i cO s0 (ik os os.length)))(By:bj.toNat<nx.toNat) :
  aH C bX [.ptr bj 0,.agg (eC c)] h nx (fun o h' nx'=>o=.ret (.bool (Ag os c.1))∧Ext h nx h' nx'):=by
 refine S.ov.call ?_;simp[j7];simp[mZ,zP,mh];have e0:=E0 h nx (.cells (eC c) .fix);have bc:ae nx (av nx (Vv (eC c)) h)=Vv (eC c):=by simp
 have bj1:ae bj (av nx (Vv (eC c)) h)=Vv (jB X i cO s0 (ik os os.length)):=by rw[e0.g bj By];exact hb
 generalize av nx (Vv (eC c)) h=h1 at *;have elt:=UL os os.length;have p16:=jL (j:=os.length) ho;have S7:Oq .i64 (c.1:Int)=c.1:=r9 (by omega);have MD:Oq .i64 ((ik os os.length:Nat):Int)=ik os os.length:=r9 (by omega);have hle:c.1 &&& ik os os.length≤c.1:=Nat.and_le_left;have hw:bP .i64 ((c.1 &&& ik os os.length:Nat):Int)=((c.1 &&& ik os os.length:Nat):Int):=aC (by omega) (by omega);have ec0:(eC c)[0]?=some (I c.1):=rfl;simp[na,bc,bj1,jB,ec0,S7,MD,hw];refine⟨?_,e0⟩;rw[Bool.eq_iff_iff,beq_iff_eq,←amt];omega
theorem ae2{bj:Key}{c:Cf St}{h:T ah}{nx:Key}:aH C eJ [.ptr bj 0,.agg (eC c)] h nx (fun o h' nx'=>o=.ret (.fn bS [] [.ptr nx 0,.ptr nx.succ 0])∧ae nx h'=Vv [.ptr bj 0]∧ae nx.succ h'=Vv (eC c)∧nx'=nx.succ.succ∧Ext h nx h' nx'):=by have s1:=kTSu nx;have s2:=kTSu nx.succ;refine S.qH.call ?_;simp[mL];simp[pR,zP,mh];simp[pS];exact(E0 h nx _).trans (E0 _ nx.succ _)
structure ar7(C:bK)(X:Kn)(i:Nat)(os:List Op)(cO:AV)(s0:St)(bj b2 b3 lk:Key)(c:Cf St)(Inv:Nat→T ah→Key→Prop)(R:Out→T ah→Key→Prop):Prop where
 cy:∀k h nx h' nx',Inv k h nx→Ext h nx h' nx'→Inv k h' nx'
 has:∀k h nx,Inv k h nx→ae bj h=Vv (jB X i cO s0 (ik os os.length))∧ae b2 h=Vv [.ptr bj 0]∧ae b3 h=Vv (eC c)∧bj.toNat<nx.toNat∧b2.toNat<nx.toNat∧b3.toNat<nx.toNat
 skip:∀k h nx,k<os.length→(aJ X i os).step c k=none→Inv k h nx→Inv (k+1) h nx
 yld:∀k x h nx,k<os.length→(aJ X i os).step c k=some (k,x)→Inv k h nx→Ah C lk [I k,.agg (eC x)] h nx (fun o h' nx'=>(o=.ret (.bool true)∧Inv (k+1) h' nx')∨(o=.ret (.bool false)∧R (.ret (.tuple [])) h' nx'))
 fin:∀h nx,Inv os.length h nx→R (.ret (.tuple [])) h nx
def S1I(os:List Op)(b2 b3 lk:Key)(Inv:Nat→T ah→Key→Prop)(m:Nat)(aw:T AV)(h':T ah)(nx':Key):Prop:=∃k:Nat,m=os.length-k∧k≤os.length∧ae (K 0) aw=some (.yld lk)∧ae (K 1) aw=some (.ptr b2 0)∧ae (K 2) aw=some (.ptr b3 0)∧ae (K 11) aw=some (I os.length)∧ae (K 12) aw=some (I k)∧Inv k h' nx'
theorem ae3{i:Nat}(hi:i=2){os:List Op}(qx:EK i os)(vz:∀o∈os,before o o=false)(ho:os.length≤16){cO:AV}(hc:iB 10 eO cO os){s0:St}{bj b2 b3 lk:Key}{c:Cf St}(hd:c.1<65536)(hs:gV i c.2){Inv:Nat→T ah→Key→Prop}{R:Out→T ah→Key→Prop}(A:ar7 C X i os cO s0 bj b2 b3 lk c Inv R){h:T ah}{nx:Key}(h0:Inv 0 h nx) :
  aH C bS [.yld lk,.ptr b2 0,.ptr b3 0] h nx R:=by
 have rT:=S.r eb;have rP:=S.r eH;refine S.iv.call ?_;simp[jC];obtain⟨bj0,b20,b30,_⟩:=A.has _ _ _ h0;have start:∀n:Nat,n=os.length→W C (.loop gH) (aA 0 (dF [] R)) (av (K 12) (some (I 0)) (av (K 11) (some (I n)) (av (K 10) (some cO) (av (K 9) (some (.ptr bj 2)) (av (K 8) (some (.ptr bj 0)) (av (K 7) (some (.ptr bj 0)) (av (K 2) (some (.ptr b3 0)) (av (K 1) (some (.ptr b2 0)) (av (K 0) (some (.yld lk)) .nil))))))))) h nx:=by
  rintro _ rfl;refine W.cM (n:=os.length) (S1I os b2 b3 lk Inv) ⟨0,by simp,by omega,by simp,by simp,by simp,by simp,by simp,h0⟩ ?_;rintro m dD h1 bF ⟨k,rfl,hk,g0,g1,g2,g11,g12,h1k⟩;obtain⟨bj1,b21,b31,ltj,lt2,lt3⟩:=A.has _ _ _ h1k;refine W.of ?_;simp[gH];by_cases Mn:k<os.length
  ·have hki:(k:Int)<os.length:=by omega
   have ec0:(eC c)[0]?=some (I c.1):=rfl;simp[gI,g11,g12,hki];simp[ml,g12];simp[mn,g1,g2,b21,b31,ec0,rT];refine(ae4 S ho hc Mn hd bj1 ltj).mono ?_;rintro o h2 aU ⟨rfl,e2⟩;rw[amu vz Mn];have n2:=e2.n;have h2k:=A.cy _ _ _ _ _ h1k e2;obtain⟨Tm,b22,b32,aC6,aLe,aLf⟩:=A.has _ _ _ h2k;have next:∀(aW:T AV) (h':T ah) (nx':Key),ae (K 0) aW=some (.yld lk)→ae (K 1) aW=some (.ptr b2 0)→ae (K 2) aW=some (.ptr b3 0)→ae (K 11) aW=some (I os.length)→ae (K 12) aW=some (I k)→Inv (k+1) h' nx'→
     lH C (aM (fun tm h nx=>∃m,m<os.length-k∧S1I os b2 b3 lk Inv m tm h nx) (aA 0 (dF [] R))) gJ aW h' nx':=by
    intro aW h' nx' q0 q1 q2 q11 q12 hI;simp[gJ,q12];rw[aC (by omega) (by omega)];exact⟨os.length-(k+1),by omega,k+1,rfl,by omega,by simp[q0],by simp[q1],by simp[q2],by simp[q11],by simp,hI⟩
   have dy:(aJ X i os).step c k=if xN os k c.1=true then(X.take (cm i os[k]) os[k] c.2).map (fun s=>(k,(c.1+2^k,s)))else none:=by rw[LC,mQ Mn]
   cases ki:xN os k c.1 with
   |false=>rw[ki]at dy;simp;refine next _ _ _ ?_ ?_ ?_ ?_ ?_ (A.skip _ _ _ Mn (by rw[dy];rfl) h2k)<;>simp[g0,g1,g2,g11,g12]
   |true=>
    rw[ki,if_pos rfl]at dy;have hco:=Oo hi qx (xF Mn);have tk:List.take 4 (eC c).tail=eS c.2:=rfl;have UM:c.1.testBit k=false:=Gu X i os k c.1 ki;simp;simp[mo,g1,g2,b22,b32,mh,tk,rP,y8];refine(aiq S hc hco hs Tm aC6).mono ?_;rintro o h3 cF ⟨⟨u,rfl,hu⟩,e3⟩;have n3:=e3.n;have s3:=kTSu cF;simp[uU,lenS,PB];have e4:=E0 h3 cF (.cells (eS u) .fix);have b5:ae cF (av cF (Vv (eS u)) h3)=Vv (eS u):=by simp
    generalize av cF (Vv (eS u)) h3=h4 at *;have h4k:=A.cy _ _ _ _ _ h2k (e3.trans e4);obtain⟨ZN,b24,b34,aLh,aLi,aLj⟩:=A.has _ _ _ h4k;cases ht:X.take (cm i os[k]) os[k] c.2 with
    |none=>rw[ht]at dy;simp[gK];refine next _ _ _ ?_ ?_ ?_ ?_ ?_ (A.skip _ _ _ Mn dy h4k)<;>simp[g0,g1,g2,g11,g12]
    |some v=>
     rw[ht]at dy;have:=hu v ht;subst this;have hsh:Lo .i64 k=true:=by unfold Lo;exact Nat.ble_eq_true_of_le (by omega)
     have hp2:2^k≤65536:=jL (by omega);have hw:bP .i64 ((2^k:Nat):Int)=((2^k:Nat):Int):=by obtain⟨z,hz,hzl⟩:∃z:Nat,z=2^k∧z≤65536:=⟨_,rfl,hp2⟩;rw[←hz];exact aC (by omega) (by omega)
     have S7:Oq .i64 ((2^k:Nat):Int)=2^k:=r9 hp2;have MD:Oq .i64 (c.1:Int)=c.1:=r9 (by omega);have Zo:=Zy k c.1 UM;have hw2:bP .i64 ((c.1 ||| 2^k:Nat):Int)=((c.1+2^k:Nat):Int):=by obtain⟨z,hz,hzl⟩:∃z:Nat,z=c.1+2^k∧z≤200000:=⟨_,rfl,by omega⟩;rw[Zo,←hz];exact aC (by omega) (by omega)
     simp[gK,g0,g2,b34,ec0,b5,lenS,td,hsh,-Int.natCast_pow,-Int.natCast_add,hw,S7,MD,hw2];refine(A.yld k (c.1+2^k,u) _ _ Mn dy h4k).mono ?_;rintro o h5 Gv (⟨rfl,h5k⟩|⟨rfl,hR⟩)
     ·simp;refine next _ _ _ ?_ ?_ ?_ ?_ ?_ h5k<;>simp[g0,g1,g2,g11,g12]
     ·simp;exact hR
  ·have hke:k=os.length:=by omega
   subst hke;simp[gI,g11,g12];exact A.fin _ _ h1k
 rcases id hc with⟨e0,e1⟩|e0
 ·have hl0:os.length=0:=by rw[e1];rfl
  have:=start 0 hl0.symm;simp[gL,b20,bj0,jB,e0];simpa[e0]using this
 ·have:=start os.length rfl;simp[gL,b20,bj0,jB,e0];simpa[e0]using this
end Ln
namespace Go.Sx
theorem V.axk{C:bK}{c:aG}{j:Nat}{Q:ox}{ds:List Key}{tm:T AV}{h:T ah}{nx:Key}(hw:W C (.loop c) (aA j (atD Q ds)) tm h nx):V C (.loop c) (uc j Q) ds tm h nx:=
 V.YE (hw.mono fun e tm h nx hq=>by cases e<;>exact hq)
end Go.Sx
namespace Ln
open Go.Sx Go
variable{C:bK}{X:Kn}(S:Std C X)
include S
structure RfA(X:Kn)(i:Nat)(os:List Op)(cO c3:AV)(b8 Y9 bj:Key)(tm:T AV)(h:T ah)(nx:Key):Prop where
 k8:ae (K 8) tm=some (.ptr b8 0)
 bL:ae (K 10) tm=some (.ptr Y9 0)
 cu:ae (K 11) tm=some (.ptr bj 0)
 v8:ae b8 h=Vv [c3]
 v10:ae Y9 h=Vv [I 0]
 vj:ae bj h=Vv (jB X i cO (bZ i) (ik os os.length))
 lt:b8.toNat<nx.toNat∧Y9.toNat<nx.toNat∧bj.toNat<nx.toNat
omit S in
theorem RfA.ext{i:Nat}{os:List Op}{cO c3:AV}{b8 Y9 bj:Key}{tm aw:T AV}{h h':T ah}{nx nx':Key}(A:RfA X i os cO c3 b8 Y9 bj tm h nx)(e:Ext h nx h' nx')(h8:ae (K 8) aw=ae (K 8) tm)(h10:ae (K 10) aw=ae (K 10) tm)(h11:ae (K 11) aw=ae (K 11) tm):RfA X i os cO c3 b8 Y9 bj aw h' nx':=by have n:=e.n;have lt:=A.lt;exact⟨h8.trans A.k8,h10.trans A.bL,h11.trans A.cu,(e.g b8 lt.1).trans A.v8,(e.g Y9 lt.2.1).trans A.v10,(e.g bj lt.2.2).trans A.vj,by omega⟩
end Ln
namespace Go.Sx
theorem Fn.callV{C:bK}{f:Nat}{p:ej}(S:Fn C f p){l:List AV}{h:T ah}{nx:Key}{R:Out→T ah→Key→Prop}(hw:Nt C p.body (ajY p.res R) [] (gw l (K 0) .nil) h nx):aH C f l h nx R:=
 aH.aET (S.off _ _ _) S.get S.kY (sK hw)
theorem Ah.intro{C:bK}{l:Key}{args:List AV}{h:T ah}{nx:Key}{R:Out→T ah→Key→Prop}{fn:Nat}{tm dD:T AV}{res:List RV}{ps:List Key}{a b:aG}{d:Key}(M:T AV→T ah→Key→Prop)(hl:ae l h=some (.loop .ready none fn tm res ps a b d))(hz:anq ps args tm=some dD)
  (ha:iH C a (fun e aW h2 aU=>e=.norm∧M aW h2 aU) dD h nx) (hb:∀aW h2 aU,M aW h2 aU→ae l h2=some (.loop .ready none fn tm res ps a b d)∧iH C b (I5 R l fn tm res ps a b d) aW (av l (some (.loop .busy none fn tm res ps a b d)) h2) aU):Ah C l args h nx R:=by
 refine⟨fn,tm,res,ps,a,b,d,⟨_,hl⟩,dD,hz,(lX ha).mono ?_⟩;rintro e aW h2 aU ⟨he,hm⟩;exact⟨he,none,(hb _ _ _ hm).1,lX (hb _ _ _ hm).2⟩
section
variable(R:Out→T ah→Key→Prop)(l:Key)(fn:Nat)(tm aW:T AV)(res:List RV)(ps:List Key)(a b:aG)(d:Key)(h:T ah)(nx:Key)
@[simp] theorem apv:I5 R l fn tm res ps a b d .norm aW h nx=((∃p,ae l h=some (.loop .busy p fn tm res ps a b d))∧R (.ret (.bool true)) (av l (some (.loop .ready none fn tm res ps a b d)) h) nx):=vT Iff.rfl
@[simp] theorem ate:I5 R l fn tm res ps a b d .ret aW h nx=((∃p,ae l h=some (.loop .busy p fn tm res ps a b d))∧R (.ret (.bool false)) (av l (some (.loop .done (some .ret) fn tm res ps a b d)) h) nx):=vT Iff.rfl
end
structure kN(n0:Key)(ds:List Key)(h:T ah)(nx:Key):Prop where
 nodup:ds.Nodup
 get:∀b∈ds,ae b h=some (.dfs false)
 ge:∀b∈ds,n0.toNat≤b.toNat
 lt:∀b∈ds,b.toNat<nx.toNat
theorem kN.nil(n0:Key)(h:T ah)(nx:Key):kN n0 [] h nx:=⟨by simp,by simp,by simp,by simp⟩
theorem kN.cy{n0:Key}{ds:List Key}{h h':T ah}{nx nx':Key}(A:kN n0 ds h nx)(hn:nx.toNat≤nx'.toNat)(hg:∀b,b.toNat<nx.toNat→ae b h=some (.dfs false)→ae b h'=some (.dfs false)):kN n0 ds h' nx':=
 ⟨A.nodup,fun b hb=>hg b (A.lt b hb) (A.get b hb),A.ge,fun b hb=>by have:=A.lt b hb;omega⟩
theorem kN.ext{n0:Key}{ds:List Key}{h h':T ah}{nx nx':Key}(A:kN n0 ds h nx)(e:Ext h nx h' nx'):kN n0 ds h' nx':=A.cy e.n fun b hb hg=>(e.g b hb).trans hg
theorem kN.cons{n0 d:Key}{ds:List Key}{h:T ah}{nx:Key}(A:kN n0 ds h nx)(hd:d∉ds)(hg:ae d h=some (.dfs false))(Rg:n0.toNat≤d.toNat)(bY:d.toNat<nx.toNat):kN n0 (d ::ds) h nx:=by
 refine⟨List.nodup_cons.2 ⟨hd,A.nodup⟩,?_,?_,?_⟩
 ·intro b hb;rcases K3.1 hb with rfl|hb
  ·exact hg
  ·exact A.get b hb
 ·intro b hb;rcases K3.1 hb with rfl|hb
  ·exact Rg
  ·exact A.ge b hb
 ·intro b hb;rcases K3.1 hb with rfl|hb
  ·exact bY
  ·exact A.lt b hb
end Go.Sx
namespace Ln
open Go.Sx Go
structure RfB(X:Kn)(i:Nat)(os:List Op)(cO c3:AV)(b8 Y9 bj b15 n0:Key)(h0:T ah)(ds:List Key)(tm:T AV)(h:T ah)(nx:Key):Prop where
 a:RfA X i os cO c3 b8 Y9 bj tm h nx
 cY:ae (K 15) tm=some (.ptr b15 0)
 v15:ae b15 h=Vv [.fn I8 [] [.ptr b8 0]]
 lt:b15.toNat<nx.toNat
 d:kN n0 ds h nx
 e:Ext h0 n0 h nx
 ge:n0.toNat≤Y9.toNat
theorem RfB.ext{X:Kn}{i:Nat}{os:List Op}{cO c3:AV}{b8 Y9 bj b15 n0:Key}{h0:T ah}{ds:List Key}{tm aw:T AV}{h h':T ah}{nx nx':Key}(A:RfB X i os cO c3 b8 Y9 bj b15 n0 h0 ds tm h nx)(e:Ext h nx h' nx')(h8:ae (K 8) aw=ae (K 8) tm)(h10:ae (K 10) aw=ae (K 10) tm)(h11:ae (K 11) aw=ae (K 11) tm)(h15:ae (K 15) aw=ae (K 15) tm) :
  RfB X i os cO c3 b8 Y9 bj b15 n0 h0 ds aw h' nx':=
 ⟨A.a.ext e h8 h10 h11,h15.trans A.cY,(e.g b15 A.lt).trans A.v15,by have:=e.n;have:=A.lt;omega,A.d.ext e,A.e.trans e,A.ge⟩
def atf(S:Sys St)(L:List (Cf St))(c:Cf St)(k:Nat):Prop:=∀x∈S.dh c k,x.2∈L
variable{C:bK}{X:Kn}(S:Std C X)
include S
omit S in
theorem RfB.put{i:Nat}{os:List Op}{cO c3:AV}{b8 Y9 bj b15 n0 lk:Key}{h0:T ah}{ds:List Key}{tm:T AV}{h:T ah}{nx:Key}{v:Option ah}(A:RfB X i os cO c3 b8 Y9 bj b15 n0 h0 ds tm h nx)(h1:∀l k,ae lk h≠some (.cells l k))(h2:ae lk h≠some (.dfs false))(Rg:n0.toNat≤lk.toNat) :
  RfB X i os cO c3 b8 Y9 bj b15 n0 h0 ds tm (av lk v h) nx:=by
 have hc:∀b l k,ae b h=some (.cells l k)→ae b (av lk v h)=some (.cells l k):=fun b l k hb=>by rw[aR _ _ _ _ (by rintro rfl;exact h1 l k hb)];exact hb
 refine⟨⟨A.a.k8,A.a.bL,A.a.cu,hc _ _ _ A.a.v8,hc _ _ _ A.a.v10,hc _ _ _ A.a.vj,A.a.lt⟩,A.cY,hc _ _ _ A.v15,A.lt,A.d.cy (fa _) fun b _ hg=>?_,A.e.put Rg,A.ge⟩;rw[aR _ _ _ _ (by rintro rfl;exact h2 hg)];exact hg
omit S in
theorem atf.succ{Sy:Sys St}{L:List (Cf St)}{c:Cf St}{k:Nat}(h:atf Sy L c k)(hk:∀x,Sy.step c k=some x→x.2∈L):atf Sy L c (k+1):=by
 intro x hx;rw[fI,List.mem_append]at hx;rcases hx with hx|hx
 ·exact h x hx
 ·cases hs:Sy.step c k with
  |none=>rw[hs]at hx;simp at hx
  |some y=>rw[hs]at hx;simp at hx;subst hx;exact hk _ hs
end Ln
namespace Ln
open Go.Sx Go
def LB:List Nat→Nat
 | []=>0
 |b ::t=>orU (Zr (LB t) 8) (Q5 b)
def nw(l:List Nat):Nat:=(l.length+7) / 8
def seg(l:List Nat)(k:Nat):List Nat:=(l.drop (8*k)).take 8
def word(l:List Nat)(k:Nat):Nat:=LB (seg l k)
theorem ah4{l:List Nat}{i:Nat}(hi:i<l.length):List.take 1 (List.drop i (ag eY l))=[.int .u8 (.lit ((l[i]:Nat):Int))]:=by have:=Hq.at hi;rw[Nat.mul_one]at this;exact this
theorem al1{l:List Nat}{i:Nat}(hi:i<l.length):(ag eY l)[i]?=some (.int .u8 (.lit ((l[i]:Nat):Int))):=by
 have h1:∀(l:List Nat),ag eY l=l.map fun b:Nat=>AV.int .u8 (.lit (b:Int)):=fun l=>by
  induction l with
  |nil=>rfl
  |cons a l ih=>rw[dd,ih];rfl
 rw[h1,List.getElem?_map,xF hi];rfl
theorem aeO{s:List Nat}{j:Nat}(hj:j<s.length):LB (s.drop j)=orU (Zr (LB (s.drop (j+1))) 8) (Q5 (s[j]:Nat)):=by rw[zqt hj];rfl
variable{C:bK}{X:Kn}(S:Std C X)(H:Mk C)
include H
theorem Tc{c:AV}{l:List Nat}(hc:iB 1 eY c l){h:T ah}{nx:Key}:aH C im [c] h nx (fun o h' nx'=>o=.ret (.fn c9 [] [.ptr nx 0])∧ae nx h'=Vv [c]∧nx'=nx.succ∧Ext h nx h' nx'):=by have s1:=kTSu nx;have kc:=hc.cell;refine H.HH.call ?_;simp[Ff];simp[Fg,kc.1,kc.2];simp[Fh];exact E0 h nx _
structure Grp(C:bK)(c:AV)(l:List Nat)(b1 lk:Key)(Inv:Nat→T ah→Key→Prop)(R:Out→T ah→Key→Prop):Prop where
 has:∀k h nx,Inv k h nx→ae b1 h=Vv [c]
 yld:∀k h nx,k<nw l→Inv k h nx→Ah C lk [kJ (word l k)] h nx (fun o h' nx'=>o=.ret (.bool true)∧Inv (k+1) h' nx')
 fin:∀h nx,Inv (nw l) h nx→R (.ret (.tuple [])) h nx
structure GrA(b1 lk:Key)(a:Nat)(tm:T AV):Prop where
 g0:ae (K 0) tm=some (.yld lk)
 g1:ae (K 1) tm=some (.ptr b1 0)
 g3:ae (K 3) tm=some (I (a:Int))
def GrI(l:List Nat)(b1 lk:Key)(Inv:Nat→T ah→Key→Prop)(m:Nat)(aw:T AV)(h':T ah)(nx':Key):Prop:=∃k a:Nat,m=nw l-k∧k≤nw l∧a=8*k∧GrA b1 lk a aw∧Inv k h' nx'
def GrJ(s:List Nat)(b1 lk:Key)(a:Nat)(h:T ah)(nx:Key)(m:Nat)(aw:T AV)(h':T ah)(nx':Key):Prop:=m≤s.length∧GrA b1 lk a aw∧ae (K 4) aw=some (kJ (LB (s.drop m)))∧ae (K 5) aw=some (I ((a:Int)+(m:Int)-1))∧h'=h∧nx'=nx
theorem aqs{l:List Nat}(hl:l.length≤1000000){b1 lk:Key}{k a:Nat}(EO:a=8*k)(hk:a<l.length){c:AV}(hc:c=.sl (ag eY l) l.length 1 .any){h:T ah}{nx:Key}(hb:ae b1 h=Vv [c]){Q:cH}{m:Nat}{tm:T AV}(A:GrJ (seg l k) b1 lk a h nx m tm h nx)
  (fg:∀aw,GrA b1 lk a aw→ae (K 4) aw=some (kJ (word l k))→Q .norm aw h nx) :
  W C (.loop pI) (aA 2 Q) tm h nx:=by
 have hs:(seg l k).length≤8:=by unfold seg;rw[V9];omega
 refine W.cM (GrJ (seg l k) b1 lk a h nx) A ?_;rintro m dD h2 aU ⟨hm,⟨g0,g1,g3⟩,g4,g5,rfl,rfl⟩;refine W.of ?_;simp[pI];cases m with
 |zero=>
  have bY:(a:Int)-1<(a:Int):=by omega
  simp at g5;simp[pJ,g3,g5,bY];refine fg _ ⟨by simp[g0],by simp[g1],by simp[g3]⟩ (by simp[g4,word])
 |succ j=>
  have hjs:j<(seg l k).length:=by omega
  have hsl:(seg l k).length=min 8 (l.length-8*k):=by unfold seg;rw[V9,List.length_drop]
  have hi:a+j<l.length:=by omega
  have Td:(seg l k)[j]=l[a+j]:=by
   have h1:(seg l k)[j]?=some l[a+j]:=by unfold seg;rw[List.getElem?_take,if_pos (by omega),List.getElem?_drop,←EO,xF hi]
   rw[xF hjs]at h1;exact Option.some.inj h1
  have g5':ae (K 5) dD=some (I ((a+j:Nat):Int)):=by
   rw[g5];have:(a:Int)+((j+1:Nat):Int)-1=((a+j:Nat):Int):=by omega
   rw[this]
  have hle:¬a+j<a:=by omega
  have hws:=aeO hjs;rw[Td]at hws;have hx:=al1 hi;have h1l:1≤(ag eY l).length-(a+j):=by rw[Hq.rows];omega
  have hy:=ah4 hi;generalize hwo:LB (List.drop (j+1) (seg l k))=w0 at *;generalize Ix:l[a+j]=b0 at *;generalize hii:a+j=ii at *;have hcu:bP .u64 (b0:Int)=((Q5 b0:Nat):Int):=Mi _;have hwi:bP .i64 ((ii:Int)-1)=(ii:Int)-1:=aC (by omega) (by omega);simp[pJ,g3,g5',hle];simp[yp,g1,g4,g5',hb,hc,hi,hx,hy,h1l,hcu,↓ah6 w0,↓aqu (Zr w0 8) (Q5 b0)];simp[yq,g5',hwi];refine⟨j,by omega,by omega,⟨by simp[g0],by simp[g1],by simp[g3]⟩,by simp[hws],?_,rfl,rfl⟩;simp;omega
theorem aqv{l:List Nat}(hl:l.length≤1000000){b1 lk:Key}{a s:Nat}(hk:a<l.length)(hs:s=min 8 (l.length-a)){c:AV}(hc:c=.sl (ag eY l) l.length 1 .any){h:T ah}{nx:Key}(hb:ae b1 h=Vv [c]){Q:cH}{tm:T AV}(G:GrA b1 lk a tm)
  (hQ:∀aw,GrA b1 lk a aw→ae (K 4) aw=ae (K 4) tm→ae (K 5) aw=some (I ((a:Int)+(s:Int)-1))→Q .norm aw h nx):iH C (.ops ko) Q tm h nx:=by
 obtain⟨g0,g1,g3⟩:=G;have hw8:bP .i64 ((a:Int)+8)=(a:Int)+8:=aC (by omega) (by omega);have hws:bP .i64 ((a:Int)+(s:Int)-1)=(a:Int)+(s:Int)-1:=aC (by omega) (by omega);by_cases h8:(l.length:Int)<(a:Int)+8
 ·have e:(l.length:Int)-1=(a:Int)+(s:Int)-1:=by omega
  simp[ko,g1,g3,hb,hc,hw8,h8,e,hws];exact hQ _ ⟨by simp[g0],by simp[g1],by simp[g3]⟩ (by simp) (by simp)
 ·have e:(a:Int)+8-1=(a:Int)+(s:Int)-1:=by omega
  simp[ko,g1,g3,hb,hc,hw8,h8,e,hws];exact hQ _ ⟨by simp[g0],by simp[g1],by simp[g3]⟩ (by simp) (by simp)
theorem Px{c:AV}{l:List Nat}(hc:iB 1 eY c l)(hl:l.length≤1000000){b1 lk:Key}{Inv:Nat→T ah→Key→Prop}{R:Out→T ah→Key→Prop}(A:Grp C c l b1 lk Inv R){h:T ah}{nx:Key}(h0:Inv 0 h nx) :
  aH C c9 [.yld lk,.ptr b1 0] h nx R:=by
 refine H.lR.call ?_;simp[wQ];simp[yr];refine W.cM (n:=nw l) (GrI l b1 lk Inv) ⟨0,0,by simp,by omega,rfl,⟨by simp,by simp,by simp⟩,h0⟩ ?_;rintro m dD h1 bF ⟨k,a,rfl,hk,EO,⟨g0,g1,g3⟩,hI⟩;have hb:=A.has _ _ _ hI;refine W.of ?_;simp[yu];by_cases K4:k<nw l
 ·have Mn:a<l.length:=by unfold nw at K4;omega
  have NJ:c=.sl (ag eY l) l.length 1 .any:=by
   rcases hc with⟨_,e⟩|e
   ·rw[e]at Mn;simp at Mn
   ·exact e
  have hsl:(seg l k).length=min 8 (l.length-a):=by unfold seg;rw[V9,List.length_drop,EO]
  have hw8:bP .i64 ((a:Int)+8)=(a:Int)+8:=aC (by omega) (by omega);simp[kq,g1,g3,hb,NJ,Mn];simp[yv];refine ahn (aqv (C:=C) H hl (b1:=b1) (lk:=lk) Mn hsl NJ hb ⟨by simp[g0],by simp[g1],by simp[g3]⟩ (fun aW G2 p4 p5=>?_));simp at p4;simp;refine aqs H hl EO Mn NJ hb (m:=(seg l k).length) ⟨fa _,G2,?_,p5,rfl,rfl⟩ (fun SS G3 r4=>?_)
  ·rw[p4,List.drop_length];rfl
  ·obtain⟨r0,r1,r3⟩:=G3;simp[yw,r0,r4];refine(A.yld k _ _ K4 hI).mono ?_;rintro o h4 jw ⟨rfl,hI4⟩;simp;simp[yx,r3,hw8];exact⟨nw l-(k+1),by omega,k+1,a+8,rfl,by omega,by omega,⟨by simp[r0],by simp[r1],by simp⟩,hI4⟩
 ·have hke:k=nw l:=by omega
  subst hke;have hnl:¬a<l.length:=by rw[EO];unfold nw;omega
  rcases id hc with⟨e0,e1⟩|e0
  ·subst e1;have hn0:¬(a:Int)<0:=by omega
   simp[kq,g1,g3,hb,e0,hn0];exact A.fin _ _ hI
  ·simp[kq,g1,g3,hb,e0,hnl];exact A.fin _ _ hI
end Ln
namespace Ln
open Go.Sx Go
def fsU(s:Nat)(l:List Nat)(k:Nat):Nat:=(List.range k).foldl (fun s j=>KB s (word l j)) s
theorem aks(s:Nat)(l:List Nat)(k:Nat):fsU s l (k+1)=KB (fsU s l k) (word l k):=by unfold fsU;rw[List.range_succ,List.foldl_append,List.foldl_cons,List.foldl_nil]
structure SmI(c:AV)(b1 b5 n0 d lk:Key)(h0:T ah)(ds:List Key)(L:ah)(v:AV)(h:T ah)(nx:Key):Prop where
 fl:ae lk h=some L
 f1:ae b1 h=Vv [c]
 f5:ae b5 h=Vv [v]
 lt:lk.toNat<nx.toNat∧b1.toNat<nx.toNat∧b5.toNat<nx.toNat
 ds:kN n0 (d ::ds) h nx
 e:Ext h0 n0 h nx
variable{C:bK}{X:Kn}(S:Std C X)(H:Mk C)
include S H
theorem afY{c:AV}{l:List Nat}(hc:iB 1 eY c l)(hl:l.length≤1000000){b1 b5 n0:Key}{h0:T ah}{s:Nat}{Q:ox}{ds:List Key}{tm:T AV}{h:T ah}{nx:Key}(g11:ae (K 11) tm=some (.fn c9 [] [.ptr b1 0]))(g5:ae (K 5) tm=some (.ptr b5 0))(v1:ae b1 h=Vv [c])(v5:ae b5 h=Vv [kJ s])(lt:b1.toNat<nx.toNat∧b5.toNat<nx.toNat)(Rg:n0.toNat≤b5.toNat)(aEU:b1≠b5)(D:kN n0 ds h nx)(e0:Ext h0 n0 h nx)
  (Qd:∀zD h' nx',ae b5 h'=Vv [kJ (fsU s l (nw l))]→b5.toNat<nx'.toNat→kN n0 zD h' nx'→Ext h0 n0 h' nx'→Q .norm zD tm h' nx') :
  V C (.rangeF (.t (K 11)) [K 12] (.ops ch) (.block 1 (.ops tE))) Q ds tm h nx:=by
 have rM:=S.r fy;have s1:=kTSu nx;have s2:=kTSu nx.succ;have n0x:=e0.n;refine V.rangeF (g:=c9) (first:=[]) (cap:=[.ptr b1 0]) g11 H.lR.off ?_;intro fn res;have e1:=(E0 h nx (.dfs false)).trans (E0 _ nx.succ (.loop .ready none fn tm res [K 12] (.ops ch) (.block 1 (.ops tE)) nx));generalize hb5:(aG.block 1 (.ops tE))=body at *;have Kk:nx∉ds:=fun hm=>by have:=D.lt nx hm;omega
 have gd:ae nx (oy fn tm res [K 12] (.ops ch) body h nx)=some (.dfs false):=by unfold oy;rw[az (by omega)];simp
 have gl:ae nx.succ (oy fn tm res [K 12] (.ops ch) body h nx)=some (.loop .ready none fn tm res [K 12] (.ops ch) body nx):=by unfold oy;simp
 have zB:Ext h nx (oy fn tm res [K 12] (.ops ch) body h nx) nx.succ.succ:=e1;generalize oy fn tm res [K 12] (.ops ch) body h nx=hL at *;refine Px H hc hl (b1:=b1) (lk:=nx.succ) (Inv:=fun k h' nx'=>SmI c b1 b5 n0 nx nx.succ h0 ds (.loop .ready none fn tm res [K 12] (.ops ch) body nx) (kJ (fsU s l k)) h' nx') ⟨?_,?_,?_⟩ ⟨gl,by rw[zB.g _ lt.1];exact v1,by rw[zB.g _ lt.2];exact v5,by omega,(D.ext zB).cons Kk gd n0x (by omega),e0.trans zB⟩
 ·rintro k h1 bF A;exact A.f1
 ·rintro k h1 bF hk A;refine Ah.intro (fun aW h2 aU=>aU=bF∧h2=h1∧ae (K 6) aW=some (kJ (word l k))∧ae (K 5) aW=some (.ptr b5 0)) A.fl rfl ?_ ?_
  ·simp[ch,g5]
  ·rintro aW h2 aU ⟨rfl,rfl,g6,g5'⟩;refine⟨A.fl,?_⟩;have hn5:nx.succ≠b5:=fun e=>by have:=congrArg Key.toNat e;omega
   have v53:ae b5 (av nx.succ (some (.loop .busy none fn tm res [K 12] (.ops ch) body nx)) h2)=Vv [kJ (fsU s l k)]:=by rw[aR _ _ _ _ (fun e=>hn5 e.symm)];exact A.f5
   have lk3:ae nx.succ (av nx.succ (some (.loop .busy none fn tm res [K 12] (.ops ch) body nx)) h2)=some (.loop .busy none fn tm res [K 12] (.ops ch) body nx):=by simp
   have nc2:∀b:Key,b≠nx.succ→ae b (av nx.succ (some (.loop .busy none fn tm res [K 12] (.ops ch) body nx)) h2)=ae b h2:=fun b hb=>aR _ _ _ _ hb;generalize av nx.succ (some (.loop .busy none fn tm res [K 12] (.ops ch) body nx)) h2=h3 at *;generalize hrq:I5 _ nx.succ fn tm res [K 12] (.ops ch) body nx=RQ;rw[←hb5];simp;simp[tE,g6,g5',v53,rM];refine(Vp S H _ _).mono ?_;rintro o h4 jw ⟨rfl,rfl,rfl⟩;simp[g5',v53];rw[←hrq];have bU:b5≠nx.succ:=fun e=>hn5 e.symm;refine⟨⟨none,by rw[aR _ _ _ _ hn5];exact lk3⟩,rfl,?_⟩;have gb:∀b:Key,b≠nx.succ→b≠b5→ae b (av nx.succ (some (.loop .ready none fn tm res [K 12] (.ops ch) body nx)) (av b5 (Vv [kJ (KB (fsU s l k) (word l k))]) h4))=ae b h2:=fun b h1 h2=>by rw[aR _ _ _ _ h1,aR _ _ _ _ h2,nc2 b h1]
   have lkc:=A.fl;refine⟨by simp,?_,?_,A.lt,?_,?_⟩
   ·rw[gb b1 (fun e=>by rw[e]at lt;omega) aEU];exact A.f1
   ·rw[aR _ _ _ _ bU,gTSm,aks]
   ·refine A.ds.cy (fa _) fun b _ hg=>?_;rw[gb b (by rintro rfl;rw[A.fl]at hg;cases hg) (by rintro rfl;rw[A.f5]at hg;cases hg)];exact hg
   ·refine⟨A.e.n,fun b hb=>?_⟩;rw[gb b (fun e=>by rw[e]at hb;omega) (fun e=>by rw[e]at hb;omega)];exact A.e.g b hb
 ·rintro h1 bF A;refine⟨_,rfl,.ready,none,A.fl,by simp,?_⟩;refine Qd _ _ _ ?_ A.lt.2.2 ?_ ?_
  ·rw[aR _ _ _ _ (fun e=>by have:=congrArg Key.toNat e;omega)];exact A.f5
  ·refine A.ds.cy (fa _) fun b _ hg=>?_;rw[aR _ _ _ _ (by rintro rfl;rw[A.fl]at hg;cases hg)];exact hg
  ·exact A.e.put (by omega)
def VD:List Nat:=[118,97,108,117,101]
def fsW(s:Nat)(ws:List Int):Nat:=ws.foldl (fun s w=>KB s (Q5 w)) s
def aeV(ws:List Int):Nat:=KB (fsW (KB (KB (fsU 0 VD (nw VD)) 5) (Q5 (ws.length:Int))) ws) 0
omit S H in
theorem akt{s:Nat}{ws:List Int}{j:Nat}(hj:j<ws.length):fsW s (ws.take (j+1))=KB (fsW s (ws.take j)) (Q5 ws[j]):=by unfold fsW;rw[Zz hj,List.foldl_append,List.foldl_cons,List.foldl_nil]
def axN(c1:AV)(ws:List Int)(b5 n0:Key)(s:Nat)(h0:T ah)(ds:List Key)(m:Nat)(aw:T AV)(h':T ah)(nx':Key):Prop:=∃j:Nat,m=ws.length-j∧j≤ws.length∧ae (K 26) aw=some c1∧ae (K 27) aw=some (I ws.length)∧ae (K 28) aw=some (I j)∧ae (K 5) aw=some (.ptr b5 0)∧ae b5 h'=Vv [kJ (fsW s (ws.take j))]∧b5.toNat<nx'.toNat∧Ext h0 n0 h' nx'∧kN n0 ds h' nx'
theorem acg{c1:AV}{ws:List Int}(hw:iB 1 eI c1 ws)(hl:ws.length≤1000000){b5 n0:Key}{s:Nat}{h0:T ah}{ds:List Key}(Rg:n0.toNat≤b5.toNat){Q:cH}{m:Nat}{tm:T AV}{h:T ah}{nx:Key}(A:axN c1 ws b5 n0 s h0 ds m tm h nx)
  (fg:∀aw h' nx',ae (K 5) aw=some (.ptr b5 0)→ae b5 h'=Vv [kJ (fsW s ws)]→Ext h0 n0 h' nx'→kN n0 ds h' nx'→Q .norm aw h' nx') :
  W C (.loop Ge) (aA 2 Q) tm h nx:=by
 have rM:=S.r fy;refine W.cM (axN c1 ws b5 n0 s h0 ds) A ?_;rintro m dD h1 bF ⟨j,rfl,hj,g26,g27,g28,g5,v5,lt5,e1,D1⟩;refine W.of ?_;simp[Ge];by_cases bG:j<ws.length
 ·have sZ:(j:Int)<ws.length:=by omega
  have NJ:c1=.sl (ag eI ws) ws.length 1 .any:=by
   rcases hw with⟨_,e⟩|e
   ·rw[e]at bG;simp at bG
   ·exact e
  have hx:=Gq bG;have IS:1≤(ag eI ws).length-j:=by rw[kX];omega
  have dy:=akt (s:=s) bG;have hcu:bP .u64 ws[j]=((Q5 ws[j]:Nat):Int):=Mi _;simp[Gd,g27,g28,sZ];simp[Nr,g26,g28,NJ,bG,hx,IS];simp[KV,g5,v5,hcu,rM];refine(Vp S H _ _).mono ?_;rintro o h2 aU ⟨rfl,rfl,rfl⟩;simp[g5,v5];simp[KW,g28];rw[aC (by omega) (by omega)];exact⟨ws.length-(j+1),by omega,j+1,rfl,by omega,by simp[g26,NJ],by simp[g27],by simp,by simp[g5],by rw[dy];simp,lt5,e1.put Rg,D1.cy (fa _) fun b _ hg=>by rw[aR _ _ _ _ (by rintro rfl;rw[v5]at hg;cases hg)];exact hg⟩
 ·have vK:j=ws.length:=by omega
  subst vK;rw[List.take_length]at v5;simp[Gd,g27,g28];exact fg _ _ _ (by simp[g5]) v5 e1 D1
theorem aed(s w:Nat)(z:Int)(hz:z=(w:Int)){h:T ah}{nx:Key}:aH C fy [kJ s,.int .u64 (.lit z)] h nx (fun o h' nx'=>o=.ret (kJ (KB s w))∧h'=h∧nx'=nx):=by subst hz;exact Vp S H s w
theorem art{c1:AV}{ws:List Int}(hw:iB 1 eI c1 ws)(hl:ws.length≤1000000){h:T ah}{nx:Key} :
  aH C wX [.str 5 435761734006,c1] h nx (fun o h' nx'=>o=.ret (kJ (aeV ws))∧Ext h nx h' nx'):=by
 have rM:=S.r fy;have rG:=S.r im;have s1:=kTSu nx;have hcL:iB 1 eY (.sl (ag eY VD) 5 1 .any) VD:=.inr rfl;have hbL:bytesOf 5 435761734006=ag eY VD:=rfl;have hz:∀H,aN 9999 (.sl (ag eY VD) 5 1 .any) H=(.sl (ag eY VD) 5 1 .any,H):=fun H=>hcL.vV _ _;refine H.PS.callV ?_;simp[PT];simp[Nk];simp[Nl];have e1:=E0 h nx (.cells [kJ 0] .fix);have v5:ae nx (av nx (Vv [kJ 0]) h)=Vv [kJ 0]:=by simp
 have hu0:(AV.int .u64 (.lit 0))=kJ 0:=rfl;simp only[hu0];generalize av nx (Vv [kJ 0]) h=h1 at *;simp[Nn,hbL,rG,hz];refine(Tc H hcL).mono ?_;rintro o h2 aU ⟨rfl,v1,rfl,e2⟩;have s2:=kTSu nx.succ;simp;have v52:ae nx h2=Vv [kJ 0]:=by rw[e2.g nx (by omega)];exact v5
 refine afY S H hcL (by decide) (b1:=nx.succ) (b5:=nx) (n0:=nx) (h0:=h) (s:=0) ?_ ?_ v1 v52 (by omega) (fa _) (fun e=>by have:=congrArg Key.toNat e;omega) (kN.nil _ _ _) (e1.trans e2) ?_
 ·simp
 ·simp
 intro ds h3 cF v53 lt3 D3 e3;have hw5:bP .u64 5=((5:Nat):Int):=by decide
 generalize hs0:fsU 0 VD (nw VD)=s0 at *;simp;simp[No,v53,hw5,rM];refine(aed S H s0 5 5 (by omega)).mono ?_;rintro o h4 jw ⟨rfl,rfl,rfl⟩;have hwl:bP .u64 (ws.length:Int)=((Q5 (ws.length:Int):Nat):Int):=Mi _;generalize hs1:KB s0 5=s1' at *;simp[v53];have e4:Ext h nx (av nx (Vv [kJ s1']) h4) jw:=e3.put (fa _);have v54:ae nx (av nx (Vv [kJ s1']) h4)=Vv [kJ s1']:=by simp
 have D4:kN nx ds (av nx (Vv [kJ s1']) h4) jw:=D3.cy (fa _) fun b _ hg=>by rw[aR _ _ _ _ (by rintro rfl;rw[v53]at hg;cases hg)];exact hg
 generalize av nx (Vv [kJ s1']) h4=h5 at *;have hR:=hw.rd h5 jw;simp[↓hR.ln,Np,v54,hwl,rM];refine(Vp S H s1' (Q5 (ws.length:Int))).mono ?_;rintro o h6 xI ⟨rfl,rfl,rfl⟩;generalize hs2:KB s1' (Q5 (ws.length:Int))=s2' at *;simp[v54];have e6:Ext h nx (av nx (Vv [kJ s2']) h6) xI:=e4.put (fa _);have v56:ae nx (av nx (Vv [kJ s2']) h6)=Vv [kJ s2']:=by simp
 have D6:kN nx ds (av nx (Vv [kJ s2']) h6) xI:=D4.cy (fa _) fun b _ hg=>by rw[aR _ _ _ _ (by rintro rfl;rw[v54]at hg;cases hg)];exact hg
 generalize av nx (Vv [kJ s2']) h6=h7 at *;have hR7:=hw.rd h7 xI;simp[↓hR7.ln,Nq];have hz0:fsW s2' (ws.take 0)=s2':=by rw[List.take_zero];unfold fsW;rw[List.foldl_nil]
 refine V.axk (acg S H hw hl (b5:=nx) (n0:=nx) (s:=s2') (h0:=h) (ds:=ds) (m:=ws.length) (fa _) ⟨0,by simp,by omega,by simp,by simp,by simp,by simp,by rw[hz0];exact v56,by omega,e6,D6⟩ ?_);have Ze:aeV ws=KB (fsW s2' ws) 0:=by unfold aeV;rw[hs0,hs1,hs2]
 rw[Ze];generalize fsW s2' ws=fw;intro aw h8 nx8 g5 v8 e8 D8;simp;simp[KX,g5,v8,rM];refine(aed S H fw 0 0 (by omega)).mono ?_;rintro o h9 nx9 ⟨rfl,rfl,rfl⟩;generalize KB fw 0=fz;simp;refine⟨D8.nodup,D8.get,fun h10 h11=>?_⟩;refine⟨[kJ fz],by simp,rfl,e8.n,fun b hb=>?_⟩;have:b∉ds:=fun hm=>by have:=D8.ge b hm;omega
 simp;rw[h11 b this];exact e8.g b hb
end Ln
namespace Ln
open Go.Sx Go
theorem WL{bb:Key}{ws:List Int}{rest:List AV}{h:T ah}{nx:Key}(hb:ae bb h=Vv (ag eI ws++rest))(hr:0<rest.length)(hl:ws.length+1≤1048576)(x:Int) :
  appendTo 1 (.slice bb 0 ws.length 1) [I x] 1 h nx=.val (.slice bb 0 (ws.length+1) 1) (av bb (Vv (ag eI (ws ++ [x])++rest.drop 1)) h) nx:=by
 have hlen:=kX ws;have h1:ws.length+1≤ws.length+rest.length:=by omega
 have ht:List.take ws.length (ag eI ws++rest)=ag eI ws:=by rw[List.take_append_of_le_length (by omega),OV (by omega)]
 have hd:List.drop (ws.length+1) (ag eI ws++rest)=rest.drop 1:=by rw[zqq,List.drop_eq_nil_of_le (by omega),hlen,List.nil_append];congr 1;omega
 have hra:ag eI (ws ++ [x])=ag eI ws ++ [I x]:=by rw[fU,fj];rfl
 simp[hb,hl,hlen,h1,ht,hd,hra]
theorem aim{n:Nat}{b:Key}{len:Nat}{l:List AV}{H:T ah}(hg:ae b H=Vv l)(hl:len≤l.length)(hs:∀x∈l.take len,OQ x):aN (n+1) (.slice b 0 len 1) H=(.sl (l.take len) len 1 .any,av b (some (.cells l .ro)) H):=by simp only[aN,J7,hg,List.drop_zero];rw[if_pos (by omega),Nat.mul_one,cn hs]
theorem ail(n:Nat)(x:AV):(Ll n [x] []).length=n:=by rw[repL_eq,List.append_nil];simp
def LH(l:List Nat)(k:Nat):List Int:=(List.range k).map fun j=>bP .i64 (word l j:Int)
theorem PM(l:List Nat)(k:Nat):(LH l k).length=k:=by simp[LH]
theorem afg(l:List Nat)(k:Nat):LH l (k+1)=LH l k ++ [bP .i64 (word l k:Int)]:=by unfold LH;rw[List.range_succ,List.map_append,Zw,List.map_nil]
def Wo(l:List Nat):Nat:=aeV (LH l (nw l) ++ [(l.length:Int)])
structure ByI(c:AV)(l:List Nat)(b1 b5 bb n0 d lk:Key)(h0:T ah)(ds:List Key)(L:ah)(cap:Nat)(k:Nat)(h:T ah)(nx:Key):Prop where
 fl:ae lk h=some L
 f1:ae b1 h=Vv [c]
 f5:ae b5 h=Vv [.slice bb 0 k 1]
 fb:∃rest,ae bb h=Vv (ag eI (LH l k)++rest)∧k+rest.length=cap
 ds:kN n0 (d ::ds) h nx
 e:Ext h0 n0 h nx
variable{C:bK}{X:Kn}(S:Std C X)(H:Mk C)
include S H
theorem WK{c:AV}{l:List Nat}(hc:iB 1 eY c l)(hl:l.length≤1000000){b1 b5 bb n0:Key}{h0:T ah}{cap:Nat}(BP:nw l+1≤cap){Q:ox}{ds:List Key}{tm:T AV}{h:T ah}{nx:Key}(g13:ae (K 13) tm=some (.fn c9 [] [.ptr b1 0]))(g5:ae (K 5) tm=some (.ptr b5 0))(v1:ae b1 h=Vv [c])(v5:ae b5 h=Vv [.slice bb 0 0 1])(vb:∃rest,ae bb h=Vv rest∧rest.length=cap)(o1:bb.toNat<b5.toNat)(o2:b5.toNat<b1.toNat)(o3:b1.toNat<nx.toNat)(Rg:n0.toNat≤bb.toNat)(D:kN n0 ds h nx)(e0:Ext h0 n0 h nx)
  (Qd:∀zD h' nx' rest,ae b5 h'=Vv [.slice bb 0 (nw l) 1]→ae bb h'=Vv (ag eI (LH l (nw l))++rest)→nw l+rest.length=cap→nx.toNat≤nx'.toNat→kN n0 zD h' nx'→Ext h0 n0 h' nx'→Q .norm zD tm h' nx') :
  V C (.rangeF (.t (K 13)) [K 14] (.ops bJ) (.block 1 (.ops ng))) Q ds tm h nx:=by
 have s1:=kTSu nx;have s2:=kTSu nx.succ;have n0x:=e0.n;refine V.rangeF (g:=c9) (first:=[]) (cap:=[.ptr b1 0]) g13 H.lR.off ?_;intro fn res;have e1:=(E0 h nx (.dfs false)).trans (E0 _ nx.succ (.loop .ready none fn tm res [K 14] (.ops bJ) (.block 1 (.ops ng)) nx));generalize hb5:(aG.block 1 (.ops ng))=body at *;have Kk:nx∉ds:=fun hm=>by have:=D.lt nx hm;omega
 have gd:ae nx (oy fn tm res [K 14] (.ops bJ) body h nx)=some (.dfs false):=by unfold oy;rw[az (by omega)];simp
 have gl:ae nx.succ (oy fn tm res [K 14] (.ops bJ) body h nx)=some (.loop .ready none fn tm res [K 14] (.ops bJ) body nx):=by unfold oy;simp
 have zB:Ext h nx (oy fn tm res [K 14] (.ops bJ) body h nx) nx.succ.succ:=e1;generalize oy fn tm res [K 14] (.ops bJ) body h nx=hL at *;obtain⟨rest,vb1,vb2⟩:=vb;refine Px H hc hl (b1:=b1) (lk:=nx.succ) (Inv:=fun k h' nx'=>ByI c l b1 b5 bb n0 nx nx.succ h0 ds (.loop .ready none fn tm res [K 14] (.ops bJ) body nx) cap k h' nx'∧nx.succ.succ.toNat≤nx'.toNat) ⟨?_,?_,?_⟩ ⟨⟨gl,by rw[zB.g _ o3];exact v1,by rw[zB.g _ (by omega)];exact v5,⟨rest,by rw[zB.g _ (by omega)];exact vb1,by omega⟩,(D.ext zB).cons Kk gd n0x (by omega),e0.trans zB⟩,fa _⟩
 ·rintro k h1 bF ⟨A,_⟩;exact A.f1
 ·rintro k h1 bF hk ⟨A,hn1⟩;refine Ah.intro (fun aW h2 aU=>aU=bF∧h2=h1∧ae (K 6) aW=some (kJ (word l k))∧ae (K 5) aW=some (.ptr b5 0)) A.fl rfl ?_ ?_
  ·simp[bJ,g5]
  ·rintro aW h2 aU ⟨rfl,rfl,g6,g5'⟩;refine⟨A.fl,?_⟩;obtain⟨rs,fb,hrs⟩:=A.fb;have t2:=kTSu aU;have n5:b5≠nx.succ:=fun e=>by rw[e]at o2;omega
   have nb:bb≠nx.succ:=fun e=>by rw[e]at o1;omega
   have n1:b1≠nx.succ:=fun e=>by rw[e]at o3;omega
   have n15:b1≠b5:=fun e=>by rw[e]at o2;omega
   have n1b:b1≠bb:=fun e=>by rw[e]at o2;omega
   have n5b:b5≠bb:=fun e=>by rw[e]at o1;omega
   have v53:ae b5 (av nx.succ (some (.loop .busy none fn tm res [K 14] (.ops bJ) body nx)) h2)=Vv [.slice bb 0 k 1]:=by rw[aR _ _ _ _ n5];exact A.f5
   have lk3:ae nx.succ (av nx.succ (some (.loop .busy none fn tm res [K 14] (.ops bJ) body nx)) h2)=some (.loop .busy none fn tm res [K 14] (.ops bJ) body nx):=by simp
   have nc2:∀b:Key,b≠nx.succ→ae b (av nx.succ (some (.loop .busy none fn tm res [K 14] (.ops bJ) body nx)) h2)=ae b h2:=fun b hb=>aR _ _ _ _ hb;generalize av nx.succ (some (.loop .busy none fn tm res [K 14] (.ops bJ) body nx)) h2=h3 at *;generalize hrq:I5 _ nx.succ fn tm res [K 14] (.ops bJ) body nx=RQ;rw[←hb5];have hsu:=afg l k;generalize hwz:bP .i64 (word l k:Int)=wz at *;have ap:=WL (bb:=bb) (ws:=LH l k) (rest:=rs) (h:=av aU (Vv [I wz]) h3) (nx:=aU.succ) (by rw[az (by omega),nc2 bb nb];exact fb) (by omega) (by rw[PM];unfold nw at hk;omega) wz;rw[PM]at ap;have v54:∀B,ae b5 (av bb B (av aU (Vv [I wz]) h3))=Vv [.slice bb 0 k 1]:=fun B=>by rw[aR _ _ _ _ n5b,az (by omega)];exact v53
   simp;simp[-appendTo,ng,g6,g5',v53,hwz,ap,v54];rw[←hrq];have gq:∀b:Key,b.toNat<aU.toNat→b≠b5→b≠bb→b≠nx.succ→∀B1 B2 B3 B4,ae b (av nx.succ B4 (av b5 B3 (av bb B2 (av aU B1 h3))))=ae b h2:=fun b h0 h1 h2 h3 B1 B2 B3 B4=>by rw[aR _ _ _ _ h3,aR _ _ _ _ h1,aR _ _ _ _ h2,az h0,nc2 b h3]
   refine⟨⟨none,by rw[aR _ _ _ _ (Ne.symm n5),aR _ _ _ _ (Ne.symm nb),az (by omega)];exact lk3⟩,rfl,⟨by simp,?_,?_,?_,?_,?_⟩,by omega⟩
   ·rw[gq b1 (by omega) n15 n1b n1];exact A.f1
   ·rw[aR _ _ _ _ n5,gTSm]
   ·refine⟨rs.tail,?_,?_⟩
    ·rw[aR _ _ _ _ nb,aR _ _ _ _ (Ne.symm n5b),gTSm,hsu]
    ·rw[List.length_tail];omega
   ·refine A.ds.cy (by omega) fun b hb hg=>?_;rw[gq b hb (by rintro rfl;rw[A.f5]at hg;cases hg) (by rintro rfl;rw[fb]at hg;cases hg) (by rintro rfl;rw[A.fl]at hg;cases hg)];exact hg
   ·have nA:=A.e.n;refine⟨by omega,fun b hb=>?_⟩;rw[gq b (by omega) (fun e=>by rw[e]at hb;omega) (fun e=>by rw[e]at hb;omega) (fun e=>by rw[e]at hb;omega)];exact A.e.g b hb
 ·rintro h1 bF ⟨A,hn1⟩;obtain⟨rs,fb,hrs⟩:=A.fb;refine⟨_,rfl,.ready,none,A.fl,by simp,?_⟩;refine Qd _ _ _ rs ?_ ?_ hrs (by omega) ?_ ?_
  ·rw[aR _ _ _ _ (fun e=>by rw[e]at o2;omega)];exact A.f5
  ·rw[aR _ _ _ _ (fun e=>by rw[e]at o1;omega)];exact fb
  ·refine A.ds.cy (fa _) fun b _ hg=>?_;rw[aR _ _ _ _ (by rintro rfl;rw[A.fl]at hg;cases hg)];exact hg
  ·exact A.e.put (by omega)
end Ln
namespace Ln
open Go.Sx Go
variable{C:bK}{X:Kn}(S:Std C X)(H:Mk C)
include S H
theorem ahM{c:AV}{l:List Nat}(hc:iB 1 eY c l)(hl:l.length≤1000000){h:T ah}{nx:Key} :
  aH C pE [.str 5 435761734006,c] h nx (fun o h' nx'=>o=.ret (kJ (Wo l))∧Ext h nx h' nx'):=by
 have rG:=S.r im;have rS:=S.r wX;have s1:=kTSu nx;have s2:=kTSu nx.succ;have s3:=kTSu nx.succ.succ;have hcz:∀H,aN 9999 c H=(c,H):=fun H=>hc.vV _ _;have hR:=hc.rd h nx;obtain⟨q,hqd⟩:∃q,q=l.length / 8:=⟨_,rfl⟩;obtain⟨cap,hcd⟩:∃cap,cap=q+2:=⟨_,rfl⟩;have hq:bP .i64 ((l.length:Int) / 8)=(q:Int):=by
  have:(l.length:Int) / 8=(q:Int):=by omega
  rw[this];exact aC (by omega) (by omega)
 have hq2:bP .i64 ((q:Int)+2)=(cap:Int):=by
  have:(q:Int)+2=(cap:Int):=by omega
  rw[this];exact aC (by omega) (by omega)
 have BP:nw l+1≤cap:=by unfold nw;omega
 have NJ:cap≤1048576:=by omega
 have aBO:pz (AV.int .i64 (.lit (cap:Int)))=some cap:=rfl;refine H.Kd.callV ?_;simp[IN];simp[HL];have T8:=ail cap (I 0);simp[↓hR.ln,HM,hq,hq2,NJ,aBO,-repL_eq]
 try simp only[show(AV.int IntKind.i64 (SI.lit 0))=I 0 from rfl]
 have e2:=(E0 h nx (.cells (Ll cap [I 0] []) .fix)).trans (E0 _ nx.succ (.cells [.slice nx 0 0 1] .fix));have bb2:ae nx (av nx.succ (Vv [.slice nx 0 0 1]) (av nx (Vv (Ll cap [I 0] [])) h))=Vv (Ll cap [I 0] []):=by rw[az (by omega)];simp
 have b52:ae nx.succ (av nx.succ (Vv [.slice nx 0 0 1]) (av nx (Vv (Ll cap [I 0] [])) h))=Vv [.slice nx 0 0 1]:=by simp
 generalize Ll cap [I 0] []=R0 at *;generalize av nx.succ (Vv [.slice nx 0 0 1]) (av nx (Vv R0) h)=h2 at *;simp[HN,rG,hcz];refine(Tc H hc).mono ?_;rintro o h3 cF ⟨rfl,v1,rfl,e3⟩;simp;have b53:ae nx.succ h3=Vv [.slice nx 0 0 1]:=by rw[e3.g _ (by omega)];exact b52
 have bb3:ae nx h3=Vv R0:=by rw[e3.g _ (by omega)];exact bb2
 refine WK S H hc hl (b1:=nx.succ.succ) (b5:=nx.succ) (bb:=nx) (n0:=nx) (h0:=h) (cap:=cap) BP ?_ ?_ v1 b53 ⟨R0,bb3,T8⟩ (by omega) (by omega) (by omega) (fa _) (kN.nil _ _ _) (e2.trans e3) ?_
 ·simp
 ·simp
 intro ds h4 jw rest v54 vb4 aHt hn4 D4 e4;have s4:=kTSu jw;have hwl:=PM l (nw l);have ap:=WL (bb:=nx) (ws:=LH l (nw l)) (rest:=rest) (h:=av jw (Vv [I (l.length:Int)]) h4) (nx:=jw.succ) (by rw[az (by omega)];exact vb4) (by omega) (by omega) (l.length:Int);have hlw:(LH l (nw l) ++ [(l.length:Int)]).length=nw l+1:=by rw[Ho,hwl];rfl
 have hhu:Wo l=aeV (LH l (nw l) ++ [(l.length:Int)]):=rfl;rw[hhu];rw[hwl]at ap;generalize hwz:LH l (nw l) ++ [(l.length:Int)]=ws at *;have n5b:nx.succ≠nx:=fun e=>by have:=congrArg Key.toNat e;omega
 have v55:∀B,ae nx.succ (av nx B (av jw (Vv [I (l.length:Int)]) h4))=Vv [.slice nx 0 (nw l) 1]:=fun B=>by rw[aR _ _ _ _ n5b,az (by omega)];exact v54
 have v56:ae nx.succ (av jw (Vv [I (l.length:Int)]) h4)=Vv [.slice nx 0 (nw l) 1]:=by rw[az (by omega)];exact v54
 have hR4:=hc.rd h4 jw;simp;simp[-appendTo,↓hR4.ln,HO,v54,v55,v56,ap];have e5:Ext h nx (av nx.succ (Vv [.slice nx 0 (nw l+1) 1]) (av nx (Vv (ag eI ws++rest.tail)) (av jw (Vv [I (l.length:Int)]) h4))) jw.succ:=((((e4.trans (E0 h4 jw _)).put (fa _)).put (by omega)));have w5:ae nx.succ (av nx.succ (Vv [.slice nx 0 (nw l+1) 1]) (av nx (Vv (ag eI ws++rest.tail)) (av jw (Vv [I (l.length:Int)]) h4)))=Vv [.slice nx 0 (nw l+1) 1]:=by simp
 have wb:ae nx (av nx.succ (Vv [.slice nx 0 (nw l+1) 1]) (av nx (Vv (ag eI ws++rest.tail)) (av jw (Vv [I (l.length:Int)]) h4)))=Vv (ag eI ws++rest.tail):=by rw[aR _ _ _ _ (Ne.symm n5b),gTSm]
 have D5:kN nx ds (av nx.succ (Vv [.slice nx 0 (nw l+1) 1]) (av nx (Vv (ag eI ws++rest.tail)) (av jw (Vv [I (l.length:Int)]) h4))) jw.succ:=D4.cy (by omega) fun b hb hg=>by rw[aR _ _ _ _ (by rintro rfl;rw[v54]at hg;cases hg),aR _ _ _ _ (by rintro rfl;rw[vb4]at hg;cases hg),az hb];exact hg
 generalize av nx.succ (Vv [.slice nx 0 (nw l+1) 1]) (av nx (Vv (ag eI ws++rest.tail)) (av jw (Vv [I (l.length:Int)]) h4))=h5 at *;have aK1:(ag eI ws).length=nw l+1:=by rw[kX,hlw]
 have Hr:List.take (nw l+1) (ag eI ws++rest.tail)=ag eI ws:=by rw[List.take_append_of_le_length (by omega),OV (by omega)]
 have hz:=aim (n:=9998) (b:=nx) (len:=nw l+1) (H:=h5) wb (by rw[Ho];omega) (by rw[Hr];exact CB.Er ws);rw[Hr]at hz;have hw:iB 1 eI (.sl (ag eI ws) (nw l+1) 1 .any) ws:=.inr (by rw[hlw]);have e6:Ext h nx (av nx (some (.cells (ag eI ws++rest.tail) .ro)) h5) jw.succ:=e5.put (fa _);have D6:kN nx ds (av nx (some (.cells (ag eI ws++rest.tail) .ro)) h5) jw.succ:=D5.cy (fa _) fun b _ hg=>by rw[aR _ _ _ _ (by rintro rfl;rw[wb]at hg;cases hg)];exact hg
 simp[HP,w5,rS,hz];refine(art S H hw (by omega)).mono ?_;rintro o h7 nx7 ⟨rfl,e7⟩;have e67:=e6.trans e7;have D7:=D6.ext e7;generalize aeV ws=fz at *;simp;refine⟨D7.nodup,D7.get,fun h10 h11=>?_⟩;refine⟨[kJ fz],by simp,rfl,e67.n,fun b hb=>?_⟩;have:b∉ds:=fun hm=>by have:=D7.ge b hm;omega
 simp;rw[h11 b this];exact e67.g b hb
end Ln
namespace Ln
open Go.Sx Go
def apP:Int→Int
 |.ofNat a=>.ofNat (Nat.div a (Nat.pow 2 63))
 |.negSucc a=>.negSucc (Nat.div a (Nat.pow 2 63))
section
variable{C:bK}{Q:cH}{L:List ay}{tm:T AV}{h:T ah}{nx d x y:Key}
theorem agO(a:Nat)(h1:ae x tm=some (kJ a)):lH C Q (⟨some d,.bin .shl (.t x) (.v (.int .u64 (.lit 1))),none⟩ ::L) tm h nx=lH C Q L (av d (some (kJ (Zr a 1))) tm) h nx:=
 qZ (by simp only[lightOp,at_t,at_v,h1];show some (AV.int .u64 (.lit (bP .u64 (Int.mul (a:Int) (.ofNat (Nat.pow 2 1))))))=_;rw[Mi];rfl)
theorem aen(n:Int)(h1:ae x tm=some (I n)):lH C Q (⟨some d,.bin .shr (.t x) (.v (.int .u64 (.lit 63))),none⟩ ::L) tm h nx=lH C Q L (av d (some (I (apP n))) tm) h nx:=
 qZ (by simp only[lightOp,at_t,at_v,h1];cases n<;>rfl)
end
def zzE(n:Int):Nat:=NA (Zr (Q5 n) 1) (Q5 (apP n))
theorem apQ(n:Int):zzE n<18446744073709551616:=Nat.mod_lt _ (by decide)
def Mj(n:Int):List Nat:=vu (zzE n)
theorem acx:∀(k n:Nat),(vuF k n).length≤k+1
 |0,_=>by simp[vuF]
 |k+1,n=>by
  rw[vuF];split
  ·simp
  ·rw[zqi];have:=acx k (n / 128);omega
theorem xT(n:Int):(Mj n).length≤11:=acx 10 _
variable{C:bK}{X:Kn}(S:Std C X)(H:Mk C)
include S H
theorem Zs{w:Key}{c:AV}{bs:List Nat}{h:T ah}{nx n0:Key}(Ws:WS w c bs h nx n0)(hl:bs.length≤100000)(n:Int) :
  aH C cD [.ptr w 0,I n] h nx (iM w (bs++Mj n) h nx n0):=by
 have rU:=S.r eK;have hcu:∀n,bP .u64 n=((Q5 n:Nat):Int):=Mi;refine H.xU.call ?_;simp[tL];simp[wk,hcu,↓agO (Q5 n),↓aen n,↓T6 (Zr (Q5 n) 1) (Q5 (apP n)),rU];refine(agP H.wo Ws (apQ n) hl).mono ?_;rintro o h3 cF ⟨rfl,hW⟩;simp;exact⟨rfl,hW⟩
theorem alp{w:Key}{c:AV}{bs:List Nat}{h:T ah}{nx n0:Key}(Ws:WS w c bs h nx n0)(hl:bs.length≤100000)(b:Bool) :
  aH C gf [.ptr w 0,.bool b] h nx (iM w (bs ++ [if b=true then 1 else 0]) h nx n0):=by
 have s1:=kTSu nx;refine H.wq.call ?_;simp[ra];have key:∀y:Nat,∃c' h' nx',appendTo 1 c [.int .u8 (.lit (y:Int))] 1 (av nx (Vv [.int .u8 (.lit (y:Int))]) h) nx.succ=.val c' h' nx'∧c'.aP=true∧c'.cells=[c']∧ae w h'=Vv [c]∧WS w c' (bs ++ [y]) (av w (Vv [c']) h') nx' n0∧nx.toNat≤nx'.toNat∧(∀b:Key,b.toNat<n0.toNat→ae b (av w (Vv [c']) h')=ae b h)∧T7 w h nx (av w (Vv [c']) h'):=by intro y;obtain⟨c2,h2,aU,g,x1,x2,x3,W2,x5,x6,x7⟩:=(Ws.ext (E0 h nx (.cells [.int .u8 (.lit (y:Int))] .fix))).add [y] (by simp;omega);have Y1:ag eY [y]=[.int .u8 (.lit (y:Int))]:=fj _ _;rw[Y1]at g;exact⟨c2,h2,aU,g,x1,x2,x3,W2,by omega,fun b hb=>by rw[x6 b hb,az (by have:=Ws.n;omega)],(T7.new w h nx _).trans (by omega) x7⟩
 cases b with
 |true=>obtain⟨c2,h2,aU,g,x1,x2,x3,W2,x5,x6,x7⟩:=key 1;simp[-appendTo]at g;simp[mw];simp[-appendTo,uF,Ws.at_,g,x1,x2,x3];exact⟨rfl,c2,W2,x5,x6,x7⟩
 |false=>obtain⟨c2,h2,aU,g,x1,x2,x3,W2,x5,x6,x7⟩:=key 0;simp[-appendTo]at g;simp[mw];simp[-appendTo,uG,Ws.at_,g,x1,x2,x3];exact⟨rfl,c2,W2,x5,x6,x7⟩
end Ln
namespace Ln
open Go.Sx Go
theorem iM.lift{w n0:Key}{bs:List Nat}{h h1 h':T ah}{nx bF nx':Key}{o:Out}(e:Ext h nx h1 bF)(hn:n0.toNat≤nx.toNat)(W:iM w bs h1 bF n0 o h' nx'):iM w bs h nx n0 o h' nx':=by obtain⟨ho,c',W,hx,hf,hk⟩:=W;have n:=e.n;exact⟨ho,c',W,by omega,fun b hb=>by rw[hf b hb,e.g b (by omega)],(Ext.kp e w).trans (by omega) hk⟩
def stU(u:U):St:=⟨u.k,u.n,[]⟩
theorem asb(u:U):eS (stU u)=eU u:=rfl
variable{C:bK}{X:Kn}(S:Std C X)(H:Mk C)
include S H
theorem amy{w:Key}{c:AV}{bs:List Nat}{h:T ah}{nx n0:Key}(Ws:WS w c bs h nx n0)(hl:bs.length≤100000)(s:St) :
  aH C dj [.ptr w 0,.agg (eS s)] h nx (iM w (bs++Mj s.n) h nx n0):=by
 have rI:=S.r cD;have s1:=kTSu nx;refine H.qG.call ?_;simp[mJ];simp[pT,uU,lenS];have e1:=E0 h nx (.cells (eS s) .fix);have b1:ae nx (av nx (Vv (eS s)) h)=Vv (eS s):=by simp
 have W1:=Ws.ext e1;generalize av nx (Vv (eS s)) h=h1 at *;have es1:(eS s)[1]?=some (I s.n):=rfl;simp[pU,b1,es1,rI];refine(Zs S H W1 hl s.n).mono ?_;rintro o h2 aU W2;have W3:=iM.lift e1 Ws.n W2;obtain⟨rfl,hW⟩:=W2;simp;exact W3
theorem amz{w:Key}{c:AV}{bs:List Nat}{h:T ah}{nx n0:Key}(Ws:WS w c bs h nx n0)(hl:bs.length≤100000)(s:St) :
  aH C dO [.ptr w 0,.agg (eS s)] h nx (iM w (bs ++ [if s.n=1 then 1 else 0]) h nx n0):=by
 have rI:=S.r gf;have s1:=kTSu nx;refine H.tu.call ?_;simp[nW];simp[qM,uU,lenS];have e1:=E0 h nx (.cells (eS s) .fix);have b1:ae nx (av nx (Vv (eS s)) h)=Vv (eS s):=by simp
 have W1:=Ws.ext e1;generalize av nx (Vv (eS s)) h=h1 at *;have es1:(eS s)[1]?=some (I s.n):=rfl;simp[qO,b1,es1,rI];have hb:=alp S H W1 hl (decide (s.n=1));simp at hb;refine hb.mono ?_;rintro o h2 aU W2;have W3:=iM.lift e1 Ws.n W2;obtain⟨rfl,hW⟩:=W2;simp;exact W3
theorem amA{w:Key}{h:T ah}{nx:Key}:aH C fi [.ptr w 0] h nx (fun o h' nx'=>o=.ret (.agg [.fn dj [.ptr w 0] [],.fn dO [.ptr w 0] [],.fn de [.ptr w 0] [],.fn vk [.ptr w 0] []])∧Ext h nx h' nx'):=by have s1:=kTSu nx;refine H.tq.call ?_;simp[nV];simp[qP];simp[qQ];exact(E0 h nx _)
end Ln
namespace Ln
open Go.Sx Go
variable{C:bK}{X:Kn}(S:Std C X)(H:Mk C)
include S H
theorem Xd{w:Key}{c:AV}{bs:List Nat}{h:T ah}{nx n0:Key}(Ws:WS w c bs h nx n0)(hl:bs.length≤90000){s:St}{en:List Nat}
  (hk:(s.k=0∧en=Mj s.n)∨(s.k=1∧en=[if s.n=1 then 1 else 0])∨(s.k=2∧∀{c':AV} {bs':List Nat} {h':T ah} {nx':Key},WS w c' bs' h' nx' n0→bs'.length≤bs.length+11→aH C de [.ptr w 0,.agg (eS s)] h' nx' (iM w (bs'++en) h' nx' n0))) :
  aH C bz [.ptr w 0,.agg (eS s)] h nx (iM w (bs++Mj s.k++en) h nx n0):=by
 have rI:=S.r cD;have rK:=S.r fi;have r0:=S.r dj;have r1:=S.r dO;have r2:=S.r de;have s1:=kTSu nx;refine H.tp.call ?_;simp[nU];simp[qR,uU,lenS];have e1:=E0 h nx (.cells (eS s) .fix);have b1:ae nx (av nx (Vv (eS s)) h)=Vv (eS s):=by simp
 have W1:=Ws.ext e1;generalize av nx (Vv (eS s)) h=h1 at *;have es0:(eS s)[0]?=some (I s.k):=rfl;have Xe:(eS s).head?=some (I s.k):=rfl;simp[qS,b1,es0,Xe,rI];refine(Zs S H W1 (by omega) s.k).mono ?_;rintro o h2 aU ⟨rfl,c2,W2,Z2,hf2,Pr⟩;have b2:ae nx h2=Vv (eS s):=by have hw:=Ws.hi;rw[Pr nx (by omega) (fun e=>by rw[e]at hw;omega) (fun B hB=>by rw[b1]at hB;cases hB;exact⟨by simp,by simp⟩)];exact b1
 have adl:=xT s.k;have fin:∀{o h' nx'},iM w (bs++Mj s.k++en) h2 aU n0 o h' nx'→iM w (bs++Mj s.k++en) h nx n0 o h' nx':=by rintro o h' nx' ⟨ho,c',W',hx,hf,HF⟩;exact iM.lift e1 Ws.n ⟨ho,c',W',by omega,fun b hb=>by rw[hf b hb,hf2 b hb],Pr.trans Z2 HF⟩
 simp;simp[qT,b2,es0,Xe,lenS,td,rK];refine(amA S H).mono ?_;rintro o h3 cF ⟨rfl,e3⟩;have n3:=e3.n;have W3:=W2.ext e3;have b3:ae nx h3=Vv (eS s):=by rw[e3.g nx (by omega)];exact b2
 have bq:AV.beq (.agg (eS s)) (.agg (eS s))=true:=aia s;have bk:AV.beq (I s.k) (I s.k)=true:=beq_refl _ rfl;have awy:∀{o h' nx'},iM w (bs++Mj s.k++en) h3 cF n0 o h' nx'→iM w (bs++Mj s.k++en) h nx n0 o h' nx':=fun W=>fin (iM.lift e3 W2.n W);have hl3:(bs++Mj s.k).length≤100000:=by rw[Ho];omega
 have aDu:(bs++Mj s.k).length≤bs.length+11:=by rw[Ho];omega
 have ha:bs++Mj s.k++en=bs++(Mj s.k++en):=List.append_assoc _ _ _;rw[ha]at awy;have asi:∀{o h' nx'},iM w (bs++Mj s.k++en) h3 cF n0 o h' nx'→o=.ret (.tuple [])∧iM w (bs++(Mj s.k++en)) h nx n0 (.ret (.tuple [])) h' nx':=fun W=>by rw[ha]at W;have W':=awy W;obtain⟨rfl,_⟩:=W;exact⟨rfl,W'⟩
 generalize BT:Mj s.k=ek at *;rcases hk with⟨k0,rfl⟩|⟨k0,rfl⟩|⟨k0,hL⟩
 ·rw[k0]at es0 Xe bk;simp[b3,es0,Xe,lenS,td,bq,bk,r0,y8,k0];refine(amy S H W3 hl3 s).mono ?_;rintro o h4 jw W4;obtain⟨rfl,W5⟩:=asi W4;simp;exact W5
 ·rw[k0]at es0 Xe bk;simp[b3,es0,Xe,lenS,td,bq,bk,r1,y8,k0];refine(amz S H W3 hl3 s).mono ?_;rintro o h4 jw W4;obtain⟨rfl,W5⟩:=asi W4;simp;exact W5
 ·rw[k0]at es0 Xe bk;simp[b3,es0,Xe,lenS,td,bq,bk,r2,y8,k0];refine(hL W3 aDu).mono ?_;rintro o h4 jw W4;obtain⟨rfl,W5⟩:=asi W4;simp;exact W5
end Ln
