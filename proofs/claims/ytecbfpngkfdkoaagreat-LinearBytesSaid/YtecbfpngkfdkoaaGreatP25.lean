/- A part of the proof. No condition. -/
import Derived.Test.YtecbfpngkfdkoaaGreatP23
import Derived.Test.YtecbfpngkfdkoaaGreatP9
set_option linter.unusedSimpArgs false
set_option linter.unusedVariables false
set_option linter.unusedSectionVars false
namespace Ln
open Go.Sx Go
def zj:Nat→Nat→List Nat
 |0,n=>[n]
 |k+1,n=>if n<128 then [n]else(128+n%128) ::zj k (n / 128)
def vu(n:Nat):List Nat:=zj 10 n
def zz(n:Int):Nat:=if n<0 then(2*(-(n+1))+1).toNat else(2*n).toNat
theorem BH{n:Int}(h1:-9223372036854775808≤n)(h2:n<9223372036854775808):zz n<18446744073709551616:=by unfold zz;split<;>omega
theorem lG{C:cX}{l:List aq}{R:cu}{tm:T AV}{h:T ab}{nx:Key}(hw:il C (.ops l) R tm h nx):xj C R l tm h nx:=by simpa using hw
def eY(b:Nat):List AV:=[.int .u8 (.lit (b:Int))]
theorem bE:Flat 1 eY where
 len _:=rfl
 sg x y hy:=by simp[eY]at hy;subst hy;exact qp _ _
 cell x y hy:=by simp[eY]at hy;subst hy;rfl
 lits x:=rfl
structure WS(w:Key)(c:AV)(bs:List Nat)(h:T ab)(nx n0:Key):Prop where
 lo:n0.toNat≤w.toNat
 hi:w.toNat<nx.toNat
 n:n0.toNat≤nx.toNat
 at_:ae w h=some (.cells [c] .fix)
 app:App c (an eY bs) bs.length 1 h nx n0
def Iw(w:Key)(h:T ab)(nx:Key)(h':T ab):Prop:=∀b:Key,b.toNat<nx.toNat→b≠w→(∀B,ae b h=some B→B≠.tok∧∀l,B≠.cells l .part)→ae b h'=ae b h
theorem Iw.refl(w:Key)(h:T ab)(nx:Key):Iw w h nx h:=fun _ _ _ _=>rfl
theorem Iw.trans{w:Key}{h h1 h2:T ab}{nx nx1:Key}(a:Iw w h nx h1)(hn:nx.toNat≤nx1.toNat)(b:Iw w h1 nx1 h2):Iw w h nx h2:=fun k hk hw hB=>by have e:=a k hk hw hB;rw[b k (by omega) hw (by rw[e];exact hB),e]
theorem Iw.new(w:Key)(h:T ab)(nx:Key)(B:Option ab):Iw w h nx (ar nx B h):=fun _ hk _ _=>al hk
theorem Ext.kp{h h':T ab}{nx nx':Key}(e:Ext h nx h' nx')(w:Key):Iw w h nx h':=fun b hb _ _=>e.g b hb
theorem WS.add{w:Key}{c:AV}{bs:List Nat}{h:T ab}{nx n0:Key}(W:WS w c bs h nx n0)(new:List Nat)(hl:bs.length+new.length≤1048576) :
  ∃c' h' nx',appendTo 1 c (an eY new) new.length h nx=.val c' h' nx'∧c'.bH=true∧c'.cells=[c']∧ae w h'=some (.cells [c] .fix)∧WS w c' (bs++new) (ar w (some (.cells [c'] .fix)) h') nx' n0∧nx.toNat≤nx'.toNat∧(∀b:Key,b.toNat<n0.toNat→ae b (ar w (some (.cells [c'] .fix)) h')=ae b h)∧Iw w h nx (ar w (some (.cells [c'] .fix)) h'):=by
 obtain⟨c',h',nx',a1,a2,a3,a4,a5⟩:=W.app.Jt (new:=an eY new) (m:=new.length) W.n (by rw[bE.rows]) hl (bE.EH new);have hw:ae w h'=some (.cells [c] .fix):=by rw[a5 w W.hi (fun B hB=>by rw[W.at_]at hB;cases hB;exact⟨by simp,by simp⟩)];exact W.at_
 have⟨x1,x2⟩:=a2.cell;refine⟨c',h',nx',a1,x1,x2,hw,⟨W.lo,by have:=W.hi;omega,by have:=W.n;omega,by rw[gTSm],?_⟩,a3,fun b hb=>by rw[al (by have:=W.lo;omega)];exact a4 b hb,fun b hb Qn hB=>by rw[bQ _ _ _ _ Qn];exact a5 b hb hB⟩;have:=a2.set (k:=w) (B:=some (.cells [c'] .fix)) (fun B hB=>by rw[hw]at hB;cases hB;exact⟨by simp,by simp⟩);rw[gA,fO];exact this
theorem WS.ext{w:Key}{c:AV}{bs:List Nat}{h h':T ab}{nx nx' n0:Key}(W:WS w c bs h nx n0)(e:Ext h nx h' nx'):WS w c bs h' nx' n0:=
 ⟨W.lo,by have:=W.hi;have:=e.n;omega,by have:=W.n;have:=e.n;omega,by rw[e.g w W.hi];exact W.at_,W.app.ext e⟩
def dh(w:Key)(bs:List Nat)(h:T ab)(nx n0:Key)(o:Out)(h':T ab)(nx':Key):Prop:=o=.ret (.tuple [])∧∃c',WS w c' bs h' nx' n0∧nx.toNat≤nx'.toNat∧(∀b:Key,b.toNat<n0.toNat→ae b h'=ae b h)∧Iw w h nx h'
theorem wrap_u8(n:Nat):aX .u8 (n:Int)=((n%256:Nat):Int):=by rw[dV];simp[IntKind.wrap,IntKind.bits,IntKind.signed]
theorem X2(n:Nat):arith .or .u8 (.lit ((n%256:Nat):Int)) (.lit 128)=some (.lit ((128+n%128:Nat):Int)):=by
 have key:∀x:Fin 256,aX .u8 (.ofNat (Nat.lor (GG .u8 ((x.val:Nat):Int)) (GG .u8 128)))=((128+x.val%128:Nat):Int):=by decide +kernel
 have e:=key ⟨n%256,Nat.mod_lt _ (by omega)⟩;have e2:arith .or .u8 (.lit ((n%256:Nat):Int)) (.lit 128)=some (.lit (aX .u8 (.ofNat (Nat.lor (GG .u8 ((n%256:Nat):Int)) (GG .u8 128))))):=rfl;rw[e2,e];simp only;congr 3;omega
theorem ab4(orc:dP)(n:Nat)(k:Key)(tm:T AV)(h:T ab)(hk:ae k tm=some (.int .u64 (.lit (n:Int)))):lightOp orc (.bin .shr (.t k) (.v (.int .u64 (.lit 7)))) tm h=some (.int .u64 (.lit ((n / 128:Nat):Int))):=by simp only[lightOp,at_t,at_v,hk];rfl
theorem wH(orc:dP){k:Key}{v:AV}{tm:T AV}{h:T ab}(hk:ae k tm=some v):lightOp orc (.mov (.t k)) tm h=some v:=by simp[hk]
theorem X3{C:cX}{Q:cu}{tm:T AV}{h:T ab}{nx:Key}{n d:Nat}(hd:d=n / 128)(f1:ae (K 1) tm=some (.int .u64 (.lit (n:Int))))
  (hQ:Q .norm (ar (K 1) (some (.int .u64 (.lit (d:Int)))) (ar (K 19) (some (.int .u64 (.lit (d:Int)))) (ar (K 18) (some (.int .u64 (.lit (n:Int)))) tm))) h nx):il C (.ops jA) Q tm h nx:=by
 subst hd;have e1:=wH C.orc (h:=h) f1;have e2:=ab4 C.orc n (K 18) (ar (K 18) (some (.int .u64 (.lit (n:Int)))) tm) h (by simp);have e3:=wH C.orc (k:=K 19) (v:=.int .u64 (.lit ((n / 128:Nat):Int))) (tm:=ar (K 19) (some (.int .u64 (.lit ((n / 128:Nat):Int)))) (ar (K 18) (some (.int .u64 (.lit (n:Int)))) tm)) (h:=h) (by simp);generalize n / 128=d at e2 e3 hQ;simp only[hU,ib,ic,hZ,ia,jA,ab5,ab6,ab7,v8,xM,wants_none,tW,aOp,okV,e1,e2,e3,putTm_some,Ix];exact hQ
variable{C:cX}
def Wg(w:Key)(bs:List Nat)(n:Nat)(h:T ab)(nx n0:Key)(k:Nat)(aD:T AV)(h':T ab)(nx':Key):Prop:=
 ∃(n':Nat) (Gk:List Nat) (c':AV),k≤10∧ae (K 0) aD=some (.ptr w 0)∧ae (K 1) aD=some (.int .u64 (.lit (n':Int)))∧WS w c' Gk h' nx' n0∧n'*128^(10-k)<18446744073709551616∧Gk++zj k n'=bs++vu n∧Gk.length≤bs.length+(10-k)∧
  nx.toNat≤nx'.toNat∧(∀b:Key,b.toNat<n0.toNat→ae b h'=ae b h)∧Iw w h nx h'
theorem BI(S:Fn C aN da){w:Key}{c:AV}{bs:List Nat}{h:T ab}{nx n0:Key}(Ws:WS w c bs h nx n0){n:Nat}(hn:n<18446744073709551616)(hl:bs.length≤100000) :
  ax C aN [.ptr w 0,.int .u64 (.lit (n:Int))] h nx (dh w (bs++vu n) h nx n0):=by
 refine S.call ?_;simp[da];refine W.hO (n:=10) (Wg w bs n h nx n0) ?_ ?_
 ·exact⟨n,bs,c,by omega,by simp,by simp,Ws,by simpa using hn,rfl,by omega,cI _,fun _ _=>rfl,Iw.refl _ _ _⟩
 ·rintro k dT h1 nx1 ⟨n',Gk,c',hk,f0,f1,W1,bF,Ir,hlen,LZ,GB,hkp⟩;refine W.of ?_;simp[pC];have s1:=kTSu nx1;by_cases Qo:n'<128
  ·have L0:(n':Int)<128:=by omega
   have hv:zj k n'=[n']:=by cases k<;>simp[zj,Qo]
   simp[jB,f1,L0];obtain⟨m,hm⟩:∃m,m=n'%256:=⟨_,rfl⟩;have h12:aX .u8 (n':Int)=(m:Int):=by rw[wrap_u8,hm]
   have hmn:m=n':=by omega
   obtain⟨c2,h2,aP,g,x1,x2,x3,W2,x5,x6,x7⟩:=(W1.ext (E0 h1 nx1 (.cells [.int .u8 (.lit (m:Int))] .fix))).add [m] (by simp;omega);have Hs:an eY [m]=[.int .u8 (.lit (m:Int))]:=kU _ _;rw[Hs]at g;simp only[List.length_singleton]at g;have hz:∀H,aO (aK 9999) [AV.int .u8 (.lit (m:Int))] H=([AV.int .u8 (.lit (m:Int))],H):=fun H=>aG (by intro y hy;simp at hy;subst hy;exact qp _ _);simp[-appendTo,pD,f0,f1,W1.at_,h12,hz,g,x1,x2,x3];refine⟨rfl,c2,by rw[←Ir,hv,←hmn];exact W2,by omega,fun b hb=>?_,(hkp.trans LZ (Iw.new w h1 nx1 _)).trans (by omega) x7⟩;rw[x6 b hb,al (by have:=W1.n;omega)];exact GB b hb
  ·have L0:¬(n':Int)<128:=by omega
   cases k with
   |zero=>
    exfalso;have:(128:Nat)^(10-0)=1180591620717411303424:=by decide
    rw[this]at bF;omega
   |succ k=>
    simp[jB,f1,L0];obtain⟨m,hm⟩:∃m,m=n'%256:=⟨_,rfl⟩;obtain⟨y,hy⟩:∃y,y=128+n'%128:=⟨_,rfl⟩;have h12:aX .u8 (n':Int)=(m:Int):=by rw[wrap_u8,hm]
    have h13:arith .or .u8 (.lit (m:Int)) (.lit 128)=some (.lit (y:Int)):=by rw[hm,X2,hy]
    obtain⟨c2,h2,aP,g,x1,x2,x3,W2,x5,x6,x7⟩:=(W1.ext (E0 h1 nx1 (.cells [.int .u8 (.lit (y:Int))] .fix))).add [y] (by simp;omega);have Hs:an eY [y]=[.int .u8 (.lit (y:Int))]:=kU _ _;rw[Hs]at g;simp only[List.length_singleton]at g;have hz:∀H,aO (aK 9999) [AV.int .u8 (.lit (y:Int))] H=([AV.int .u8 (.lit (y:Int))],H):=fun H=>aG (by intro z hz;simp at hz;subst hz;exact qp _ _);simp[-appendTo,-arith,pE,f0,f1,W1.at_,h12,h13,hz,g,x1,x2,x3];refine lG (X3 (n:=n') (d:=n' / 128) rfl (by simp[f1]) ?_);simp;refine⟨k,by omega,?_⟩;unfold Wg;have hp:10-k=(10-(k+1))+1:=by omega
    refine⟨n' / 128,Gk ++ [y],c2,by omega,?_,?_,W2,?_,?_,?_,by omega,fun b hb=>?_,(hkp.trans LZ (Iw.new w h1 nx1 _)).trans (by omega) x7⟩
    ·simp[f0]
    ·simp
    ·rw[hp,Nat.pow_succ];have:n' / 128*(128^(10-(k+1))*128)≤n'*128^(10-(k+1)):=by rw[Nat.mul_comm (128^_) 128,←Nat.mul_assoc];exact Nat.mul_le_mul_right _ (Nat.div_mul_le_self _ _)
     omega
    ·rw[←Ir,zj,if_neg Qo,hy,List.append_assoc];rfl
    ·rw[fO,List.length_singleton];omega
    ·rw[x6 b hb,al (by have:=W1.n;omega)];exact GB b hb
theorem y7(n:Int):aX .u64 n=((n.emod 18446744073709551616).toNat:Int):=by rw[dV];simp only[IntKind.wrap,IntKind.bits,IntKind.signed];have e:n.emod 18446744073709551616=n%18446744073709551616:=rfl;rw[e];simp;omega
theorem EY(orc:dP)(k' kk:IntKind){k:Key}{n:Int}{tm:T AV}{h:T ab}(hk:ae k tm=some (.int kk (.lit n))):lightOp orc (.cint k' (.t k)) tm h=some (.int k' (.lit (aX k' n))):=by simp[hk]
theorem X4(orc:dP){k:Key}{u:Nat}{tm:T AV}{h:T ab}(hk:ae k tm=some (.int .u64 (.lit (u:Int)))):lightOp orc (.bin .shl (.t k) (.v (.int .u64 (.lit 1)))) tm h=some (.int .u64 (.lit (aX .u64 (Int.mul (u:Int) 2)))):=by simp only[lightOp,at_t,at_v,hk];rfl
theorem Ua(orc:dP){k:Key}{n:Int}{tm:T AV}{h:T ab}(h1:-9223372036854775808≤n)(h2:n<9223372036854775808)(hk:ae k tm=some (.int .i64 (.lit n))):lightOp orc (.bin .shr (.t k) (.v (.int .u64 (.lit 63)))) tm h=some (.int .i64 (.lit (if n<0 then -1 else 0))):=by
 simp only[lightOp,at_t,at_v,hk];cases n with
 |ofNat a=>
  have ha:a<9223372036854775808:=by have:((a:Nat):Int)<9223372036854775808:=h2;omega
  show some (AV.int .i64 (.lit (.ofNat (Nat.div a (Nat.pow 2 63)))))=_;have:Nat.div a (Nat.pow 2 63)=0:=Nat.div_eq_of_lt (by show a<2^63;omega);rw[this,if_neg (by have:(0:Int)≤Int.ofNat a:=Int.natCast_nonneg a;omega)];rfl
 |negSucc a=>
  have ha:a<9223372036854775808:=by have:-9223372036854775808≤Int.negSucc a:=h1;omega
  show some (AV.int .i64 (.lit (.negSucc (Nat.div a (Nat.pow 2 63)))))=_;have:Nat.div a (Nat.pow 2 63)=0:=Nat.div_eq_of_lt (by show a<2^63;omega);rw[this,if_pos (by omega)];rfl
theorem aca(orc:dP){k k':Key}{a b:Nat}{tm:T AV}{h:T ab}(hk:ae k tm=some (.int .u64 (.lit (a:Int))))(vO:ae k' tm=some (.int .u64 (.lit (b:Int)))):lightOp orc (.bin .xor (.t k) (.t k')) tm h=some (.int .u64 (.lit (Int.emod (.ofNat (Nat.xor a b)) 18446744073709551616))):=by simp only[lightOp,at_t,hk,vO];rfl
theorem Wh(x:Nat)(hx:x<18446744073709551616):Nat.xor x 18446744073709551615=18446744073709551615-x:=by
 have h1:(BitVec.ofNat 64 x ^^^ BitVec.allOnes 64).toNat=x ^^^ 18446744073709551615:=by rw[BitVec.toNat_xor,BitVec.toNat_allOnes,BitVec.toNat_ofNat,Nat.mod_eq_of_lt (by simpa using hx)]
 have h2:BitVec.ofNat 64 x ^^^ BitVec.allOnes 64= ~~~ (BitVec.ofNat 64 x):=by rw[BitVec.not_def,BitVec.xor_comm]
 rw[h2,BitVec.toNat_not,BitVec.toNat_ofNat,Nat.mod_eq_of_lt (by simpa using hx)]at h1;exact h1.symm.trans rfl |>.trans (by omega)
theorem zig(n:Int)(h1:-9223372036854775808≤n)(h2:n<9223372036854775808) :
  Int.emod (.ofNat (Nat.xor ((Int.mul (((n.emod 18446744073709551616).toNat:Nat):Int) 2).emod 18446744073709551616).toNat (((if n<0 then(-1:Int)else 0).emod 18446744073709551616).toNat))) 18446744073709551616=((zz n:Nat):Int):=by
 have hmul:Int.mul (((n.emod 18446744073709551616).toNat:Nat):Int) 2=(((n.emod 18446744073709551616).toNat:Nat):Int)*2:=rfl;have e1:n.emod 18446744073709551616=n%18446744073709551616:=rfl;rw[hmul];by_cases h:n<0
 ·rw[if_pos h];have e2:((-1:Int).emod 18446744073709551616).toNat=18446744073709551615:=by decide
  have e3:(((((n.emod 18446744073709551616).toNat:Nat):Int)*2).emod 18446744073709551616).toNat=(18446744073709551616+2*n).toNat:=by rw[e1];have e4:((((n%18446744073709551616).toNat:Nat):Int)*2).emod 18446744073709551616=(((n%18446744073709551616).toNat:Nat):Int)*2%18446744073709551616:=rfl;rw[e4];omega
  rw[e2,e3,Wh _ (by omega)];unfold zz;rw[if_pos h];show((18446744073709551615-(18446744073709551616+2*n).toNat:Nat):Int)%18446744073709551616=_;omega
 ·rw[if_neg h];have e2:((0:Int).emod 18446744073709551616).toNat=0:=by decide
  have e3:(((((n.emod 18446744073709551616).toNat:Nat):Int)*2).emod 18446744073709551616).toNat=(2*n).toNat:=by rw[e1];have e4:((((n%18446744073709551616).toNat:Nat):Int)*2).emod 18446744073709551616=(((n%18446744073709551616).toNat:Nat):Int)*2%18446744073709551616:=rfl;rw[e4];omega
  have e5:∀x:Nat,Nat.xor x 0=x:=fun x=>Nat.xor_zero x;rw[e2,e3,e5];unfold zz;rw[if_neg h];show(((2*n).toNat:Nat):Int)%18446744073709551616=_;omega
theorem Ub(S:Fn C aM kc)(SU:Fn C aN da)(hr:C.raw aN=false){w:Key}{c:AV}{bs:List Nat}{h:T ab}{nx n0:Key}(Ws:WS w c bs h nx n0){n:Int}(h1:-9223372036854775808≤n)(h2:n<9223372036854775808)(hl:bs.length≤100000) :
  ax C aM [.ptr w 0,I n] h nx (dh w (bs++vu (zz n)) h nx n0):=by
 refine S.call ?_;have z:=zig n h1 h2;have hz:=BH h1 h2;have k4:=wH C.orc (k:=K 0) (v:=.ptr w 0) (tm:=(ar (K 1) (some (I n)) (ar (K 0) (some (.ptr w 0)) .nil))) (h:=h) (by simp);have k5:=wH C.orc (k:=K 1) (v:=I n) (tm:=(ar (K 4) (some (.ptr w 0)) (ar (K 1) (some (I n)) (ar (K 0) (some (.ptr w 0)) .nil)))) (h:=h) (by simp);have k6:=EY C.orc .u64 .i64 (k:=K 5) (n:=n) (tm:=ar (K 5) (some (I n)) (ar (K 4) (some (.ptr w 0)) (ar (K 1) (some (I n)) (ar (K 0) (some (.ptr w 0)) .nil)))) (h:=h) (by simp);rw[y7]at k6;generalize hu:(n.emod 18446744073709551616).toNat=u at k6 z;have k7:=X4 C.orc (k:=K 6) (u:=u) (tm:=ar (K 6) (some (.int .u64 (.lit (u:Int)))) (ar (K 5) (some (I n)) (ar (K 4) (some (.ptr w 0)) (ar (K 1) (some (I n)) (ar (K 0) (some (.ptr w 0)) .nil))))) (h:=h) (by simp);rw[y7]at k7;generalize hv:((Int.mul (u:Int) 2).emod 18446744073709551616).toNat=v at k7 z;have k8:=wH C.orc (k:=K 1) (v:=I n) (tm:=ar (K 7) (some (.int .u64 (.lit (v:Int)))) (ar (K 6) (some (.int .u64 (.lit (u:Int)))) (ar (K 5) (some (I n)) (ar (K 4) (some (.ptr w 0)) (ar (K 1) (some (I n)) (ar (K 0) (some (.ptr w 0)) .nil)))))) (h:=h) (by simp);have k9:=Ua C.orc (k:=K 8) h1 h2 (tm:=ar (K 8) (some (I n)) (ar (K 7) (some (.int .u64 (.lit (v:Int)))) (ar (K 6) (some (.int .u64 (.lit (u:Int)))) (ar (K 5) (some (I n)) (ar (K 4) (some (.ptr w 0)) (ar (K 1) (some (I n)) (ar (K 0) (some (.ptr w 0)) .nil))))))) (h:=h) (by simp);generalize hs:(if n<0 then(-1:Int)else 0)=s at k9 z;have ch:=EY C.orc .u64 .i64 (k:=K 9) (n:=s) (tm:=ar (K 9) (some (I s)) (ar (K 8) (some (I n)) (ar (K 7) (some (.int .u64 (.lit (v:Int)))) (ar (K 6) (some (.int .u64 (.lit (u:Int)))) (ar (K 5) (some (I n)) (ar (K 4) (some (.ptr w 0)) (ar (K 1) (some (I n)) (ar (K 0) (some (.ptr w 0)) .nil)))))))) (h:=h) (by simp);rw[y7]at ch;generalize ht:(s.emod 18446744073709551616).toNat=t at ch z;have b7:=aca C.orc (k:=K 7) (k':=K 10) (a:=v) (b:=t) (tm:=ar (K 10) (some (.int .u64 (.lit (t:Int)))) (ar (K 9) (some (I s)) (ar (K 8) (some (I n)) (ar (K 7) (some (.int .u64 (.lit (v:Int)))) (ar (K 6) (some (.int .u64 (.lit (u:Int)))) (ar (K 5) (some (I n)) (ar (K 4) (some (.ptr w 0)) (ar (K 1) (some (I n)) (ar (K 0) (some (.ptr w 0)) .nil))))))))) (h:=h) (by simp) (by simp);rw[z]at b7;have hp:eH [.ptr w 0,I n] (K 0) .nil=ar (K 1) (some (I n)) (ar (K 0) (some (.ptr w 0)) .nil):=rfl;rw[hp];simp only[hU,ib,ic,hZ,ia,kc,qO,af4,ab5,acb,acd,ace,acf,acg,ach,Wi,Wj,Wk,v8,xM,wants_none,tW,aOp,okV,k4,k5,k6,k7,k8,k9,ch,b7,putTm_some];simp[hr];refine(BI SU Ws hz hl).mono ?_;rintro o h3 bu ⟨rfl,hW⟩;simp;exact⟨rfl,hW⟩
theorem Uc{q n0:Key}{h:T ab}{nx:Key}(hq:ae q h=some (.cells [] .fix))(sf:n0.toNat≤q.toNat)(hn:n0.toNat≤nx.toNat)(m:List Nat)(hl:m.length≤1048576) :
  ∃c' h' nx',appendTo 1 (.slice q 0 0 1) (an eY m) m.length h nx=.val c' h' nx'∧nx.toNat≤nx'.toNat∧py 1 eY (aK 9999 c' h').1 m∧∀b:Key,b.toNat<n0.toNat→ae b (aK 9999 c' h').2=ae b h:=by
 by_cases hm:m=[]
 ·subst hm;have hz:=M9 (n:=9998) (b:=q) (len:=0) (sz:=1) (l:=[]) (H:=ar q (some (.cells [] .fix)) h) (by rw[gTSm]) rfl (by simp);refine⟨.slice q 0 0 1,ar q (some (.cells [] .fix)) h,nx,by simp[hq],cI _,?_,fun b hb=>?_⟩
  ·rw[hz];exact .inr rfl
  ·rw[hz,al (by omega),al (by omega)]
 ·have hmp:0<m.length:=List.length_pos_iff.2 hm;have yf:¬m.length=0:=by omega
  have hr:=bE.rows m;have qq:=bE.EH m;have hz:=EZ (n:=9998) (b:=nx) (len:=m.length) (sz:=1) (l:=an eY m) (H:=ar nx (some (.cells (an eY m) .part)) h) (by rw[gTSm]) hr (bE.H9 m);refine⟨.slice nx 0 m.length 1,ar nx (some (.cells (an eY m) .part)) h,nx.succ,?_,by rw[kTSu];omega,?_,fun b hb=>?_⟩
  ·simp[hq,hl,qq,yf]
  ·rw[hz];exact .inr rfl
  ·rw[hz,al (by omega),al (by omega)]
theorem EX(S:Fn C bt iW){w:Key}{c:AV}{bs:List Nat}{h:T ab}{nx n0:Key}(Ws:WS w c bs h nx n0)(hl:bs.length≤1048576) :
  ax C bt [.ptr w 0] h nx (fun o h' nx'=>(∃c',o=.ret c'∧py 1 eY c' bs)∧Ext h nx h' nx'):=by
 have s1:=kTSu nx;refine S.call ?_;have xl:ae w (ar nx (some (.cells [] .fix)) h)=some (.cells [c] .fix):=by rw[al Ws.hi];exact Ws.at_
 simp[iW];simp[pF];obtain⟨c',h',nx',g,hn,hR,hf⟩:=Uc (q:=nx) (n0:=nx) (h:=ar nx (some (.cells [] .fix)) h) (nx:=nx.succ) (by rw[gTSm]) (cI _) (by omega) bs hl;have hE:Ext h nx (aK 9999 c' h').2 nx':=⟨by omega,fun b hb=>by rw[hf b hb,al hb]⟩;rcases Ws.app.is with⟨rfl,e1,e2⟩|⟨b,rfl,hb,sf,bF,PM⟩|⟨t,rfl,ht,sf,bF⟩
 ·have:bs=[]:=H8 e2;subst this;simp only[tU,List.length_nil]at g;simp[-appendTo,fA,xl,g];exact⟨hR,hE⟩
 ·have GC:ae b (ar nx (some (.cells [] .fix)) h)=some (.cells (an eY bs) .part):=by rw[al bF];exact hb
  have hz:∀H,aO (aK 9999) (an eY bs) H=(an eY bs,H):=fun H=>aG (bE.H9 bs);have hle:bs.length≤(an eY bs).length:=by rw[bE.rows];omega
  have Ju:List.take bs.length (an eY bs)=an eY bs:=Hf (by rw[bE.rows];omega);simp[-appendTo,fA,xl,GC,hz,hle,Ju,g];exact⟨hR,hE⟩
 ·simp[-appendTo,fA,xl,g];exact⟨hR,hE⟩
end Ln
namespace Ln
open Go.Sx Go
def Lw:Nat→Nat→List Nat→Option (Nat×List Nat)
 |_,_,[]=>none
 |i,acc,b ::r=>if (i=9∧1<b)∨(0<i∧b=0)then none else if b<128 then some (acc+b%128*128^i,r)else Lw (i+1) (acc+b%128*128^i) r
def M4(bs:List Nat):Option (Nat×List Nat):=Lw 0 0 bs
theorem p9{i:Nat}(h:i≤9):128^i≤9223372036854775808:=Nat.le_trans (Nat.pow_le_pow_right (by omega) h) (by decide)
theorem p8{i:Nat}(h:i≤8):128^(i+1)≤9223372036854775808:=p9 (by omega)
theorem XA:∀(k i n acc:Nat) (r:List Nat),i≤9→n*128^i<18446744073709551616→(i=0∨0<n)→10≤k+i→Lw i acc (zj k n++r)=some (acc+n*128^i,r)
 |0,i,n,acc,r,hi,_,_,hk=>by omega
 |k+1,i,n,acc,r,hi,hn,h0,hk=>by
  have h9:i=9→n<2:=by
   intro e;subst e;have:(128:Nat)^9=9223372036854775808:=by decide
   rw[this]at hn;omega
  rw[zj];by_cases h1:n<128
  ·rw[if_pos h1];show Lw i acc (n ::r)=_;rw[Lw,if_neg (by
    rintro(⟨e,h⟩|⟨h,e⟩)
    ·have:=h9 e;omega
    ·omega),if_pos h1,Nat.mod_eq_of_lt h1]
  ·rw[if_neg h1];show Lw i acc ((128+n%128) ::(zj k (n / 128)++r))=_;have hi8:i≤8:=by
    by_cases e:i=9
    ·have:=h9 e;omega
    ·omega
   rw[Lw,if_neg (by omega),if_neg (by omega)];have Jc:n*128^i=n%128*128^i+n / 128*128^(i+1):=by rw[Nat.pow_succ,show n / 128*(128^i*128)=n / 128*128*128^i by rw[Nat.mul_comm (128^i) 128,Nat.mul_assoc],←Nat.add_mul];congr 1;omega
   rw[XA k (i+1) (n / 128) _ r (by omega) (by omega) (.inr (by omega)) (by omega)];have hm:(128+n%128)%128=n%128:=by omega
   rw[hm,Jc,Nat.add_assoc]
theorem SE:∀(bs:List Nat) (i acc m:Nat) (r:List Nat),i≤9→(∀b∈bs,b<256)→Lw i acc bs=some (m,r)→∃n,m=acc+n*128^i∧n*128^i<18446744073709551616∧(i=0∨0<n)∧∀k,10≤k+i→bs=zj k n++r
 | [],i,acc,m,r,_,_,h=>by simp[Lw]at h
 |b ::bs,i,acc,m,r,hi,hb,h=>by
  rw[Lw]at h;have hb0:=hb b (by simp);split at h
  ·cases h
  ·rename_i hc;split at h
   ·rename_i h1;simp only[bB,Prod.mk.injEq]at h;obtain⟨rfl,rfl⟩:=h;refine⟨b,by rw[Nat.mod_eq_of_lt h1],?_,by omega,fun k hk=>?_⟩
    ·by_cases e:i=9
     ·subst e;have:(128:Nat)^9=9223372036854775808:=by decide
      rw[this];omega
     ·have h8:=p8 (i:=i) (by omega);have:b*128^i<128^(i+1):=by rw[Nat.pow_succ,Nat.mul_comm (128^i) 128];exact Nat.mul_lt_mul_of_pos_right h1 (Nat.pow_pos (by omega))
      omega
    ·cases k with
     |zero=>simp[zj]
     |succ k=>simp[zj,h1]
   ·rename_i h1;have hi9:i≠9:=fun e=>hc (.inl ⟨e,by omega⟩);obtain⟨n',e1,e2,e3,e4⟩:=SE bs (i+1) _ m r (by omega) (fun x hx=>hb x (by simp[hx])) h;have Iz:0<n':=by omega
    have Jc:(b%128+128*n')*128^i=b%128*128^i+n'*128^(i+1):=by rw[Nat.pow_succ,Nat.add_mul,show 128*n'*128^i=n'*(128^i*128) by rw[Nat.mul_comm 128 n',Nat.mul_assoc,Nat.mul_comm 128 (128^i)]]
    refine⟨b%128+128*n',by rw[e1,Jc,Nat.add_assoc],?_,.inr (by omega),fun k hk=>?_⟩
    ·rw[Jc];have ajH:b%128*128^i<128^(i+1):=by rw[Nat.pow_succ,Nat.mul_comm (128^i) 128];exact Nat.mul_lt_mul_of_pos_right (Nat.mod_lt _ (by omega)) (Nat.pow_pos (by omega))
     have h8:=p8 (i:=i) (by omega);by_cases e:i+1=9
     ·have hp:(128:Nat)^(i+1)=9223372036854775808:=by rw[e]
      rw[hp]at e2 ajH ⊢;omega
     ·obtain⟨t,ht⟩:∃t,18446744073709551616=t*128^(i+1):=by
       have:i+1=1∨i+1=2∨i+1=3∨i+1=4∨i+1=5∨i+1=6∨i+1=7∨i+1=8:=by omega
       rcases this with h|h|h|h|h|h|h|h<;>rw[h]
       ·exact⟨2^57,by decide⟩
       ·exact⟨2^50,by decide⟩
       ·exact⟨2^43,by decide⟩
       ·exact⟨2^36,by decide⟩
       ·exact⟨2^29,by decide⟩
       ·exact⟨2^22,by decide⟩
       ·exact⟨2^15,by decide⟩
       ·exact⟨2^8,by decide⟩
      rw[ht]at e2 ⊢;have bF:n'<t:=Nat.lt_of_mul_lt_mul_right e2;have:(n'+1)*128^(i+1)≤t*128^(i+1):=Nat.mul_le_mul_right _ bF;rw[Nat.add_mul,Nat.one_mul]at this;omega
    ·cases k with
     |zero=>omega
     |succ k=>rw[zj,if_neg (by omega),show(b%128+128*n')%128=b%128 by omega,show(b%128+128*n') / 128=n' by omega,show 128+b%128=b by omega,e4 k (by omega)];rfl
theorem SG{n:Nat}(hn:n<18446744073709551616)(r:List Nat):M4 (vu n++r)=some (n,r):=by have:=XA 10 0 n 0 r (by omega) (by simpa using hn) (.inl rfl) (by omega);simpa[M4,vu]using this
theorem BC{bs r:List Nat}{m:Nat}(hb:∀b∈bs,b<256)(h:M4 bs=some (m,r)):m<18446744073709551616∧bs=vu m++r:=by
 obtain⟨n,h1,h2,_,h4⟩:=SE bs 0 0 m r (by omega) hb h;have e:m=n:=by simpa using h1
 subst e;exact⟨by simpa using h2,h4 10 (by omega)⟩
def bk(z:Nat):Int:=if z%2=1 then -((z / 2:Nat):Int)-1 else((z / 2:Nat):Int)
theorem aei(n:Int):bk (zz n)=n:=by
 unfold zz bk;by_cases h:n<0
 ·rw[if_pos h,if_pos (by omega)];omega
 ·rw[if_neg h,if_neg (by omega)];omega
theorem aej(z:Nat):zz (bk z)=z:=by
 unfold bk;by_cases h:z%2=1
 ·rw[if_pos h,zz,if_pos (by omega)];omega
 ·rw[if_neg h,zz,if_neg (by omega)];omega
theorem aek{z:Nat}(h:z<18446744073709551616):-9223372036854775808≤bk z∧bk z<9223372036854775808:=by unfold bk;split<;>omega
def sb:Nat→Nat→List Nat
 |0,_=>[]
 |n+1,c=>c%256 ::sb n (c / 256)
def ub:List Nat→Nat
 | []=>0
 |b ::l=>b+256*ub l
theorem v9:∀n c,(sb n c).length=n
 |0,_=>rfl
 |n+1,c=>by rw[sb,Ci,v9]
theorem XB:∀n c,c<256^n→ub (sb n c)=c
 |0,c,h=>by simp at h;subst h;rfl
 |n+1,c,h=>by rw[sb,ub,XB n (c / 256) (by rw[Nat.pow_succ]at h;omega)];omega
theorem XC:∀l:List Nat,(∀b∈l,b<256)→sb l.length (ub l)=l
 | [],_=>rfl
 |b ::l,h=>by have hb:=h b (by simp);have ih:=XC l fun x hx=>h x (by simp[hx]);show(b+256*ub l)%256 ::sb l.length ((b+256*ub l) / 256)=_;rw[show(b+256*ub l)%256=b by omega,show(b+256*ub l) / 256=ub l by omega,ih]
theorem XD:∀l:List Nat,(∀b∈l,b<256)→ub l<256^l.length
 | [],_=>by simp[ub]
 |b ::l,h=>by have hb:=h b (by simp);have ih:=XD l fun x hx=>h x (by simp[hx]);rw[ub,Ci,Nat.pow_succ];omega
theorem Mv(n:Nat):0<(vu n).length:=by unfold vu zj;split<;>simp
theorem eG(a:Nat)(h:a<18446744073709551616):aX .u64 (a:Int)=(a:Int):=by rw[y7];have e:(a:Int).emod 18446744073709551616=(a:Int)%18446744073709551616:=rfl;rw[e];omega
theorem E1:∀n c,bytesOf n c=an eY (sb n c)
 |0,_=>rfl
 |n+1,c=>by rw[sb,db,←E1 n (c / 256)];rfl
theorem ay{a b:Key}(h:a.toNat≠b.toNat):a≠b:=fun e=>h (by rw[e])
inductive Vt where
 |mk (k n:Int) (a b:Nat) (kids:List Vt)
mutual
def bT:Vt→List Nat
 |.mk k n a b l=>vu (zz k)++(if k=0 then vu (zz n)else if k=1 then [n.toNat]else if k=2 then vu (zz l.length)++bj l else vu a++sb a b++(vu (zz l.length)++bj l))
def bj:List Vt→List Nat
 | []=>[]
 |v ::l=>bT v++bj l
end
mutual
def bV:Vt→Nat
 |.mk _ _ _ _ l=>bS l+1
def bS:List Vt→Nat
 | []=>0
 |v ::l=>bV v+bS l
end
def Aj(c:Nat):Bool:=decide (97≤c)&&decide (c≤122)||decide (65≤c)&&decide (c≤90)||decide (48≤c)&&decide (c≤57)||decide (c=95)
def qo(a b:Nat):Bool:=decide (0<a)&&decide (a≤16)&&(decide (65≤b%256)&&decide (b%256≤90))&&(sb a b).all Aj
def iT(k n:Int)(a b m:Nat):Bool:=if k=0 then decide (a=0)&&decide (m=0)else if k=1 then(decide (n=0)||decide (n=1))&&decide (a=0)&&decide (m=0)else if k=2 then decide (n=0)&&decide (a=0)else if k=3 then decide (n=0)&&qo a b else false
def CP(k:Int)(m:Nat):Bool:=decide (m≤256)&&(!decide (k=3)||decide (m≤16))
mutual
def ku:Vt→Bool
 |.mk k n a b l=>iT k n a b l.length&&fH l
def fH:List Vt→Bool
 | []=>true
 |v ::l=>ku v&&fH l
end
mutual
def wc:Vt→Bool
 |.mk k _ _ _ l=>CP k l.length&&kY l
def kY:List Vt→Bool
 | []=>true
 |v ::l=>wc v&&kY l
end
def Io(v:Vt):Int:=if ku v=true then(if wc v=true∧bV v≤1024 then 0 else 4)else 1
mutual
def DN:Vt→Prop
 |.mk k n a b l=>eB k∧eB n∧a<18446744073709551616∧b<256^a∧II l
def II:List Vt→Prop
 | []=>True
 |v ::l=>DN v∧II l
end
abbrev fE:=Option (List Nat)
def rI:fE→Int×fE
 |none=>(0,none)
 |some bs=>match M4 bs with
  |none=>(0,none)
  |some (z,r)=>(bk z,some r)
def rB:fE→Bool×fE
 |none=>(false,none)
 |some []=>(false,none)
 |some (b ::r)=>if 1<b then(false,none)else(decide (b=1),some r)
def rR:fE→List Nat×fE
 |none=>([],none)
 |some bs=>match M4 bs with
  |none=>([],none)
  |some (n,r)=>if n≤r.length then(r.take n,some (r.drop n))else([],none)
def nf(g:Nat→fE→Option (Vt×Nat×fE)):Nat→Nat→fE→Option (List Vt×Nat×fE)
 |0,p,s=>some ([],p,s)
 |m+1,p,s=>match g p s with
  |none=>none
  |some (v,p,s)=>match nf g m p s with
   |none=>none
   |some (l,p,s)=>some (v ::l,p,s)
def OY(g:Nat→fE→Option (Vt×Nat×fE))(p:Nat)(s:fE):Option (List Vt×Nat×fE):=if (rI s).1<0∨256<(rI s).1 then none else nf g (rI s).1.toNat p (rI s).2
def OX(k:Int)(a b:Nat):Option (List Vt×Nat×fE)→Option (Vt×Nat×fE)
 |none=>none
 |some (l,p,s)=>some (.mk k 0 a b l,p,s)
def vR:Nat→Nat→fE→Option (Vt×Nat×fE)
 |0,_,_=>none
 |f+1,p,s=>if 1024≤p then none
  else if (rI s).1=0 then some (.mk 0 (rI (rI s).2).1 0 0 [],p+1,(rI (rI s).2).2)
  else if (rI s).1=1 then some (.mk 1 (if (rB (rI s).2).1=true then 1 else 0) 0 0 [],p+1,(rB (rI s).2).2)
  else if (rI s).1=2 then OX 2 0 0 (OY (vR f) (p+1) (rI s).2)
  else if (rI s).1=3 then OX 3 (rR (rI s).2).1.length (ub (rR (rI s).2).1) (OY (vR f) (p+1) (rR (rI s).2).2)
  else none
theorem SH{f p:Nat}{v:Vt}{p':Nat}{s:fE}(h:vR f p none=some (v,p',s)):s=none:=by
 cases f with
 |zero=>cases h
 |succ f=>
  rw[vR]at h;split at h
  ·cases h
  ·have h:some (Vt.mk 0 0 0 0 [],p+1,(none:fE))=some (v,p',s):=h;simp only[bB,Prod.mk.injEq]at h;exact h.2.2.symm
theorem CX{f:Nat}:∀{m p:Nat} {l:List Vt} {p':Nat} {s:fE},nf (vR f) m p none=some (l,p',s)→s=none
 |0,p,l,p',s,h=>by simp only[nf,bB,Prod.mk.injEq]at h;exact h.2.2.symm
 |m+1,p,l,p',s,h=>by
  rw[nf]at h;split at h
  ·cases h
  ·rename_i v q t e;cases SH e;split at h
   ·cases h
   ·rename_i l' q' t' e';simp only[bB,Prod.mk.injEq]at h;rw[←h.2.2];exact CX e'
theorem FR{n:Int}(h:eB n)(r:List Nat):rI (some (vu (zz n)++r))=(n,some r):=by unfold rI;simp only;rw[SG (BH h.1 h.2)];simp only[aei]
theorem FU{bs r:List Nat}{x:Int}(hb:∀b∈bs,b<256)(h:rI (some bs)=(x,some r)):eB x∧bs=vu (zz x)++r∧∀b∈r,b<256:=by
 unfold rI at h;simp only at h;split at h
 ·simp at h
 ·rename_i z r' e;simp only[Prod.mk.injEq,bB]at h;obtain⟨rfl,rfl⟩:=h;obtain⟨h1,h2⟩:=BC hb e;exact⟨aek h1,by rw[aej];exact h2,fun b hm=>hb b (by rw[h2];simp[hm])⟩
theorem Qg{bs r:List Nat}{x:Bool}(h:rB (some bs)=(x,some r)):bs=(if x=true then 1 else 0) ::r:=by
 cases bs with
 |nil=>simp[rB]at h
 |cons b t=>
  simp only[rB]at h;split at h
  ·simp at h
  ·rename_i hb;simp only[Prod.mk.injEq,bB]at h;obtain⟨rfl,rfl⟩:=h;have:b=0∨b=1:=by omega
   rcases this with rfl|rfl<;>simp
theorem SJ{bs r t:List Nat}(hb:∀b∈bs,b<256)(h:rR (some bs)=(t,some r)):t.length<18446744073709551616∧(∀b∈t,b<256)∧bs=vu t.length++t++r∧∀b∈r,b<256:=by
 unfold rR at h;simp only at h;split at h
 ·simp at h
 ·rename_i n r' e;obtain⟨h1,h2⟩:=BC hb e;split at h
  ·rename_i hle;simp only[Prod.mk.injEq,bB]at h;obtain⟨rfl,rfl⟩:=h;have hl:(r'.take n).length=n:=by rw[LF];omega
   have hr:∀b∈r',b<256:=fun b hm=>hb b (by rw[h2];simp[hm]);rw[hl];exact⟨h1,fun b hm=>hr b (List.mem_of_mem_take hm),by rw[List.append_assoc,List.take_append_drop];exact h2,fun b hm=>hr b (List.mem_of_mem_drop hm)⟩
  ·simp at h
theorem MD{t:List Nat}(hl:t.length<18446744073709551616)(r:List Nat):rR (some (vu t.length++t++r))=(t,some r):=by unfold rR;simp only;rw[List.append_assoc,SG hl];simp only;rw[if_pos (by rw[fO];omega)];simp
mutual
theorem NZ:∀(v:Vt) (f p:Nat) (r:List Nat),DN v→ku v=true→wc v=true→p+bV v≤1024→1025≤f+p→vR f p (some (bT v++r))=some (v,p+bV v,some r)
 |.mk k n a b l,0,p,r,hi,hf,hw,hs,h=>by simp only[bV]at hs;omega
 |.mk k n a b l,f+1,p,r,hi,hf,hw,hs,h=>by
  obtain⟨hk,hn,ha,hb,hl⟩:=hi;simp only[ku,wc,fa]at hf hw;simp only[bV]at hs;obtain⟨hf,sE⟩:=hf;obtain⟨hw,hwl⟩:=hw;have hlen:l.length≤256:=by unfold CP at hw;simp only[fa,decide_eq_true_eq]at hw;exact hw.1
  have e:rI (some (bT (.mk k n a b l)++r))=(k,some ((if k=0 then vu (zz n)else if k=1 then [n.toNat]else if k=2 then vu (zz l.length)++bj l else vu a++sb a b++(vu (zz l.length)++bj l))++r)):=by rw[bT,List.append_assoc];exact FR hk _
  have kk:∀x,OY (vR f) (p+1) (some (vu (zz l.length)++bj l++x))=some (l,p+1+bS l,some x):=by
   intro x;have e2:rI (some (vu (zz l.length)++bj l++x))=((l.length:Int),some (bj l++x)):=by rw[List.append_assoc];exact FR ⟨by omega,by omega⟩ _
   unfold OY;rw[e2];simp only;rw[if_neg (by omega),Int.toNat_natCast];exact K3 l f (p+1) x hl sE hwl (by omega) (by omega)
  rw[vR,if_neg (by omega),e];simp only[bV];unfold iT at hf;by_cases k0:k=0
  ·subst k0;simp only[if_true,fa,decide_eq_true_eq]at hf;obtain⟨rfl,hl0⟩:=hf;obtain rfl:=H8 hl0;have:b=0:=by simpa using hb
   subst this;simp only[if_true];rw[FR hn];simp[bS]
  ·rw[if_neg k0]at hf ⊢;rw[if_neg k0];by_cases k1:k=1
   ·subst k1;simp only[if_true,fa,Bool.or_eq_true,decide_eq_true_eq]at hf;obtain⟨⟨aec,rfl⟩,hl0⟩:=hf;obtain rfl:=H8 hl0;have:b=0:=by simpa using hb
    subst this;rcases aec with rfl|rfl<;>simp[rB,bS]
   ·rw[if_neg k1]at hf ⊢;rw[if_neg k1];by_cases k2:k=2
    ·subst k2;simp only[if_true,fa,decide_eq_true_eq]at hf;obtain⟨rfl,rfl⟩:=hf;have:b=0:=by simpa using hb
     subst this;simp only[if_true];rw[kk r];simp[OX];omega
    ·rw[if_neg k2]at hf ⊢;rw[if_neg k2];by_cases k3:k=3
     ·subst k3;simp only[if_true,fa,decide_eq_true_eq]at hf;obtain⟨rfl,hc⟩:=hf;simp only[if_true];have Te:=v9 a b;have e3:rR (some (vu a++sb a b++(vu (zz l.length)++bj l)++r))=(sb a b,some (vu (zz l.length)++bj l++r)):=by rw[List.append_assoc];have:=MD (t:=sb a b) (by rw[Te];exact ha) (vu (zz l.length)++bj l++r);rw[Te]at this;exact this
      rw[e3];simp only;rw[kk r,Te,XB _ _ hb];simp[OX];omega
     ·rw[if_neg k3]at hf;cases hf
theorem K3:∀(l:List Vt) (f p:Nat) (r:List Nat),II l→fH l=true→kY l=true→p+bS l≤1024→1025≤f+p→nf (vR f) l.length p (some (bj l++r))=some (l,p+bS l,some r)
 | [],f,p,r,_,_,_,_,_=>by simp[nf,bj,bS]
 |v ::l,f,p,r,hi,hf,hw,hs,h=>by simp only[fH,kY,fa,bS]at hf hw hs;rw[Ci,nf,bj,List.append_assoc,NZ v f p _ hi.1 hf.1 hw.1 (by omega) h];simp only;rw[K3 l f (p+bV v) r hi.2 hf.2 hw.2 (by omega) (by omega)];simp only[bS];rw[Nat.add_assoc]
end
theorem K4{f:Nat}(ih:∀(p:Nat) (bs:List Nat) (v:Vt) (p':Nat) (r:List Nat),(∀b∈bs,b<256)→vR f p (some bs)=some (v,p',some r)→bs=bT v++r∧DN v∧∀b∈r,b<256):∀(m p:Nat) (bs:List Nat) (l:List Vt) (p':Nat) (r:List Nat),(∀b∈bs,b<256)→nf (vR f) m p (some bs)=some (l,p',some r)→l.length=m∧bs=bj l++r∧II l∧∀b∈r,b<256
 |0,p,bs,l,p',r,hb,h=>by simp only[nf,bB,Prod.mk.injEq]at h;obtain⟨rfl,_,rfl⟩:=h;exact⟨rfl,by simp[bj],trivial,hb⟩
 |m+1,p,bs,l,p',r,hb,h=>by
  rw[nf]at h;split at h
  ·cases h
  ·rename_i v q t e;split at h
   ·cases h
   ·rename_i l' q' t' e';simp only[bB,Prod.mk.injEq]at h;obtain⟨rfl,rfl,rfl⟩:=h;cases t with
    |none=>cases CX e'
    |some t=>obtain⟨h1,h2,h3⟩:=ih _ _ _ _ _ hb e;obtain⟨k1,k2,k3,k4⟩:=K4 ih m _ _ _ _ _ h3 e';exact⟨by rw[Ci,k1],by rw[bj,List.append_assoc,←k2,←h1],⟨h2,k3⟩,k4⟩
theorem N0{f:Nat}(ih:∀(p:Nat) (bs:List Nat) (v:Vt) (p':Nat) (r:List Nat),(∀b∈bs,b<256)→vR f p (some bs)=some (v,p',some r)→bs=bT v++r∧DN v∧∀b∈r,b<256){k:Int}{a b p:Nat}{bs:List Nat}{v:Vt}{p':Nat}{r:List Nat}(hb:∀b∈bs,b<256)(h:OX k a b (OY (vR f) p (some bs))=some (v,p',some r)):∃l,v=.mk k 0 a b l∧bs=vu (zz l.length)++bj l++r∧II l∧∀b∈r,b<256:=by
 unfold OY at h;split at h
 ·cases h
 ·rename_i hc;cases hI:rI (some bs)with
  |mk x t=>
   rw[hI]at h hc;simp only at h hc;cases t with
   |none=>
    cases hR:nf (vR f) x.toNat p none with
    |none=>rw[hR]at h;cases h
    |some w=>obtain⟨l,q,s⟩:=w;rw[hR]at h;simp only[OX,bB,Prod.mk.injEq]at h;obtain⟨_,_,rfl⟩:=h;cases CX hR
   |some t=>
    obtain⟨h1,h2,h3⟩:=FU hb hI;cases hR:nf (vR f) x.toNat p (some t)with
    |none=>rw[hR]at h;cases h
    |some w=>
     obtain⟨l,q,s⟩:=w;rw[hR]at h;simp only[OX,bB,Prod.mk.injEq]at h;obtain⟨rfl,rfl,rfl⟩:=h;obtain⟨k1,k2,k3,k4⟩:=K4 ih _ _ _ _ _ _ h3 hR;have hx:((l.length:Nat):Int)=x:=by omega
     exact⟨l,rfl,by rw[hx,List.append_assoc,←k2,←h2],k3,k4⟩
theorem Iu:∀(f p:Nat) (bs:List Nat) (v:Vt) (p':Nat) (r:List Nat),(∀b∈bs,b<256)→vR f p (some bs)=some (v,p',some r)→bs=bT v++r∧DN v∧∀b∈r,b<256
 |0,_,_,_,_,_,_,h=>by cases h
 |f+1,p,bs,v,p',r,hb,h=>by
  have ih:=Iu f;rw[vR]at h;split at h
  ·cases h
  ·cases hI:rI (some bs)with
   |mk x t=>
    rw[hI]at h;simp only at h;cases t with
    |none=>
     have hx:x=0:=by
      unfold rI at hI;simp only at hI;split at hI
      ·simp at hI;exact hI.symm
      ·simp at hI
     rw[if_pos hx]at h;simp[rI]at h
    |some t=>
     obtain⟨h1,h2,h3⟩:=FU hb hI;split at h
     ·rename_i k0;subst k0;simp only[bB,Prod.mk.injEq]at h;obtain⟨rfl,_,h⟩:=h;have hJ:rI (some t)=((rI (some t)).1,some r):=by rw[←h]
      obtain⟨j1,j2,j3⟩:=FU h3 hJ;exact⟨by rw[bT];simp only[if_true];rw[List.append_assoc,←j2,←h2],⟨h1,j1,by omega,by simp,trivial⟩,j3⟩
     ·rename_i k0;split at h
      ·rename_i k1;subst k1;simp only[bB,Prod.mk.injEq]at h;obtain⟨rfl,_,h⟩:=h;have hJ:rB (some t)=((rB (some t)).1,some r):=by rw[←h]
       have j2:=Qg hJ;have hr:∀b∈r,b<256:=fun b hm=>h3 b (by rw[j2];simp[hm]);refine⟨?_,⟨h1,?_,by omega,by simp,trivial⟩,hr⟩
       ·rw[bT,if_neg k0];simp only[if_true];rw[List.append_assoc,h2];congr 1;rw[j2];cases (rB (some t)).1<;>rfl
       ·cases (rB (some t)).1<;>exact⟨by decide,by decide⟩
      ·rename_i k1;split at h
       ·rename_i k2;subst k2;obtain⟨l,rfl,e,hl,hr⟩:=N0 ih h3 h;exact⟨by rw[bT,if_neg k0,if_neg k1];simp only[if_true];rw[List.append_assoc,←e,←h2],⟨h1,⟨by omega,by omega⟩,by omega,by simp,hl⟩,hr⟩
       ·rename_i k2;split at h
        ·rename_i k3;subst k3;cases hJ:rR (some t)with
         |mk w u=>
          rw[hJ]at h;simp only at h;cases u with
          |none=>exfalso;unfold OY at h;simp only[rI]at h;simp[OX,nf]at h
          |some u=>obtain⟨j1,j2,j3,j4⟩:=SJ h3 hJ;obtain⟨l,rfl,e,hl,hr⟩:=N0 ih j4 h;have hsb:=XC w j2;have hub:=XD w j2;refine⟨?_,⟨h1,⟨by omega,by omega⟩,j1,hub,hl⟩,hr⟩;rw[bT,if_neg k0,if_neg k1,if_neg k2,hsb,h2,j3,e];simp only[List.append_assoc]
        ·cases h
def vX(bs:List Nat):Option Vt:=match vR 1025 0 (some bs)with
 |some (v,_,some [])=>if Io v=0 then some v else none
 |_=>none
theorem sx{v:Vt}:Io v=0↔ku v=true∧wc v=true∧bV v≤1024:=by
 unfold Io;split
 ·split
  ·exact⟨fun _=>⟨‹_›,‹_›⟩,fun _=>rfl⟩
  ·exact⟨fun h=>absurd h (by decide),fun h=>absurd h.2 ‹_›⟩
 ·exact⟨fun h=>absurd h (by decide),fun h=>absurd h.1 ‹_›⟩
theorem SK{v:Vt}(hi:DN v)(h:Io v=0):vX (bT v)=some v:=by obtain⟨h1,h2,h3⟩:=sx.1 h;have e:=NZ v 1025 0 [] hi h1 h2 (by omega) (by omega);rw[List.append_nil]at e;unfold vX;rw[e];simp only;rw[if_pos h]
theorem SM{bs:List Nat}{v:Vt}(hb:∀b∈bs,b<256)(h:vX bs=some v):Io v=0∧DN v∧bT v=bs:=by
 unfold vX at h;split at h
 ·rename_i v' p e;split at h
  ·rename_i hk;cases h;obtain⟨h1,h2,_⟩:=Iu _ _ _ _ _ _ hb e;exact⟨hk,h2,by rw[h1,List.append_nil]⟩
  ·cases h
 ·cases h
abbrev Cv:=Int×Vt
def fR(c:Cv):List Nat:=vu (zz c.1)++(vu (bT c.2).length++bT c.2)
def mT(l:List Cv):List Nat:=vu (zz l.length)++l.flatMap fR
def Hn:Nat→fE→Option (List Cv×fE)
 |0,s=>some ([],s)
 |m+1,s=>match vX (rR (rI s).2).1 with
  |none=>none
  |some v=>match Hn m (rR (rI s).2).2 with
   |none=>none
   |some (l,s')=>some (((rI s).1,v) ::l,s')
def CV(bs:List Nat):Option (List Cv):=if (rI (some bs)).1<0∨(bs.length:Int)<(rI (some bs)).1 then none else match Hn (rI (some bs)).1.toNat (rI (some bs)).2 with
 |some (l,some [])=>some l
 |_=>none
theorem K5:vX []=none:=rfl
theorem K6:∀{m:Nat} {l:List Cv} {s:fE},Hn m none=some (l,s)→s=none
 |0,l,s,h=>by simp only[Hn,bB,Prod.mk.injEq]at h;exact h.2.symm
 |m+1,l,s,h=>by have:vX (rR (rI none).2).1=none:=K5;rw[Hn,this]at h;cases h
theorem N1:∀(l:List Cv) (r:List Nat),(∀c∈l,eB c.1∧DN c.2∧Io c.2=0∧(bT c.2).length<18446744073709551616)→Hn l.length (some (l.flatMap fR++r))=some (l,some r)
 | [],r,_=>rfl
 |c ::l,r,h=>by
  obtain⟨h1,h2,h3,h4⟩:=h c (by simp);have e1:rI (some ((c ::l).flatMap fR++r))=(c.1,some (vu (bT c.2).length++bT c.2++(l.flatMap fR++r))):=by rw[List.flatMap_cons,fR,List.append_assoc,List.append_assoc];exact FR h1 _
  have e2:rR (some (vu (bT c.2).length++bT c.2++(l.flatMap fR++r)))=(bT c.2,some (l.flatMap fR++r)):=MD h4 _;rw[Ci,Hn,e1];simp only;rw[e2];simp only;rw[SK h2 h3];simp only;rw[N1 l r fun x hx=>h x (by simp[hx])]
theorem yd:∀l:List Cv,l.length≤(l.flatMap fR).length
 | []=>by simp
 |c ::l=>by have h1:=yd l;have h2:=Mv (zz c.1);rw[List.flatMap_cons,fO,Ci,fR,fO];omega
theorem SA{l:List Cv}(hl:l.length<9223372036854775808)(h:∀c∈l,eB c.1∧DN c.2∧Io c.2=0∧(bT c.2).length<18446744073709551616):CV (mT l)=some l:=by have e:rI (some (mT l))=((l.length:Int),some (l.flatMap fR)):=FR ⟨by omega,by omega⟩ _;have hlen:=yd l;have e2:=N1 l [] h;rw[List.append_nil]at e2;unfold CV;rw[e];simp only;rw[if_neg (by unfold mT;rw[fO];omega),Int.toNat_natCast,e2]
theorem N2:∀(m:Nat) (bs:List Nat) (l:List Cv) (r:List Nat),(∀b∈bs,b<256)→Hn m (some bs)=some (l,some r)→l.length=m∧bs=l.flatMap fR++r∧∀c∈l,eB c.1∧DN c.2∧Io c.2=0
 |0,bs,l,r,_,h=>by simp only[Hn,bB,Prod.mk.injEq]at h;obtain⟨rfl,rfl⟩:=h;exact⟨rfl,by simp,by simp⟩
 |m+1,bs,l,r,hb,h=>by
  rw[Hn]at h;split at h
  ·cases h
  ·rename_i v hv;split at h
   ·cases h
   ·rename_i l' s' hC;simp only[bB,Prod.mk.injEq]at h;obtain⟨rfl,rfl⟩:=h;cases hI:rI (some bs)with
    |mk x t=>
     rw[hI]at hv hC;simp only at hv hC;cases t with
     |none=>have:vX (rR none).1=none:=K5;rw[this]at hv;cases hv
     |some t=>
      obtain⟨i1,i2,i3⟩:=FU hb hI;cases hJ:rR (some t)with
      |mk w u=>
       rw[hJ]at hv hC;simp only at hv hC;cases u with
       |none=>cases K6 hC
       |some u=>
        obtain⟨j1,j2,j3,j4⟩:=SJ i3 hJ;obtain⟨d1,d2,d3⟩:=SM j2 hv;obtain⟨k1,k2,k3⟩:=N2 m u l' r j4 hC;refine⟨by rw[Ci,k1],?_,fun c hc=>?_⟩
        ·rw[List.flatMap_cons,fR];simp only[hI,d3];rw[i2,j3,k2];simp only[List.append_assoc]
        ·rcases zk.1 hc with rfl|hc
         ·simp only[hI];exact⟨i1,d2,d1⟩
         ·exact k3 c hc
theorem Sw{bs:List Nat}{l:List Cv}(hb:∀b∈bs,b<256)(h:CV bs=some l):mT l=bs∧∀c∈l,eB c.1∧DN c.2∧Io c.2=0:=by
 unfold CV at h;split at h
 ·cases h
 ·rename_i hc;cases hI:rI (some bs)with
  |mk x t=>
   rw[hI]at h hc;simp only at h hc;split at h
   ·rename_i l' hC;cases h;cases t with
    |none=>cases K6 hC
    |some t=>
     obtain⟨i1,i2,i3⟩:=FU hb hI;obtain⟨k1,k2,k3⟩:=N2 _ _ _ _ i3 hC;refine⟨?_,k3⟩;have hx:((l.length:Nat):Int)=x:=by omega
     unfold mT;rw[hx,i2,k2,List.append_nil]
   ·cases h
def JS(c:AV)(bs:List Nat)(h:T ab)(nx:Key):Prop:=(c=.nils∧bs=[])∨(∃fl,c=.sl (an eY bs) bs.length 1 fl)∨∃(b:Key) (k:CK),c=.slice b 0 bs.length 1∧ae b h=some (.cells (an eY bs) k)∧b.toNat<nx.toNat
theorem JS.of{c:AV}{bs:List Nat}{h:T ab}{nx:Key}(hc:py 1 eY c bs):JS c bs h nx:=by
 rcases hc with h1|h1
 ·exact .inl h1
 ·exact .inr (.inl ⟨_,h1⟩)
theorem JS.ext{c:AV}{bs:List Nat}{h h':T ab}{nx nx':Key}(hc:JS c bs h nx)(e:Ext h nx h' nx'):JS c bs h' nx':=by
 rcases hc with h1|h1|⟨b,k,h1,h2,h3⟩
 ·exact .inl h1
 ·exact .inr (.inl h1)
 ·exact .inr (.inr ⟨b,k,h1,by rw[e.g b h3];exact h2,by have:=e.n;omega⟩)
theorem Qp{l:List Nat}{j:Nat}(hj:j<l.length):List.take 1 (List.drop j (an eY l))=[.int .u8 (.lit (l[j]:Int))]:=by have:=bE.at hj;rw[Nat.mul_one]at this;exact this
theorem X5{l:List Nat}{j:Nat}(hj:j<l.length):(an eY l)[j]?=some (.int .u8 (.lit (l[j]:Int))):=by
 have h0:(List.take 1 (List.drop j (an eY l)))[0]?=some (.int .u8 (.lit (l[j]:Int))):=by rw[Qp hj];rfl
 rw[List.getElem?_take_of_lt (by omega),List.getElem?_drop,Nat.add_zero]at h0;exact h0
def RS(r:Key)(rest:List Nat)(e:Int)(h:T ab)(nx n0:Key):Prop:=n0.toNat≤r.toNat∧r.toNat<nx.toNat∧∃(b:Key) (off:Nat) (all:List Nat) (k:CK),ae r h=some (.cells [.slice b off rest.length 1,I e] .fix)∧ae b h=some (.cells (an eY all) k)∧k≠.ro∧all.drop off=rest∧off≤all.length∧n0.toNat≤b.toNat∧b.toNat<nx.toNat∧b.toNat<r.toNat
variable{C:cX}
theorem Is(S:Fn C dM y8){c:AV}{l:List Nat}{h:T ab}{nx:Key}(hc:JS c l h nx)(hl:l.length≤1000000) :
  ax C dM [c] h nx (fun o h' nx'=>∃r:Key,o=.ret (.ptr r 0)∧RS r l 0 h' nx' nx∧Ext h nx h' nx'):=by
 have s1:=kTSu nx;have s2:=kTSu nx.succ;have s3:=kTSu nx.succ.succ;refine S.call ?_;simp[y8];simp[BJ];have X6:∀H:T ab,ae nx H=some (.cells [] .fix)→(∀b:Key,b.toNat<nx.toNat→ae b H=ae b h)→RS nx.succ [] 0 (ar nx.succ (some (.cells [.slice nx 0 0 1,I 0] .fix)) H) nx.succ.succ nx∧Ext h nx (ar nx.succ (some (.cells [.slice nx 0 0 1,I 0] .fix)) H) nx.succ.succ:=by intro H h1 h2;refine⟨⟨by omega,by omega,nx,0,[],.fix,by rw[gTSm];rfl,by rw[al (by omega)];exact h1,by simp,rfl,cI _,cI _,by omega,by omega⟩,by omega,fun b hb=>by rw[al (by omega)];exact h2 b hb⟩
 have aci:∀H:T ab,(∀b:Key,b.toNat<nx.toNat→ae b H=ae b h)→RS nx.succ.succ l 0 (ar nx.succ.succ (some (.cells [.slice nx.succ 0 l.length 1,I 0] .fix)) (ar nx.succ (some (.cells (an eY l) .part)) H)) nx.succ.succ.succ nx∧Ext h nx (ar nx.succ.succ (some (.cells [.slice nx.succ 0 l.length 1,I 0] .fix)) (ar nx.succ (some (.cells (an eY l) .part)) H)) nx.succ.succ.succ:=by intro H h2;refine⟨⟨by omega,by omega,nx.succ,0,l,.part,by rw[gTSm],by rw[al (by omega),gTSm],by simp,rfl,Nat.zero_le _,by omega,by omega,by omega⟩,by omega,fun b hb=>by rw[al (by omega),al (by omega)];exact h2 b hb⟩
 have hr:=bE.rows l;have qq:=bE.EH l;by_cases hm:l=[]
 ·subst hm;rcases hc with⟨rfl,_⟩|⟨fl,rfl⟩|⟨b,k,rfl,hb,Wd⟩
  ·simp[iX];exact X6 _ (by rw[gTSm]) (fun b hb=>by rw[al hb])
  ·simp[iX];exact X6 _ (by rw[gTSm]) (fun b hb=>by rw[al hb])
  ·have GC:ae b (ar nx (some (.cells [] .fix)) h)=some (.cells [] k):=by rw[al Wd];exact hb
   simp[iX,GC];exact X6 _ (by rw[gTSm]) (fun b hb=>by rw[al hb])
 ·have yf:¬l.length=0:=fun e=>hm (H8 e);have vS:l.length≤1048576:=by omega
  rcases hc with⟨_,e⟩|⟨fl,rfl⟩|⟨b,k,rfl,hb,Wd⟩
  ·exact absurd e hm
  ·simp[iX,qq,yf,hm,vS];exact aci _ (fun b hb=>by rw[al hb])
  ·have GC:ae b (ar nx (some (.cells [] .fix)) h)=some (.cells (an eY l) k):=by rw[al Wd];exact hb
   have hz:∀H,aO (aK 9999) (an eY l) H=(an eY l,H):=fun H=>aG (bE.H9 l);have hle:l.length≤(an eY l).length:=by omega
   have Ju:List.take l.length (an eY l)=an eY l:=Hf (by omega);simp[iX,GC,hz,hle,Ju,qq,yf,hm,vS];exact aci _ (fun b hb=>by rw[al hb])
def Kr(r:Key)(h:T ab)(nx n0:Key)(h':T ab)(nx':Key):Prop:=nx.toNat≤nx'.toNat∧∀b:Key,b.toNat<nx.toNat→b≠r→ae b h'=ae b h
theorem BK(S:Fn C az cB){r:Key}{rest:List Nat}{e:Int}{h:T ab}{nx n0:Key}(R:RS r rest e h nx n0)(x:Int) :
  ax C az [.ptr r 0,I x] h nx (fun o h' nx'=>o=.ret (.tuple [])∧RS r rest (if e=0 then x else e) h' nx' n0∧Kr r h nx n0 h' nx'):=by
 obtain⟨r1,r2,b,off,all,k,a1,a2,a3,a4,a5,a6,a7,a9⟩:=R;have a8:b≠r:=ay (by omega);refine S.call ?_;simp[cB];simp[pG,a1];refine⟨fun he=>?_,fun he=>?_⟩
 ·simp[pH,a1];refine⟨rfl,⟨r1,r2,b,off,all,k,by rw[gTSm,if_pos he],by rw[bQ _ _ _ _ a8];exact a2,a3,a4,a5,a6,a7,a9⟩,cI _,fun q _ hq=>bQ _ _ _ _ hq⟩
 ·refine⟨rfl,⟨r1,r2,b,off,all,k,by rw[if_neg he];exact a1,a2,a3,a4,a5,a6,a7,a9⟩,cI _,fun _ _ _=>rfl⟩
theorem It(S:Fn C bY ke){r:Key}{rest:List Nat}{e:Int}{h:T ab}{nx n0:Key}(R:RS r rest e h nx n0) :
  ax C bY [.ptr r 0] h nx (fun o h' nx'=>o=.ret (I (if e=0 then if rest=[]then 0 else 2 else e))∧h'=h∧nx'=nx):=by
 obtain⟨r1,r2,b,off,all,k,a1,a2,a3,a4,a5,a6,a7,a9⟩:=R;have a8:b≠r:=ay (by omega);refine S.call ?_;simp[ke];simp[qQ];by_cases he:e=0
 ·subst he;simp[kv,a1];by_cases hr:rest=[]
  ·subst hr;simp[kx,a1];simp[qS]
  ·have hp:0<rest.length:=List.length_pos_iff.2 hr;simp[kx,a1,hp,hr];simp[qU]
 ·simp[kv,a1,he];simp[qX,a1]
theorem Ud{b:Nat}(hb:b<256):arith .and .u8 (.lit (b:Int)) (.lit 127)=some (.lit ((b%128:Nat):Int)):=by
 have key:∀x:Fin 256,aX .u8 (.ofNat (Nat.land (GG .u8 ((x.val:Nat):Int)) (GG .u8 127)))=((x.val%128:Nat):Int):=by decide +kernel
 have e:=key ⟨b,hb⟩;have e2:arith .and .u8 (.lit (b:Int)) (.lit 127)=some (.lit (aX .u8 (.ofNat (Nat.land (GG .u8 (b:Int)) (GG .u8 127))))):=rfl;rw[e2,e]
theorem Ue(i:Nat):2^(7*i)=128^i:=by rw[Nat.pow_mul]
theorem acj{n x i:Nat}(hn:n<128^i)(hs:n+x*128^i<18446744073709551616):Int.emod (.ofNat (Nat.lor n (x*128^i))) 18446744073709551616=((n+x*128^i:Nat):Int):=by
 have e:Nat.lor n (x*128^i)=n+x*128^i:=by have h:=Nat.two_pow_add_eq_or_of_lt (i:=7*i) (b:=n) (by rw[Ue];exact hn) x;rw[Ue,Nat.mul_comm]at h;show n ||| x*128^i=_;rw[Nat.or_comm,←h,Nat.add_comm]
 rw[e];show((n+x*128^i:Nat):Int)%18446744073709551616=_;omega
theorem ack(orc:dP){k k':Key}{u s:Nat}{tm:T AV}{h:T ab}(hs:s≤63)(hk:ae k tm=some (.int .u64 (.lit (u:Int))))(vO:ae k' tm=some (.int .i64 (.lit (s:Int))))(hu:u*2^s<18446744073709551616):lightOp orc (.bin .shl (.t k) (.t k')) tm h=some (.int .u64 (.lit ((u*2^s:Nat):Int))):=by
 simp only[lightOp,at_t,hk,vO];have h1:JR .u64 s=true:=by unfold JR;exact Nat.ble_eq_true_of_le (by omega)
 show(bif JR .u64 s then some (AV.int .u64 (.lit (aX .u64 (Int.mul (u:Int) (.ofNat (Nat.pow 2 s))))))else none)=_;rw[h1];have e:Int.mul (u:Int) (.ofNat (Nat.pow 2 s))=((u*2^s:Nat):Int):=rfl;rw[e,eG _ hu];rfl
theorem af5(orc:dP){k k':Key}{a b:Nat}{tm:T AV}{h:T ab}(hk:ae k tm=some (.int .u64 (.lit (a:Int))))(vO:ae k' tm=some (.int .u64 (.lit (b:Int)))):lightOp orc (.bin .or (.t k) (.t k')) tm h=some (.int .u64 (.lit (Int.emod (.ofNat (Nat.lor a b)) 18446744073709551616))):=by simp only[lightOp,at_t,hk,vO];rfl
theorem ofB:∀l:List Nat,(∀b∈l,b<256)→ofBytes (an eY l)=some (l.length,ub l)
 | [],_=>rfl
 |b ::l,h=>by
  have hb:=h b (by simp);have ih:=ofB l fun x hx=>h x (by simp[hx]);rw[db];show(match ofBytes (an eY l)with
   |some (n,c)=>bif Nat.blt b 256 then some (n+1,b+256*c)else none
   |none=>none)=_
  rw[ih];have:Nat.blt b 256=true:=by simpa[Nat.blt_eq]using hb
  simp only[this];rfl
def uO:Option (List Nat)→Option (Nat×List Nat)
 |none=>none
 |some bs=>M4 bs
def uV:Option (Nat×List Nat)→Nat
 |some (n,_)=>n
 |none=>0
def RO(r:Key)(st:Option (List Nat))(h:T ab)(nx n0:Key):Prop:=match st with
 |some bs=>RS r bs 0 h nx n0∧∀b∈bs,b<256
 |none=>∃bs e,e≠0∧RS r bs e h nx n0
end Ln
namespace Ln
open Go.Sx Go
variable{C:cX}
theorem my{dst:Key}{op:Aw}{v:AV}{l:List aq}{tm:T AV}{h:T ab}{nx:Key}{Q:cu}(hl:lightOp C.orc op tm h=some v)(qF:aOp C.orc op tm h nx=okV h nx (lightOp C.orc op tm h))(hQ:xj C Q l (ar dst (some v) tm) h nx):xj C Q (⟨some dst,op,none⟩ ::l) tm h nx:=by rw[xM,wants_none,tW,qF,hl];exact hQ
abbrev R9(i x:Nat)(tm:T AV)(h:T ab)(nx:Key)(Q:cu):Prop:=∀aD:T AV,ae (K 0) aD=ae (K 0) tm→ae (K 3) aD=ae (K 3) tm→ae (K 4) aD=some (I i)→ae (K 5) aD=some (.int .u8 (.lit (x:Int)))→ae (K 42) aD=some (.bool (decide ((i=9∧1<x)∨(0<i∧x=0))))→Q .norm aD h nx
theorem ZW{i x:Nat}{tm:T AV}{h:T ab}{nx:Key}{Q:cu}(f4:ae (K 4) tm=some (I i))(f5:ae (K 5) tm=some (.int .u8 (.lit (x:Int))))(h9:i=9)(h1:1<x)(hQ:R9 i x tm h nx Q):il C (.ops ba) Q tm h nx:=by
 subst h9;have sj:(1:Int)<x:=by omega
 simp[ba,f4,f5,sj];exact hQ _ (by simp) (by simp) (by simp[f4]) (by simp[f5]) (by simp[h1])
theorem ZX{i x:Nat}{tm:T AV}{h:T ab}{nx:Key}{Q:cu}(f4:ae (K 4) tm=some (I i))(f5:ae (K 5) tm=some (.int .u8 (.lit (x:Int))))(h9:i=9)(h1:¬1<x)(hQ:R9 i x tm h nx Q):il C (.ops ba) Q tm h nx:=by
 subst h9;have sj:¬(1:Int)<x:=by omega
 have h2:((x:Int)==0)=decide (x=0):=by
  by_cases h0:x=0
  ·subst h0;rfl
  ·simp[h0]
 simp[ba,f4,f5,sj,h2];exact hQ _ (by simp) (by simp) (by simp[f4]) (by simp[f5]) (by simp[h1])
theorem ZY{x:Nat}{tm:T AV}{h:T ab}{nx:Key}{Q:cu}(f4:ae (K 4) tm=some (I 0))(f5:ae (K 5) tm=some (.int .u8 (.lit (x:Int))))(hQ:R9 0 x tm h nx Q):il C (.ops ba) Q tm h nx:=by simp[ba,f4,f5];exact hQ _ (by simp) (by simp) (by simp[f4]) (by simp[f5]) (by simp)
theorem ZZ{i x:Nat}{tm:T AV}{h:T ab}{nx:Key}{Q:cu}(f4:ae (K 4) tm=some (I i))(f5:ae (K 5) tm=some (.int .u8 (.lit (x:Int))))(h9:¬i=9)(h0:¬i=0)(hQ:R9 i x tm h nx Q):il C (.ops ba) Q tm h nx:=by
 have h9':((i:Int)==9)=false:=by simp;omega
 have Gs:(0:Int)<i:=by omega
 have UW:0<i:=by omega
 have h2:((x:Int)==0)=decide (x=0):=by
  by_cases h0:x=0
  ·subst h0;rfl
  ·simp[h0]
 simp[ba,f4,f5,h9',UW,h2];exact hQ _ (by simp) (by simp) (by simp[f4]) (by simp[f5]) (by simp[h9,UW])
theorem adG{i x:Nat}{tm:T AV}{h:T ab}{nx:Key}{Q:cu}(f4:ae (K 4) tm=some (I i))(f5:ae (K 5) tm=some (.int .u8 (.lit (x:Int))))(hQ:R9 i x tm h nx Q):il C (.ops ba) Q tm h nx:=by
 by_cases h9:i=9
 ·by_cases h1:1<x
  ·exact ZW f4 f5 h9 h1 hQ
  ·exact ZX f4 f5 h9 h1 hQ
 ·by_cases h0:i=0
  ·subst h0;exact ZY f4 f5 hQ
  ·exact ZZ f4 f5 h9 h0 hQ
theorem Z0(orc:dP){k:Key}{n:Int}{tm:T AV}{h:T ab}(hk:ae k tm=some (I n)):lightOp orc (.bin .mul (.v (.int .i64 (.lit 7))) (.t k)) tm h=some (.int .i64 (.lit (aX .i64 (Int.mul 7 n)))):=by simp only[lightOp,at_t,at_v,hk];rfl
theorem Z1{i x n:Nat}{tm:T AV}{h:T ab}{nx:Key}{Q:cu}(hi:i≤9)(hx:x<256)(hn:n<128^i)(hs:n+x%128*128^i<18446744073709551616)(f3:ae (K 3) tm=some (.int .u64 (.lit (n:Int))))(f4:ae (K 4) tm=some (I i))(f5:ae (K 5) tm=some (.int .u8 (.lit (x:Int))))
  (hQ:∀aD:T AV,ae (K 0) aD=ae (K 0) tm→ae (K 3) aD=some (.int .u64 (.lit ((n+x%128*128^i:Nat):Int)))→ae (K 4) aD=some (I i)→ae (K 5) aD=some (.int .u8 (.lit (x:Int)))→Q .norm aD h nx):il C (.ops iI) Q tm h nx:=by
 have ha:=Ud hx;obtain⟨y,hy⟩:∃y,y=x%128:=⟨_,rfl⟩;rw[←hy]at ha hs hQ;have hw:=eG y (by omega);have hm:aX .i64 (Int.mul 7 (i:Int))=((7*i:Nat):Int):=by rw[show Int.mul 7 (i:Int)=((7*i:Nat):Int) from(Int.natCast_mul 7 i).symm];exact aJ (by omega) (by omega)
 have hyi:y*2^(7*i)<18446744073709551616:=by rw[Ue];omega
 obtain⟨s,hs7⟩:∃s,s=7*i:=⟨_,rfl⟩;rw[←hs7]at hm hyi;have Oi:=acj hn hs;have e:y*2^s=y*128^i:=by rw[hs7,Ue]
 rw[←e]at Oi hQ;generalize hz:y*2^s=z at Oi hQ hyi;generalize hv:n+z=v at Oi hQ;simp only[iI,acF,acb,acd,acH,acI,acJ,acK,acL,acM,acN,acO,v8];refine my (v:=.int .u64 (.lit (n:Int))) (wH _ f3) rfl ?_;refine my (v:=.int .u8 (.lit (x:Int))) (wH _ (by simp[f5])) rfl ?_;refine my (v:=.int .u8 (.lit (y:Int))) (by simp only[lightOp,at_t,at_v];simp[-arith,ha]) rfl ?_;refine my (v:=.int .u64 (.lit (y:Int))) (by rw[EY _ .u64 .u8 (n:=(y:Int)) (by simp),hw]) rfl ?_;refine my (v:=I i) (wH _ (by simp[f4])) rfl ?_;refine my (v:=.int .i64 (.lit (s:Int))) (by rw[←hm];exact Z0 _ (by simp)) rfl ?_;refine my (v:=.int .u64 (.lit (z:Int))) (by rw[←hz];exact ack _ (by omega) (by simp) (by simp) (by rw[hz];exact hyi)) rfl ?_;refine my (v:=.int .u64 (.lit (v:Int))) (by rw[←Oi];exact af5 _ (by simp) (by simp)) rfl ?_;refine my (v:=.int .u64 (.lit (v:Int))) (wH _ (by simp)) rfl ?_;rw[Ix];exact hQ _ (by simp) (by simp) (by simp[f4]) (by simp[f5])
end Ln
namespace Ln
open Go.Sx Go
variable{C:cX}
def aj2(st:Option (List Nat))(r:Key)(h:T ab)(nx n0:Key)(o:Out)(h':T ab)(nx':Key):Prop:=
 o=.ret (.int .u64 (.lit (uV (uO st):Int)))∧RO r ((uO st).map (·.2)) h' nx' n0∧Kr r h nx n0 h' nx'
theorem Kr.refl(r:Key)(h:T ab)(nx n0:Key):Kr r h nx n0 h nx:=⟨cI _,fun _ _ _=>rfl⟩
def XK(r:Key)(rest:List Nat)(h:T ab)(nx:Key)(k:Nat)(aD:T AV)(h':T ab)(nx':Key):Prop:=
 ∃i n:Nat,k=10-i∧i≤9∧ae (K 0) aD=some (.ptr r 0)∧ae (K 3) aD=some (.int .u64 (.lit (n:Int)))∧ae (K 4) aD=some (I i)∧n<128^i∧Lw i n (rest.drop i)=M4 rest∧i≤rest.length∧h'=h∧nx'=nx
theorem Fw(S:Fn C aS de)(SF:Fn C az cB)(hr:C.raw az=false){r:Key}{st:Option (List Nat)}{h:T ab}{nx n0:Key}(R:RO r st h nx n0)(hl:∀bs,st=some bs→bs.length≤1000000) :
  ax C aS [.ptr r 0] h nx (aj2 st r h nx n0):=by
 refine S.call ?_;simp[de];simp[qd];cases st with
 |none=>obtain⟨bs,e,he,R⟩:=R;obtain⟨r1,r2,b,off,all,k,a1,a2,a3,a4,a5,a6,a7,a9⟩:=id R;have a8:b≠r:=ay (by omega);simp[jJ,a1,he];simp[qe];exact⟨rfl,⟨bs,e,he,R⟩,Kr.refl _ _ _ _⟩
 |some rest=>
  obtain⟨R,hb⟩:=R;have hlen:=hl rest rfl;obtain⟨r1,r2,b,off,all,k,a1,a2,a3,a4,a5,a6,a7,a9⟩:=id R;have a8:b≠r:=ay (by omega);simp[jJ,a1];simp[qf];simp[qg];refine W.hO (n:=10) (XK r rest h nx) ?_ ?_
  ·exact⟨0,0,rfl,by omega,by simp,by simp,by simp,by simp,by simp[M4],by omega,rfl,rfl⟩
  rintro k1 dT h1 nx1 ⟨i,n,rfl,hi,f0,f3,f4,hn,TA,PF,rfl,rfl⟩;refine W.of ?_;simp[qk];by_cases bF:i<rest.length
  ·have TG:¬(rest.length:Int)≤i:=by omega
   have ed:rest.drop i=rest[i] ::rest.drop (i+1):=zqt bF;have hx:=hb _ (Lt bF);have hlx:off+rest.length=all.length:=by rw[←a4,List.length_drop];omega
   have er:(an eY all)[off+i]?=some (.int .u8 (.lit (rest[i]:Int))):=by
    have hh:=X5 (l:=all) (j:=off+i) (by omega);rw[hh];have e2:all[off+i]'(by omega)=rest[i]:=by have:(all.drop off)[i]'(by rw[List.length_drop];omega)=all[off+i]'(by omega):=List.getElem_drop ..;rw[←this];congr 1
    rw[e2]
   generalize rest[i]=x at ed hx er;rw[ed,Lw]at TA;simp[jK,f0,f4,a1,bF];simp[qj,f0,f4,a1,a2,bF,er];refine lG (adG (i:=i) (x:=x) (by simp[f4]) (by simp) ?_);intro dR g0 g3 g4 g5 g42;simp at g0 g3;rw[f0]at g0;rw[f3]at g3;by_cases hc:(i=9∧1<x)∨(0<i∧x=0)
   ·rw[if_pos hc]at TA;have hu:uO (some rest)=none:=TA.symm;simp[g42,hc];simp[oe,g0,hr];refine(BK SF R 2).mono ?_;rintro o h3 bu ⟨rfl,R3,k3⟩;simp;simp[og];refine⟨by rw[hu];rfl,?_,k3⟩;rw[hu];exact⟨rest,2,by decide,by simpa using R3⟩
   ·rw[if_neg hc]at TA;have hs:n+x%128*128^i<18446744073709551616:=by
     by_cases e9:i=9
     ·subst e9;have:(128:Nat)^9=9223372036854775808:=by decide
      rw[this]at hn ⊢;omega
     ·have h8:=p8 (i:=i) (by omega);have:x%128*128^i<128^(i+1):=by rw[Nat.pow_succ,Nat.mul_comm (128^i) 128];exact Nat.mul_lt_mul_of_pos_right (Nat.mod_lt _ (by omega)) (Nat.pow_pos (by omega))
      have h9:=p9 (i:=i) (by omega);omega
    simp[g42,hc];refine lG (Z1 hi hx hn hs g3 g4 g5 ?_);intro tm3 j0 j3 j4 j5;rw[g0]at j0;by_cases aez:x<128
    ·have Tb:(x:Int)<128:=by omega
     rw[if_pos aez]at TA;have hu:uO (some rest)=some (n+x%128*128^i,rest.drop (i+1)):=TA.symm;have hwi:aX .i64 ((i:Int)+1)=((i+1:Nat):Int):=by rw[show(i:Int)+1=((i+1:Nat):Int) by omega];exact aJ (by omega) (by omega)
     have hle:i+1≤rest.length:=bF;generalize hv:n+x%128*128^i=v at j3 hu;obtain⟨i',Gs⟩:∃i',i'=i+1:=⟨_,rfl⟩;rw[←Gs]at hwi hle hu;simp[iP,j5,Tb];simp[oh,j0,j4,a1,hwi,hle];simp[oi,j3];refine⟨by rw[hu];rfl,?_,cI _,fun q _ hq=>bQ _ _ _ _ hq⟩;rw[hu];refine⟨⟨r1,r2,b,off+i',all,k,?_,by rw[bQ _ _ _ _ a8];exact a2,a3,?_,by omega,a6,a7,a9⟩,?_⟩
     ·rw[gTSm,Gs,List.length_drop]
     ·rw[←a4,List.drop_drop,Gs]
     ·intro y hy;exact hb y (List.mem_of_mem_drop hy)
    ·have Tb:¬(x:Int)<128:=by omega
     rw[if_neg aez]at TA;simp[iP,j5,Tb];simp[om,j4];have hi9:i≠9:=fun e=>hc (.inl ⟨e,by omega⟩);refine⟨10-(i+1),by omega,?_⟩;unfold XK;refine⟨i+1,n+x%128*128^i,rfl,by omega,?_,?_,?_,?_,TA,bF,rfl,rfl⟩
     ·simp[j0]
     ·simp[j3]
     ·simp;rw[aJ (by omega) (by omega)]
     ·have:x%128*128^i+128^i≤128^(i+1):=by
       rw[Nat.pow_succ,Nat.mul_comm (128^i) 128];have h7:x%128+1≤128:=Nat.mod_lt _ (by omega)
       calc x%128*128^i+128^i=(x%128+1)*128^i:=by rw[Nat.add_mul,Nat.one_mul]
        _≤128*128^i:=Nat.mul_le_mul_right _ h7
      omega
  ·have TG:rest.length≤i:=by omega
   have Eb:rest.drop i=[]:=List.drop_eq_nil_of_le (by omega);rw[Eb,Lw]at TA;have hu:uO (some rest)=none:=TA.symm;simp[jK,f0,f4,a1,bF,TG];simp[qh,f0,hr];refine(BK SF R 3).mono ?_;rintro o h3 bu ⟨rfl,R3,k3⟩;simp;simp[qi];refine⟨by rw[hu];rfl,?_,k3⟩;rw[hu];exact⟨rest,3,by decide,by simpa using R3⟩
end Ln
namespace Ln
open Go.Sx Go
theorem UJ{m:Nat}{y:Int}(hm:m<9223372036854775808)(hy:y=0∨y=-1):arith .xor .i64 (.lit (m:Int)) (.lit y)=some (.lit (if y=0 then(m:Int)else -(m:Int)-1)):=by
 have e2:arith .xor .i64 (.lit (m:Int)) (.lit y)=some (.lit (aX .i64 (.ofNat (Nat.xor (GG .i64 (m:Int)) (GG .i64 y))))):=rfl;have e1:GG .i64 (m:Int)=m:=by show((m:Int)%18446744073709551616).toNat=m;omega
 rw[e2,e1];rcases hy with rfl|rfl
 ·have e3:GG .i64 0=0:=by decide
  have e5:Nat.xor m 0=m:=Nat.xor_zero m;rw[e3,e5,if_pos rfl];have:aX .i64 (.ofNat m)=(m:Int):=aJ (n:=(m:Int)) (by omega) (by omega);rw[this]
 ·have e3:GG .i64 (-1)=18446744073709551615:=by decide
  rw[e3,Wh _ (by omega),if_neg (by decide),dV];have:IntKind.wrap .i64 (Int.ofNat (18446744073709551615-m))=-(m:Int)-1:=by show IntKind.wrap .i64 ((18446744073709551615-m:Nat):Int)=_;simp only[IntKind.wrap,IntKind.bits,IntKind.signed];simp;omega
  rw[this]
theorem and_1(n:Nat)(hn:n<18446744073709551616):arith .and .u64 (.lit (n:Int)) (.lit 1)=some (.lit ((n%2:Nat):Int)):=by have e2:arith .and .u64 (.lit (n:Int)) (.lit 1)=some (.lit (Int.emod (.ofNat (Nat.land n 1)) 18446744073709551616)):=rfl;have e:Nat.land n 1=n%2:=Nat.and_one_is_mod n;rw[e2,e];congr 2;show((n%2:Nat):Int)%18446744073709551616=_;omega
theorem ZK(orc:dP){k:Key}{n:Nat}{tm:T AV}{h:T ab}(hk:ae k tm=some (.int .u64 (.lit (n:Int)))):lightOp orc (.bin .shr (.t k) (.v (.int .u64 (.lit 1)))) tm h=some (.int .u64 (.lit ((n / 2:Nat):Int))):=by simp only[lightOp,at_t,at_v,hk];rfl
theorem aiA(orc:dP){op:BinOp}{k k':Key}{kk:IntKind}{a b c:SI}{tm:T AV}{h:T ab}(qF:isCmp op=false)(h1:op≠.shl)(h2:op≠.shr)(hk:ae k tm=some (.int kk a))(vO:ae k' tm=some (.int kk b))(hc:arith op kk a b=some c):lightOp orc (.bin op (.t k) (.t k')) tm h=some (.int kk c):=by
 have hb:beqKind kk kk=true:=by cases kk<;>rfl
 cases op<;>first|exact absurd rfl h1|exact absurd rfl h2|(simp only[lightOp,at_t,hk,vO,hc,hb];rfl)|cases qF
theorem adp(orc:dP){op:BinOp}{k:Key}{kk:IntKind}{a b c:SI}{tm:T AV}{h:T ab}(qF:isCmp op=false)(h1:op≠.shl)(h2:op≠.shr)(hk:ae k tm=some (.int kk a))(hc:arith op kk a b=some c):lightOp orc (.bin op (.t k) (.v (.int kk b))) tm h=some (.int kk c):=by
 have hb:beqKind kk kk=true:=by cases kk<;>rfl
 cases op<;>first|exact absurd rfl h1|exact absurd rfl h2|(simp only[lightOp,at_t,at_v,hk,hc,hb];rfl)|cases qF
variable{C:cX}
def aiB(st:Option (List Nat))(r:Key)(h:T ab)(nx n0:Key)(o:Out)(h':T ab)(nx':Key):Prop:=
 o=.ret (I (bk (uV (uO st))))∧RO r ((uO st).map (·.2)) h' nx' n0∧Kr r h nx n0 h' nx'
theorem Xe{st:Option (List Nat)}{r:Key}{h:T ab}{nx n0:Key}(R:RO r st h nx n0):uV (uO st)<18446744073709551616:=by
 cases st with
 |none=>show(0:Nat)<_;omega
 |some bs=>
  obtain⟨_,hb⟩:=R;cases hu:uO (some bs)with
  |none=>show(0:Nat)<_;omega
  |some p=>obtain⟨n,r1⟩:=p;exact(BC hb hu).1
theorem adq{n:Nat}{tm:T AV}{h:T ab}{nx:Key}{Q:cu}(hn:n<18446744073709551616)(f3:ae (K 3) tm=some (.int .u64 (.lit (n:Int))))(hQ:∀aD,ae (K 2) aD=some (I (bk n))→Q .norm aD h nx):il C (.ops kG) Q tm h nx:=by
 obtain⟨m,hm⟩:∃m,m=n / 2:=⟨_,rfl⟩;obtain⟨d,hd⟩:∃d,d=n%2:=⟨_,rfl⟩;have hbk:bk n=if d=1 then -(m:Int)-1 else m:=by unfold bk;rw[←hm,←hd]
 have T7:d=0∨d=1:=by omega
 have hw1:aX .i64 (m:Int)=m:=aJ (by omega) (by omega);have Qn:aX .i64 (d:Int)=d:=aJ (by omega) (by omega);have UK:arith .sub .i64 (.lit 0) (.lit (d:Int))=some (.lit (if d=1 then -1 else 0)):=by rcases T7 with rfl|rfl<;>rfl
 have hx:=UJ (m:=m) (y:=if d=1 then -1 else 0) (by omega) (by rcases T7 with rfl|rfl<;>simp);have hy:(if (if d=1 then(-1:Int)else 0)=0 then(m:Int)else -(m:Int)-1)=bk n:=by rw[hbk];rcases T7 with rfl|rfl<;>simp
 rw[hy]at hx;generalize hz:(if d=1 then(-1:Int)else 0)=z at UK hx;simp only[kG,agl,acF,ace,acf,acg,ach,Wi,Wj,Wk,acG,v8];refine my (v:=.int .u64 (.lit (n:Int))) (wH _ f3) rfl ?_;refine my (v:=.int .u64 (.lit (m:Int))) (by rw[hm];exact ZK _ (by simp)) rfl ?_;refine my (v:=I m) (by rw[EY _ .i64 .u64 (n:=(m:Int)) (by simp),hw1]) rfl ?_;refine my (v:=.int .u64 (.lit (n:Int))) (wH _ (by simp[f3])) rfl ?_;refine my (v:=.int .u64 (.lit (d:Int))) (adp _ (a:=.lit (n:Int)) rfl (by decide) (by decide) (by simp) (by rw[and_1 n hn,hd])) rfl ?_;refine my (v:=I d) (by rw[EY _ .i64 .u64 (n:=(d:Int)) (by simp),Qn]) rfl ?_;refine my (v:=I z) (by simp only[lightOp,at_t];simp[-arith,UK]) rfl ?_;refine my (v:=I (bk n)) (aiA _ (a:=.lit (m:Int)) (b:=.lit z) rfl (by decide) (by decide) (by simp) (by simp) hx) rfl ?_;refine my (v:=I (bk n)) (wH _ (by simp)) rfl ?_;rw[Ix];exact hQ _ (by simp)
theorem Cp(S:Fn C aR kl)(SU:Fn C aS de)(SF:Fn C az cB)(hr:C.raw az=false)(hu:C.raw aS=false){r:Key}{st:Option (List Nat)}{h:T ab}{nx n0:Key}(R:RO r st h nx n0)(hl:∀bs,st=some bs→bs.length≤1000000) :
  ax C aR [.ptr r 0] h nx (aiB st r h nx n0):=by
 refine S.call ?_;have bF:=Xe R;simp[kl];simp[re];simp[rh,hu];refine(Fw SU SF hr R hl).mono ?_;rintro o h1 nx1 ⟨rfl,R1,k1⟩;simp;refine lG (adq bF (by simp) ?_);intro dR g2;simp[g2];exact⟨rfl,R1,k1⟩
end Ln
namespace Ln
open Go.Sx Go
variable{C:cX}
def lO(st:Option (List Nat)):Option (Nat×List Nat):=match uO st with
 |some (n,r)=>if n≤r.length then some (n,r)else none
 |none=>none
def ajh(st:Option (List Nat))(r:Key)(h:T ab)(nx n0:Key)(o:Out)(h':T ab)(nx':Key):Prop:=
 o=.ret (I (uV (lO st)))∧RO r ((lO st).map (·.2)) h' nx' n0∧Kr r h nx n0 h' nx'
theorem Kr.trans{r:Key}{h h1 h2:T ab}{nx nx1 aP n0:Key}(a:Kr r h nx n0 h1 nx1)(b:Kr r h1 nx1 n0 h2 aP):Kr r h nx n0 h2 aP:=
 ⟨Nat.le_trans a.1 b.1,fun q h1 h2=>by rw[b.2 q (by have:=a.1;omega) h2,a.2 q h1 h2]⟩
theorem HI(S:Fn C bl eg)(SU:Fn C aS de)(SF:Fn C az cB)(hr:C.raw az=false)(hu:C.raw aS=false){r:Key}{st:Option (List Nat)}{h:T ab}{nx n0:Key}(R:RO r st h nx n0)(hl:∀bs,st=some bs→bs.length≤1000000) :
  ax C bl [.ptr r 0] h nx (ajh st r h nx n0):=by
 refine S.call ?_;have bF:=Xe R;simp[eg];simp[mE];simp[mF,hu];refine(Fw SU SF hr R hl).mono ?_;rintro o h1 nx1 ⟨rfl,R1,k1⟩;simp;cases hs:uO st with
 |none=>
  have hL:lO st=none:=by unfold lO;rw[hs]
  rw[hs]at R1;obtain⟨bs,e,he,R2⟩:=R1;obtain⟨r1,r2,b,off,all,k,a1,a2,a3,a4,a5,a6,a7,a9⟩:=id R2;have a8:b≠r:=ay (by omega);have he':(e==0)=false:=by simpa using he
  simp[ei,a1,he,he'];simp[ej,a1,he,he'];simp[gJ];exact⟨by rw[hL];rfl,by rw[hL];exact⟨bs,e,he,R2⟩,k1⟩
 |some p=>
  obtain⟨n,rest⟩:=p;rw[hs]at R1 bF;obtain⟨R2,hb⟩:=R1;simp only[uV]at bF;have Et:rest.length≤1000000:=by
   cases st with
   |none=>cases hs
   |some bs=>have:=hl bs rfl;have e:=(BC R.2 hs).2;rw[e,fO]at this;omega
  obtain⟨r1,r2,b,off,all,k,a1,a2,a3,a4,a5,a6,a7,a9⟩:=id R2;have a8:b≠r:=ay (by omega);simp only at a1 a4 R2;have hw:=eG rest.length (by omega);by_cases hle:n≤rest.length
  ·have hL:lO st=some (n,rest):=by unfold lO;rw[hs];simp[hle]
   have xQ:¬(rest.length:Int)<n:=by omega
   have Ib:¬rest.length<n:=by omega
   have hwn:aX .i64 (n:Int)=n:=aJ (by omega) (by omega);simp[ei,a1,hw,uV,Ib];simp[ej,a1];simp[mG,uV,hwn];refine⟨by rw[hL];rfl,by rw[hL];exact⟨R2,hb⟩,k1⟩
  ·have hL:lO st=none:=by unfold lO;rw[hs];simp[hle]
   have Ib:rest.length<n:=by omega
   simp[ei,a1,hw,uV,Ib];simp[mH,hr];refine(BK SF R2 3).mono ?_;rintro o h2 aP ⟨rfl,R3,k2⟩;simp at R3;obtain⟨r1',r2',b',aok,aol,k',b1,b2⟩:=id R3;simp;simp[ej,b1];simp[gJ];exact⟨by rw[hL];rfl,by rw[hL];exact⟨rest,3,by decide,R3⟩,k1.trans k2⟩
def Rn(r:Key)(bs:List Nat)(e:Int)(n:Nat)(h:T ab)(nx n0:Key)(o:Out)(h':T ab)(nx':Key):Prop:=
 (∃(b:Key) (off:Nat) (all:List Nat) (k:CK),o=.ret (.slice b off n 1)∧ae b h'=some (.cells (an eY all) k)∧b.toNat<nx'.toNat∧off+n≤all.length∧(all.drop off).take n=bs.take n)∧RS r (bs.drop n) e h' nx' n0∧Kr r h nx n0 h' nx'
theorem BU(S:Lp C aZ fJ){r:Key}{bs:List Nat}{e:Int}{h:T ab}{nx n0:Key}(R:RS r bs e h nx n0){n:Nat}(hn:n≤bs.length) :
  ax C aZ [.ptr r 0,I n] h nx (Rn r bs e n h nx n0):=by
 refine S.call ?_;obtain⟨r1,r2,b,off,all,k,a1,a2,a3,a4,a5,a6,a7,a9⟩:=id R;have a8:b≠r:=ay (by omega);have TN:bs.length+off=all.length:=by rw[←a4,List.length_drop];omega
 simp[fJ];simp[pY];simp[pZ,a1,hn];simp[p6,a1,hn];simp[p7];have g2:ae b (ar r (some (.cells [.slice b (off+n) (bs.length-n) 1,I e] .fix)) h)=some (.cells (an eY all) k):=by rw[bQ _ _ _ _ a8];exact a2
 refine⟨⟨b,off,all,k,rfl,g2,a7,by omega,by rw[a4]⟩,⟨r1,r2,b,off+n,all,k,by rw[gTSm,List.length_drop],g2,a3,by rw[←List.drop_drop,a4],by omega,a6,a7,a9⟩,cI _,fun q _ hq=>bQ _ _ _ _ hq⟩
def tO(st:Option (List Nat)):Option ((Nat×Nat)×List Nat):=match lO st with
 |some (n,r)=>some ((n,ub (r.take n)),r.drop n)
 |none=>none
def tV:Option ((Nat×Nat)×List Nat)→AV
 |some ((a,b),_)=>.str a b
 |none=>.str 0 0
def aji(st:Option (List Nat))(r:Key)(h:T ab)(nx n0:Key)(o:Out)(h':T ab)(nx':Key):Prop:=
 o=.ret (tV (tO st))∧RO r ((tO st).map (·.2)) h' nx' n0∧Kr r h nx n0 h' nx'
theorem Vg(S:Fn C cn jd)(SL:Fn C bl eg)(ST:Lp C aZ fJ)(SU:Fn C aS de)(SF:Fn C az cB)(hr:C.raw az=false)(hu:C.raw aS=false)(hL:C.raw bl=false)(hT:C.raw aZ=false){r:Key}{st:Option (List Nat)}{h:T ab}{nx n0:Key}(R:RO r st h nx n0)(hl:∀bs,st=some bs→bs.length≤1000000) :
  ax C cn [.ptr r 0] h nx (aji st r h nx n0):=by
 refine S.call ?_;simp[jd];simp[qa];simp[qb,hL];refine(HI SL SU SF hr hu R hl).mono ?_;rintro o h1 nx1 ⟨rfl,R1,k1⟩;simp[hT];cases hs:lO st with
 |none=>
  have ht:tO st=none:=by unfold tO;rw[hs]
  rw[hs]at R1;obtain⟨bs,e,he,R2⟩:=R1;refine(by simpa using BU ST R2 (n:=0) (by omega):ax C aZ [.ptr r 0,I 0] h1 nx1 (Rn r bs e 0 h1 nx1 n0)).mono ?_;rintro o h2 aP ⟨⟨b,off,all,k,rfl,g1,g2,g3,g4⟩,R3,k2⟩;simp[g1];have h0:ofBytes []=some (0,0):=rfl;simp[h0];exact⟨by rw[ht];rfl,by rw[ht];exact⟨bs,e,he,R3⟩,k1.trans k2⟩
 |some p=>
  obtain⟨n,rest⟩:=p;have ht:tO st=some ((n,ub (rest.take n)),rest.drop n):=by unfold tO;rw[hs]
  have hle:n≤rest.length:=by
   unfold lO at hs;split at hs
   ·split at hs
    ·rename_i hh;simp only[bB,Prod.mk.injEq]at hs;obtain⟨rfl,rfl⟩:=hs;exact hh
    ·cases hs
   ·cases hs
  rw[hs]at R1;obtain⟨R2,hb⟩:=R1;simp only at R2 hb;refine(BU ST R2 hle).mono ?_;rintro o h2 aP ⟨⟨b,off,all,k,rfl,g1,g2,g3,g4⟩,R3,k2⟩;have Ju:List.take n (List.drop off (an eY all))=an eY (rest.take n):=by have e1:=bE.drop all off;have e2:=bE.take (all.drop off) n;rw[Nat.mul_one]at e1 e2;rw[e1,e2,g4]
  have hof:=ofB (rest.take n) fun x hx=>hb x (List.mem_of_mem_take hx);have bF:(rest.take n).length=n:=by rw[LF];omega
  rw[bF]at hof;have hlen:n≤(an eY all).length-off:=by rw[bE.rows];omega
  simp[g1,Ju,hof,hlen];refine⟨by rw[ht];rfl,?_,k1.trans k2⟩;rw[ht];exact⟨R3,fun x hx=>hb x (List.mem_of_mem_drop hx)⟩
end Ln
namespace Ln
open Go.Sx Go
variable{C:cX}
theorem Qq(S:Fn C dc iY)(SU:Fn C aN da)(hr:C.raw aN=false){w:Key}{c:AV}{bs:List Nat}{h:T ab}{nx n0:Key}(Ws:WS w c bs h nx n0)(a b:Nat)(ha:a≤100000)(hl:bs.length≤100000) :
  ax C dc [.ptr w 0,.str a b] h nx (dh w (bs++(vu a++sb a b)) h nx n0):=by
 refine S.call ?_;have hw:=eG a (by omega);simp[iY];simp[pI,hw,hr];refine(BI SU Ws (n:=a) (by omega) hl).mono ?_;rintro o h1 nx1 ⟨rfl,c1,W1,Ol,Lr,hk1⟩;have LD:(vu a).length≤11:=by
  have:∀k n,(zj k n).length≤k+1:=by
   intro k
   induction k with
   |zero=>intro n;simp[zj]
   |succ k ih=>
    intro n;rw[zj];split
    ·simp
    ·have:=ih (n / 128);rw[Ci];omega
  exact this 10 a
 obtain⟨c2,h2,aP,g,x1,x2,x3,W2,x5,x6,x7⟩:=W1.add (sb a b) (by rw[v9,fO];omega);rw[v9,←E1]at g;simp;simp[-appendTo,pJ,W1.at_,g,x1,x2,x3];refine⟨rfl,c2,by rw[←List.append_assoc];exact W2,by omega,fun b hb=>by rw[x6 b hb];exact Lr b hb,hk1.trans Ol x7⟩
theorem Na(S:Fn C bZ kg)(SU:Fn C aN da)(hr:C.raw aN=false){w:Key}{c:AV}{bs:List Nat}{h:T ab}{nx n0:Key}(Ws:WS w c bs h nx n0){d:AV}{l:List Nat}(hd:py 1 eY d l)(ha:l.length≤100000)(hl:bs.length≤100000) :
  ax C bZ [.ptr w 0,d] h nx (dh w (bs++(vu l.length++l)) h nx n0):=by
 refine S.call ?_;have hw:=eG l.length (by omega);have hw0:=eG 0 (by omega);have LD:(vu l.length).length≤11:=by
  have:∀k n,(zj k n).length≤k+1:=by
   intro k
   induction k with
   |zero=>intro n;simp[zj]
   |succ k ih=>
    intro n;rw[zj];split
    ·simp
    ·have:=ih (n / 128);rw[Ci];omega
  exact this 10 l.length
 simp[kg];rcases hd with⟨rfl,rfl⟩|rfl
 ·have af6:aX .u64 0=0:=rfl;simp[ky,af6,hr];refine(by simpa using BI SU Ws (n:=0) (by omega) hl:ax C aN [.ptr w 0,.int .u64 (.lit 0)] h nx (dh w (bs++vu 0) h nx n0)).mono ?_;rintro o h1 nx1 ⟨rfl,c1,W1,Ol,Lr,hk1⟩;obtain⟨c2,h2,aP,g,x1,x2,x3,W2,x5,x6,x7⟩:=W1.add [] (by simp;simp at LD;omega);simp only[tU,List.length_nil]at g;simp;simp[-appendTo,kz,W1.at_,g,x1,x2,x3];refine⟨rfl,c2,by simpa using W2,by omega,fun b hb=>by rw[x6 b hb];exact Lr b hb,hk1.trans Ol x7⟩
 ·simp[ky,hw,hr];refine(BI SU Ws (n:=l.length) (by omega) hl).mono ?_;rintro o h1 nx1 ⟨rfl,c1,W1,Ol,Lr,hk1⟩;obtain⟨c2,h2,aP,g,x1,x2,x3,W2,x5,x6,x7⟩:=W1.add l (by rw[fO];omega);simp;simp[-appendTo,kz,W1.at_,g,x1,x2,x3];refine⟨rfl,c2,by rw[←List.append_assoc];exact W2,by omega,fun b hb=>by rw[x6 b hb];exact Lr b hb,hk1.trans Ol x7⟩
end Ln
namespace Ln
open Go.Sx Go
def MO(bs:List Nat)(h:T ab)(nx:Key)(o:Out)(h':T ab)(nx':Key):Prop:=(∃c',o=.ret c'∧App c' (an eY bs) bs.length 1 h' nx' nx)∧Ext h nx h' nx'
variable{C:cX}
def Xd(n:Nat)(h:T ab)(nx:Key)(k:Nat)(aD:T AV)(h':T ab)(nx':Key):Prop:=
 ∃(n':Nat) (Gk:List Nat) (c':AV),k≤10∧ae (K 0) aD=some (.int .u64 (.lit (n':Int)))∧ae (K 3) aD=some c'∧App c' (an eY Gk) Gk.length 1 h' nx' nx∧n'*128^(10-k)<18446744073709551616∧Gk++zj k n'=vu n∧Gk.length≤10-k∧Ext h nx h' nx'
theorem Jv(S:Lp C di mK){n:Nat}(hn:n<18446744073709551616)(h:T ab)(nx:Key):ax C di [.int .u64 (.lit (n:Int))] h nx (MO (vu n) h nx):=by
 refine S.call ?_;simp[mK];simp[zX];simp[zY];refine W.hO (n:=10) (Xd n h nx) ?_ ?_
 ·exact⟨n,[],.nils,by omega,by simp,by simp,App.nil 1,by simpa using hn,rfl,by simp,Ext.refl _ _⟩
 ·rintro k dT h1 nx1 ⟨n',Gk,c',hk,f0,f3,hA,bF,Ir,hlen,e1⟩;have s1:=kTSu nx1;have hnn:=e1.n;refine W.of ?_;simp[zZ];by_cases Qo:n'<128
  ·have L0:¬(127:Int)<n':=by omega
   have hv:zj k n'=[n']:=by cases k<;>simp[zj,Qo]
   simp[tC,f0,L0];obtain⟨m,hm⟩:∃m,m=n'%256:=⟨_,rfl⟩;have h12:aX .u8 (n':Int)=(m:Int):=by rw[wrap_u8,hm]
   have hmn:m=n':=by omega
   have Hs:an eY [m]=[.int .u8 (.lit (m:Int))]:=kU _ _;obtain⟨c2,h2,aP,g,A2,x1,x2,x3⟩:=(hA.ext (E0 h1 nx1 (.cells [.int .u8 (.lit (m:Int))] .fix))).Jt (new:=an eY [m]) (m:=1) (by omega) (by rw[bE.rows];rfl) (by omega) (bE.EH _);have hz:∀H,aO (aK 9999) [AV.int .u8 (.lit (m:Int))] H=([AV.int .u8 (.lit (m:Int))],H):=fun H=>aG (by intro y hy;simp at hy;subst hy;exact qp _ _);rw[←gA]at A2;rw[Hs]at g;simp[-appendTo,z5,f0,f3,h12,hz,g];refine⟨⟨c2,rfl,?_⟩,by omega,fun b hb=>?_⟩
   ·rw[←Ir,hv,←hmn,fO,List.length_singleton];exact A2
   ·rw[x2 b hb,al (by omega)];exact e1.g b hb
  ·have L0:(127:Int)<n':=by omega
   cases k with
   |zero=>
    exfalso;have:(128:Nat)^(10-0)=1180591620717411303424:=by decide
    rw[this]at bF;omega
   |succ k=>
    simp[tC,f0,L0];have anE:n'<18446744073709551616:=by have:0<128^(10-(k+1)):=Nat.pow_pos (by omega);exact Nat.lt_of_le_of_lt (Nat.le_mul_of_pos_right _ this) bF
    obtain⟨r,hr⟩:∃r,r=n'%128:=⟨_,rfl⟩;obtain⟨y,hy⟩:∃y,y=128+r:=⟨_,rfl⟩;obtain⟨d,hd⟩:∃d,d=n' / 128:=⟨_,rfl⟩;have t1:Int.tmod (n':Int) 128=(r:Int):=by rw[hr];exact(Int.ofNat_tmod n' 128).symm
    have t2:aX .u64 (128+(r:Int))=(y:Int):=by rw[show(128:Int)+r=((y:Nat):Int) by omega];exact eG y (by omega)
    have t3:aX .u8 (y:Int)=(y:Int):=by rw[wrap_u8];omega
    have t4:aX .u64 ((n':Int) / 128)=(d:Int):=by rw[show(n':Int) / 128=((d:Nat):Int) by omega];exact eG d (by omega)
    have Hs:an eY [y]=[.int .u8 (.lit (y:Int))]:=kU _ _;obtain⟨c2,h2,aP,g,A2,x1,x2,x3⟩:=(hA.ext (E0 h1 nx1 (.cells [.int .u8 (.lit (y:Int))] .fix))).Jt (new:=an eY [y]) (m:=1) (by omega) (by rw[bE.rows];rfl) (by omega) (bE.EH _);have hz:∀H,aO (aK 9999) [AV.int .u8 (.lit (y:Int))] H=([AV.int .u8 (.lit (y:Int))],H):=fun H=>aG (by intro z hz;simp at hz;subst hz;exact qp _ _);rw[←gA]at A2;rw[Hs]at g;simp[-appendTo,z6,f0,f3,t1,t2,t3,hz,g];simp[z7,f0,t4];refine⟨k,by omega,?_⟩;unfold Xd;have hp:10-k=(10-(k+1))+1:=by omega
    refine⟨d,Gk ++ [y],c2,by omega,?_,?_,?_,?_,?_,?_,⟨by omega,fun b hb=>?_⟩⟩
    ·simp
    ·simp
    ·rw[fO,List.length_singleton];exact A2
    ·rw[hp,Nat.pow_succ,hd];have:n' / 128*(128^(10-(k+1))*128)≤n'*128^(10-(k+1)):=by rw[Nat.mul_comm (128^_) 128,←Nat.mul_assoc];exact Nat.mul_le_mul_right _ (Nat.div_mul_le_self _ _)
     omega
    ·rw[←Ir,zj,if_neg Qo,hy,hr,hd,List.append_assoc];rfl
    ·rw[fO,List.length_singleton];omega
    ·rw[x2 b hb,al (by omega)];exact e1.g b hb
theorem UH(S:Fn C dZ lV){n:Int}(h1:-9223372036854775808≤n)(h2:n<9223372036854775808):Pur C dZ [I n] (·=.ret (.int .u64 (.lit (zz n:Int)))):=by
 intro h nx;refine S.call ?_;simp[lV];simp[wV];have hzl:=BH h1 h2;by_cases hn:n<0
 ·obtain⟨p,hp⟩:∃p,p=n+1:=⟨_,rfl⟩;obtain⟨q,hq⟩:∃q:Nat,q=(-p).toNat:=⟨_,rfl⟩;obtain⟨t,ht⟩:∃t:Nat,t=2*q:=⟨_,rfl⟩;have hz:zz n=t+1:=by unfold zz;rw[if_pos hn];omega
  have t1:aX .i64 (n+1)=p:=by rw[←hp];exact aJ (by omega) (by omega)
  have t2:aX .i64 (-p)=(q:Int):=by rw[show -p=((q:Nat):Int) by omega];exact aJ (by omega) (by omega)
  have t2':aX .i64 (0-p)=(q:Int):=by rw[show 0-p=((q:Nat):Int) by omega];exact aJ (by omega) (by omega)
  have t3:aX .u64 (q:Int)=(q:Int):=eG q (by omega);have t4:aX .u64 (2*(q:Int))=(t:Int):=by rw[show 2*(q:Int)=((t:Nat):Int) by omega];exact eG t (by omega)
  have t5:aX .u64 ((t:Int)+1)=((zz n:Nat):Int):=by rw[hz,show(t:Int)+1=((t+1:Nat):Int) by omega];exact eG (t+1) (by omega)
  simp[o7,hn];simp[wW,t1,t2,t2',t3,t4,t5];exact Ext.refl _ _
 ·obtain⟨q,hq⟩:∃q:Nat,q=n.toNat:=⟨_,rfl⟩;have e:n=(q:Int):=by omega
  have hz:zz n=2*q:=by unfold zz;rw[if_neg hn];omega
  have t3:aX .u64 n=(q:Int):=by rw[e];exact eG q (by omega)
  have t4:aX .u64 (2*(q:Int))=((zz n:Nat):Int):=by rw[hz,show 2*(q:Int)=((2*q:Nat):Int) by omega];exact eG (2*q) (by omega)
  simp[o7,hn];simp[wX,t3,t4];exact Ext.refl _ _
theorem UI(S:Lp C cT ze)(SZ:Fn C dZ lV)(SU:Lp C di mK)(hz:C.raw dZ=false)(hu:C.raw di=false){n:Int}(h1:-9223372036854775808≤n)(h2:n<9223372036854775808)(h:T ab)(nx:Key) :
  ax C cT [I n] h nx (MO (vu (zz n)) h nx):=by
 refine S.call ?_;simp[ze];simp[BR];simp[BS,hz];refine(UH SZ h1 h2 _ _).mono ?_;rintro o h3 bu ⟨rfl,e3⟩;simp[hu];refine(Jv SU (BH h1 h2) _ _).mono ?_;rintro o h4 sw ⟨⟨c',rfl,hA⟩,e4⟩;simp;refine⟨⟨c',rfl,?_⟩,e3.trans e4⟩;have hn:=e3.n;refine⟨?_⟩;rcases hA.is with⟨a1,a2,a3⟩|⟨b,a1,a2,a3,a4,a5⟩|⟨t,a1,a2,a3,a4⟩
 ·exact .inl ⟨a1,a2,a3⟩
 ·exact .inr (.inl ⟨b,a1,a2,by omega,a4,a5⟩)
 ·exact .inr (.inr ⟨t,a1,a2,by omega,a4⟩)
end Ln
namespace Ln
open Go.Sx Go
theorem App.low{c:AV}{l:List AV}{len sz:Nat}{h:T ab}{nx n0 n1:Key}(ha:App c l len sz h nx n1)(hn:n0.toNat≤n1.toNat):App c l len sz h nx n0:=by
 refine⟨?_⟩;rcases ha.is with⟨a1,a2,a3⟩|⟨b,a1,a2,a3,a4,a5⟩|⟨t,a1,a2,a3,a4⟩
 ·exact .inl ⟨a1,a2,a3⟩
 ·exact .inr (.inl ⟨b,a1,a2,by omega,a4,a5⟩)
 ·exact .inr (.inr ⟨t,a1,a2,by omega,a4⟩)
theorem TF{orc:dP}{k k':Key}{c x:AV}{bs m:List Nat}{tm:T AV}{h:T ab}{nx n0:Key}(hk:ae k tm=some c)(vO:ae k' tm=some x)(hc:App c (an eY bs) bs.length 1 h nx n0)(hx:App x (an eY m) m.length 1 h nx n0)(hn:n0.toNat≤nx.toNat)(hl:bs.length+m.length≤1048576) :
  ∃c' h' nx',aOp orc (.append 1 (.t k) (.t k')) tm h nx=.val c' h' nx'∧App c' (an eY (bs++m)) (bs++m).length 1 h' nx' n0∧nx.toNat≤nx'.toNat∧∀b:Key,b.toNat<n0.toNat→ae b h'=ae b h:=by
 obtain⟨c2,h2,aP,g,A2,x1,x2,_⟩:=hc.Jt (new:=an eY m) (m:=m.length) hn (by rw[bE.rows]) hl (bE.EH m);rw[←gA]at A2;refine⟨c2,h2,aP,?_,by rw[fO];exact A2,x1,x2⟩;rcases hx.is with⟨rfl,e1,e2⟩|⟨b,rfl,hb,sf,bF,PM⟩|⟨t,rfl,ht,sf,bF⟩
 ·have:m=[]:=H8 e2;subst this;simp only[tU,List.length_nil]at g;simp[-appendTo,hk,vO,g]
 ·have hz:∀H,aO (aK 9999) (an eY m) H=(an eY m,H):=fun H=>aG (bE.H9 m);have hle:m.length≤(an eY m).length:=by rw[bE.rows];omega
  have Ju:List.take m.length (an eY m)=an eY m:=Hf (by rw[bE.rows];omega);simp[-appendTo,hk,vO,hb,hz,hle,Ju,g]
 ·simp[-appendTo,hk,vO,g]
theorem xL{C:cX}{Q:cu}{dst k k':Key}{l:List aq}{c x:AV}{bs m:List Nat}{tm:T AV}{h:T ab}{nx n0:Key}(hk:ae k tm=some c)(vO:ae k' tm=some x)(hc:App c (an eY bs) bs.length 1 h nx n0)(hx:App x (an eY m) m.length 1 h nx n0)(hn:n0.toNat≤nx.toNat)(hl:bs.length+m.length≤1048576)
  (hQ:∀c' h' nx',App c' (an eY (bs++m)) (bs++m).length 1 h' nx' n0→nx.toNat≤nx'.toNat→(∀b:Key,b.toNat<n0.toNat→ae b h'=ae b h)→xj C Q l (ar dst (some c') tm) h' nx'):xj C Q (⟨some dst,.append 1 (.t k) (.t k'),none⟩ ::l) tm h nx:=by
 obtain⟨c',h',nx',g,A,VM,hf⟩:=TF (orc:=C.orc) hk vO hc hx hn hl;rw[xM,wants_none,tW,g];exact hQ c' h' nx' A VM hf
variable{C:cX}
theorem Ia(S:Lp C fS yT)(SU:Lp C di mK)(hu:C.raw di=false){l:List Nat}(hl:l.length≤100000)(h:T ab)(nx:Key) :
  ax C fS [.sl (an eY l) l.length 1 .any] h nx (MO (vu l.length++l) h nx):=by
 refine S.call ?_;have hw:=eG l.length (by omega);have LD:(vu l.length).length≤11:=by
  have:∀k n,(zj k n).length≤k+1:=by
   intro k
   induction k with
   |zero=>intro n;simp[zj]
   |succ k ih=>
    intro n;rw[zj];split
    ·simp
    ·have:=ih (n / 128);rw[Ci];omega
  exact this 10 l.length
 simp[yT];simp[Bs];simp[Bt,hw,hu];refine(Jv SU (n:=l.length) (by omega) _ _).mono ?_;rintro o h1 nx1 ⟨⟨c1,rfl,hA⟩,e1⟩;obtain⟨c2,h2,aP,g,A2,x1,x2,_⟩:=hA.Jt (new:=an eY l) (m:=l.length) e1.n (by rw[bE.rows]) (by omega) (bE.EH l);rw[←gA]at A2;simp[-appendTo,g];exact⟨⟨c2,rfl,by rw[fO];exact A2⟩,by have:=e1.n;omega,fun b hb=>by rw[x2 b hb];exact e1.g b hb⟩
def afr(c:AV)(bs:List Nat)(h:T ab)(nx n0:Key):Prop:=(c=.nils∧bs=[])∨∃q:Key,c=.slice q 0 bs.length 1∧ae q h=some (.cells (an eY bs) .part)∧n0.toNat≤q.toNat∧q.toNat<nx.toNat
theorem PN(S:Lp C fT yU){c:AV}{l:List Nat}(hc:py 1 eY c l)(p:Nat)(hl:p≤1000000)(h:T ab)(nx:Key) :
  ax C fT [c,I p] h nx (fun o h' nx'=>(∃c',o=.ret c'∧afr c' (l.take p) h' nx' nx)∧Ext h nx h' nx'):=by
 have s1:=kTSu nx;refine S.call ?_;simp[yU];simp[Bu];simp[Bv];rcases hc with⟨rfl,rfl⟩|rfl
 ·have h0:¬(p:Int)<0:=by omega
  simp[iS,h0];exact⟨.inl ⟨rfl,rfl⟩,Ext.refl _ _⟩
 ·have hr:=bE.rows l;by_cases bF:(p:Int)<l.length
  ·have TG:p<l.length:=by omega
   have hle:p≤l.length:=by omega
   have Ib:p≤(an eY l).length:=by omega
   have Ju:List.take p (an eY l)=an eY (l.take p):=by have:=bE.take l p;rwa [Nat.mul_one]at this
   have hln:(l.take p).length=p:=by rw[LF];omega
   by_cases hp:p=0
   ·subst hp;simp[iS,TG];exact⟨.inl ⟨rfl,rfl⟩,Ext.refl _ _⟩
   ·have vS:p≤1048576:=by omega
    simp[iS,bF,hle,Ib,Ju,hp,vS];exact⟨.inr ⟨nx,by rw[hln],by rw[gTSm],cI _,by omega⟩,E0 h nx _⟩
  ·have Ju:List.take l.length (an eY l)=an eY l:=Hf (by omega);have Ib:l.length≤(an eY l).length:=by omega
   have htp:l.take p=l:=Hf (by omega);by_cases hp:l.length=0
   ·have:l=[]:=H8 hp;subst this;have h0:¬(p:Int)<0:=by omega
    simp[iS,h0];exact⟨.inl ⟨rfl,rfl⟩,Ext.refl _ _⟩
   ·have vS:l.length≤1048576:=by omega
    have cL:¬l=[]:=fun e=>hp (by rw[e];rfl);simp[iS,bF,Ib,Ju,hp,vS,cL,htp];exact⟨.inr ⟨nx,rfl,by rw[gTSm],cI _,by omega⟩,E0 h nx _⟩
end Ln
namespace Ln
open Go.Sx Go
variable{C:cX}
def Wp(c d:AV)(l m:List Nat)(h:T ab)(nx:Key)(k:Nat)(aD:T AV)(h':T ab)(nx':Key):Prop:=
 ∃j:Nat,k=l.length-j∧j≤l.length∧ae (K 0) aD=some c∧ae (K 1) aD=some d∧ae (K 5) aD=some (I j)∧h'=h∧nx'=nx∧l.take j=m.take j
theorem J0(S:Fn C b5 kh){c d:AV}{l m:List Nat}{h:T ab}{nx:Key}(hc:py 1 eY c l)(hd:JS d m h nx)(hl:l.length≤1000000) :
  ax C b5 [c,d] h nx (fun o h' nx'=>o=.ret (.bool (decide (l=m)))∧Ext h nx h' nx'):=by
 refine S.call ?_;simp[kh];simp[q7];by_cases hlen:l.length=m.length
 ·have Fh:(l.length:Int)=m.length:=by omega
  have go:∀tm,ae (K 0) tm=some c→ae (K 1) tm=some d→ae (K 5) tm=some (I 0)→W C (.loop kA) (cz 0 (fy (il C ((av.ops gf).seq av.ret) (eO [RV.tmp (K 4)] fun o h' nx'=>o=Out.ret (AV.bool (decide (l=m)))∧Ext h nx h' nx')) (eO [RV.tmp (K 4)] fun o h' nx'=>o=Out.ret (AV.bool (decide (l=m)))∧Ext h nx h' nx'))) tm h nx:=by
   intro tm f0 f1 f5;refine W.hO (n:=l.length) (Wp c d l m h nx) ?_ ?_
   ·exact⟨0,by simp,by omega,f0,f1,by simpa using f5,rfl,rfl,by simp⟩
   ·rintro k dT h1 nx1 ⟨j,rfl,hj,f0,f1,f5,rfl,rfl,hn⟩;refine W.of ?_;simp[kA];rcases hc with⟨rfl,rfl⟩|rfl
    ·have hm:m=[]:=H8 (by simpa using hlen.symm);subst hm;simp at hj;subst hj;simp[kB,f0,f5];simp[gf];exact Ext.refl _ _
    ·simp[kB,f0,f5];refine⟨fun bF=>?_,fun hge=>?_⟩
     ·have eo:j<l.length:=by omega
      have Wq:j<m.length:=by omega
      have hr:=bE.rows l;have JW:=bE.rows m;have h3:1≤(an eY l).length-j:=by omega
      have h4:1≤(an eY m).length-j:=by omega
      have ec:=Qp eo;have ed:=Qp Wq;have er:=X5 Wq;have Qz:∀dR,ae (K 0) dR=some (.sl (an eY l) l.length 1 .any)→ae (K 1) dR=some d→ae (K 5) dR=some (.int .i64 (.lit (aX .i64 ((j:Int)+1))))→l[j]=m[j]→∃k,k<l.length-j∧Wp (.sl (an eY l) l.length 1 .any) d l m h1 nx1 k dR h1 nx1:=by intro dR g0 g1 g5 he;rw[aJ (by omega) (by omega)]at g5;exact⟨l.length-(j+1),by omega,j+1,rfl,by omega,g0,g1,by simpa using g5,rfl,rfl,by rw[Th eo,Th Wq,hn,he]⟩
      have bad:¬(l[j]:Int)=m[j]→l≠m:=fun h e=>h (by subst e;rfl);have L9:(l[j]:Int)=m[j]→l[j]=m[j]:=fun h=>by omega
      rcases hd with⟨rfl,rfl⟩|⟨fl,rfl⟩|⟨b,kk,rfl,hb,Wd⟩
      ·simp at Wq
      ·by_cases he:(l[j]:Int)=m[j]
       ·have he2:=L9 he;simp[dX,f0,f1,f5,eo,Wq,h3,h4,ec,ed,he];simp[kC,f5];exact Qz _ (by simp[f0]) (by simp[f1]) (by simp) he2
       ·have he2:¬l[j]=m[j]:=fun e=>he (by rw[e]);have cL:=bad he;simp[dX,f0,f1,f5,eo,Wq,h3,h4,ec,ed,he];simp[kD,cL];exact Ext.refl _ _
      ·by_cases he:(l[j]:Int)=m[j]
       ·have he2:=L9 he;simp[dX,f0,f1,f5,eo,Wq,h3,ec,hb,er,he];simp[kC,f5];exact Qz _ (by simp[f0]) (by simp[f1]) (by simp) he2
       ·have he2:¬l[j]=m[j]:=fun e=>he (by rw[e]);have cL:=bad he;simp[dX,f0,f1,f5,eo,Wq,h3,ec,hb,er,he];simp[kD,cL];exact Ext.refl _ _
     ·have eo:j=l.length:=by omega
      subst eo;simp[gf];rw[List.take_length,hlen,List.take_length]at hn;exact⟨hn,Ext.refl _ _⟩
  rcases id hc with⟨e1,e2⟩|e1
  ·have hm:m=[]:=H8 (by rw[←hlen,e2];rfl);subst hm;rcases id hd with⟨e3,_⟩|⟨fl,e3⟩|⟨b,kk,e3,_,_⟩
   all_goals
    simp[bO,e1,e3];simp[dY];refine go _ ?_ ?_ ?_
    ·simp[e1]
    ·simp[e3]
    ·simp
  ·rcases id hd with⟨e3,e4⟩|⟨fl,e3⟩|⟨b,kk,e3,_,_⟩
   ·have hl0:l=[]:=H8 (by rw[hlen,e4];rfl);subst hl0;subst e4;simp[bO,e1,e3];simp[dY];refine go _ ?_ ?_ ?_
    ·simp[e1]
    ·simp[e3]
    ·simp
   ·simp[bO,e1,e3,Fh];simp[dY];refine go _ ?_ ?_ ?_
    ·simp[e1]
    ·simp[e3]
    ·simp
   ·simp[bO,e1,e3,Fh];simp[dY];refine go _ ?_ ?_ ?_
    ·simp[e1]
    ·simp[e3]
    ·simp
 ·have cL:l≠m:=fun e=>hlen (by rw[e]);have Fh:¬(l.length:Int)=m.length:=by omega
  have fin:∀tm:T AV,xj C (fy (il C av.ret (eO [RV.tmp (K 4)] fun o h' nx'=>o=Out.ret (AV.bool (decide (l=m)))∧Ext h nx h' nx')) (eO [RV.tmp (K 4)] fun o h' nx'=>o=Out.ret (AV.bool (decide (l=m)))∧Ext h nx h' nx')) dd tm h nx:=by intro tm;simp[dd,cL];exact Ext.refl _ _
  rcases id hc with⟨e1,e2⟩|e1
  ·have yf:¬(0:Int)=m.length:=by rw[e2]at Fh;simpa using Fh
   have Wr:¬m=[]:=fun e=>by rw[e]at yf;simp at yf
   rcases id hd with⟨e3,e4⟩|⟨fl,e3⟩|⟨b,kk,e3,_,_⟩
   ·exact absurd e4 Wr
   all_goals
    simp[bO,e1,e3,yf];simp[dd,cL];exact Ext.refl _ _
  ·rcases id hd with⟨e3,e4⟩|⟨fl,e3⟩|⟨b,kk,e3,_,_⟩
   ·have QA:¬l=[]:=fun e=>cL (by rw[e,e4]);simp[bO,e1,e3,QA];simp[dd,cL];exact Ext.refl _ _
   all_goals
    simp[bO,e1,e3,Fh];simp[dd,cL];exact Ext.refl _ _
end Ln
namespace Ln
open Go.Sx Go
mutual
def eV:Vt→List AV
 |.mk k n a b l=>[I k,I n,.str a b,kV l]
def kV:List Vt→AV
 | []=>.nils
 |v ::l=>.sl (eV v++XF l) (l.length+1) 4 .any
def XF:List Vt→List AV
 | []=>[]
 |v ::l=>eV v++XF l
end
theorem qM(k n:Int)(a b:Nat)(l:List Vt):eV (.mk k n a b l)=[I k,I n,.str a b,kV l]:=by rw[eV]
theorem FM:∀l:List Vt,XF l=an eV l
 | []=>by rw[XF];rfl
 |v ::l=>by rw[XF,db,FM l]
theorem jz(l:List Vt):py 4 eV (kV l) l:=by
 cases l with
 |nil=>exact .inl ⟨by rw[kV],rfl⟩
 |cons v l=>exact .inr (by rw[kV,FM,db];rfl)
theorem HU{l m:List AV}(h1:AV.ey l=true)(h2:AV.ey m=true):AV.ey (l++m)=true:=Fm fun x hx=>by
 rcases List.mem_append.1 hx with h|h
 ·exact zb h1 x h
 ·exact zb h2 x h
mutual
theorem BZ:∀v:Vt,AV.ey (eV v)=true
 |.mk k n a b l=>by rw[eV];simp only[AV.ey,AV.lits,I,Bool.and_true,Bool.true_and];exact VD l
theorem VD:∀l:List Vt,AV.lits (kV l)=true
 | []=>by rw[kV];rfl
 |v ::l=>by rw[kV];simp only[AV.lits];have h1:=BZ v;have h2:=K9 l;exact HU h1 h2
theorem K9:∀l:List Vt,AV.ey (XF l)=true
 | []=>by rw[XF];rfl
 |v ::l=>by rw[XF];have h1:=BZ v;have h2:=K9 l;exact HU h1 h2
end
theorem VE(l:List Vt):(kV l).bH=true∧(kV l).cells=[kV l]:=(jz l).cell
theorem dq:Flat 4 eV where
 len v:=by cases v;rw[eV];rfl
 sg v y hy:=by
  cases v with
  |mk k n a b l=>
   rw[eV]at hy;simp at hy;rcases hy with rfl|rfl|rfl|rfl
   ·exact qp _ _
   ·exact qp _ _
   ·exact UG _ _
   ·exact(jz l).sg
 cell v y hy:=by
  cases v with
  |mk k n a b l=>rw[eV]at hy;simp at hy;rcases hy with rfl|rfl|rfl|rfl<;>first|rfl|exact(VE _).1
 lits v:=BZ v
namespace Vt
def k:Vt→Int|.mk k _ _ _ _=>k
def n:Vt→Int|.mk _ n _ _ _=>n
def a:Vt→Nat|.mk _ _ a _ _=>a
def b:Vt→Nat|.mk _ _ _ b _=>b
def kids:Vt→List Vt|.mk _ _ _ _ l=>l
end Vt
theorem La(v:Vt):eV v=[I v.k,I v.n,.str v.a v.b,kV v.kids]:=by cases v;rw[eV];rfl
theorem eV0(v:Vt):(eV v)[0]?=some (I v.k):=by rw[La];rfl
theorem Om(v:Vt):(eV v).head?=some (I v.k):=by rw[La];rfl
theorem eV1(v:Vt):(eV v)[1]?=some (I v.n):=by rw[La];rfl
theorem eV2(v:Vt):(eV v)[2]?=some (.str v.a v.b):=by rw[La];rfl
theorem TV(v:Vt):(eV v)[3]?=some (kV v.kids):=by rw[La];rfl
theorem TR(v:Vt)(h:0<(eV v).length):(eV v)[0]'h=I v.k:=by cases v;simp[eV,Vt.k]
theorem ew(v:Vt):(eV v).all AV.bH=true:=Gj.2 (dq.cell v)
theorem cZ(v:Vt):(eV v).length=4:=dq.len v
theorem dI(v:Vt):List.take 4 (eV v)=eV v:=Hf (by rw[cZ];omega)
theorem DM(v:Vt)(H:T ab):aO (aK 9998) (eV v) H=(eV v,H):=aG (dq.sg v)
theorem V9(v:Vt)(H:T ab):aO (aK 9999) (eV v) H=(eV v,H):=aG (dq.sg v)
theorem afQ(v:Vt):AV.beq (.agg (eV v)) (.agg (eV v))=true:=beq_refl _ (by simp only[AV.lits];exact BZ v)
theorem dh.up{w n0:Key}{bs:List Nat}{h h1 h':T ab}{nx nx1 nx':Key}{o:Out}(e:Ext h nx h1 nx1)(hn:n0.toNat≤nx.toNat)(W:dh w bs h1 nx1 n0 o h' nx'):dh w bs h nx n0 o h' nx':=by obtain⟨ho,c',W,hx,hf,hk⟩:=W;have n:=e.n;exact⟨ho,c',W,by omega,fun b hb=>by rw[hf b hb,e.g b (by omega)],(Ext.kp e w).trans (by omega) hk⟩
theorem lF(n:Nat):(vu n).length≤11:=by
 have:∀k n,(zj k n).length≤k+1:=by
  intro k
  induction k with
  |zero=>intro n;simp[zj]
  |succ k ih=>
   intro n;rw[zj];split
   ·simp
   ·have:=ih (n / 128);rw[Ci];omega
 exact this 10 n
variable{C:cX}(S:tq C)
include S
theorem BD{w:Key}{c:AV}{bs:List Nat}{h:T ab}{nx n0:Key}(Ws:WS w c bs h nx n0)(hl:bs.length≤100000){n:Int}(hn:eB n):ax C aM [.ptr w 0,I n] h nx (dh w (bs++vu (zz n)) h nx n0):=
 Ub S.sO S.eh (S.nr (by decide)) Ws hn.1 hn.2 hl
theorem Sb{w:Key}{c:AV}{bs:List Nat}{h:T ab}{nx n0:Key}(Ws:WS w c bs h nx n0)(hl:bs.length≤100000)(b:Bool) :
  ax C ef [.ptr w 0,.bool b] h nx (dh w (bs ++ [if b=true then 1 else 0]) h nx n0):=by
 have s1:=kTSu nx;refine S.ry.call ?_;simp[m7];have key:∀y:Nat,∃c' h' nx',appendTo 1 c [.int .u8 (.lit (y:Int))] 1 (ar nx (some (.cells [.int .u8 (.lit (y:Int))] .fix)) h) nx.succ=.val c' h' nx'∧c'.bH=true∧c'.cells=[c']∧ae w h'=some (.cells [c] .fix)∧WS w c' (bs ++ [y]) (ar w (some (.cells [c'] .fix)) h') nx' n0∧nx.toNat≤nx'.toNat∧(∀b:Key,b.toNat<n0.toNat→ae b (ar w (some (.cells [c'] .fix)) h')=ae b h)∧Iw w h nx (ar w (some (.cells [c'] .fix)) h'):=by intro y;obtain⟨c2,h2,aP,g,x1,x2,x3,W2,x5,x6,x7⟩:=(Ws.ext (E0 h nx (.cells [.int .u8 (.lit (y:Int))] .fix))).add [y] (by simp;omega);have Hs:an eY [y]=[.int .u8 (.lit (y:Int))]:=kU _ _;rw[Hs]at g;exact⟨c2,h2,aP,g,x1,x2,x3,W2,by omega,fun b hb=>by rw[x6 b hb,al (by have:=Ws.n;omega)],(Iw.new w h nx _).trans (by omega) x7⟩
 cases b with
 |true=>obtain⟨c2,h2,aP,g,x1,x2,x3,W2,x5,x6,x7⟩:=key 1;simp[-appendTo]at g;simp[jI];simp[-appendTo,pV,Ws.at_,g,x1,x2,x3];exact⟨rfl,c2,W2,x5,x6,x7⟩
 |false=>obtain⟨c2,h2,aP,g,x1,x2,x3,W2,x5,x6,x7⟩:=key 0;simp[-appendTo]at g;simp[jI];simp[-appendTo,pW,Ws.at_,g,x1,x2,x3];exact⟨rfl,c2,W2,x5,x6,x7⟩
theorem TS{w:Key}{c:AV}{bs:List Nat}{h:T ab}{nx n0:Key}(Ws:WS w c bs h nx n0)(hl:bs.length≤100000)(v:Vt)(hn:eB v.n) :
  ax C b6 [.ptr w 0,.agg (eV v)] h nx (dh w (bs++vu (zz v.n)) h nx n0):=by
 have rI:C.raw aM=false:=S.nr (by decide);have s1:=kTSu nx;refine S.mz.call ?_;simp[jE];simp[ma,ew,cZ];have e1:=E0 h nx (.cells (eV v) .fix);have b1:ae nx (ar nx (some (.cells (eV v) .fix)) h)=some (.cells (eV v) .fix):=by simp
 have W1:=Ws.ext e1;generalize ar nx (some (.cells (eV v) .fix)) h=h1 at *;have Lu:=eV1 v;simp[mb,b1,Lu,rI];refine(BD S W1 hl hn).mono ?_;rintro o h2 aP W2;have W3:=dh.up e1 Ws.n W2;obtain⟨rfl,hW⟩:=W2;simp;exact W3
theorem TU{w:Key}{c:AV}{bs:List Nat}{h:T ab}{nx n0:Key}(Ws:WS w c bs h nx n0)(hl:bs.length≤100000)(v:Vt) :
  ax C cA [.ptr w 0,.agg (eV v)] h nx (dh w (bs ++ [if v.n=1 then 1 else 0]) h nx n0):=by
 have rI:C.raw ef=false:=S.nr (by decide);have s1:=kTSu nx;refine S.nY.call ?_;simp[kF];simp[mA,ew,cZ];have e1:=E0 h nx (.cells (eV v) .fix);have b1:ae nx (ar nx (some (.cells (eV v) .fix)) h)=some (.cells (eV v) .fix):=by simp
 have W1:=Ws.ext e1;generalize ar nx (some (.cells (eV v) .fix)) h=h1 at *;have Lu:=eV1 v;simp[mB,b1,Lu,rI];have hb:=Sb S W1 hl (decide (v.n=1));simp at hb;refine hb.mono ?_;rintro o h2 aP W2;have W3:=dh.up e1 Ws.n W2;obtain⟨rfl,hW⟩:=W2;simp;exact W3
theorem TP{w:Key}{h:T ab}{nx:Key}:ax C dp [.ptr w 0] h nx (fun o h' nx'=>o=.ret (.agg [.fn b6 [.ptr w 0] [],.fn cA [.ptr w 0] [],.fn bw [.ptr w 0] [],.fn bX [.ptr w 0] []])∧Ext h nx h' nx'):=by have s1:=kTSu nx;refine S.nZ.call ?_;simp[kE];simp[mC];simp[mD];exact(E0 h nx _)
end Ln
