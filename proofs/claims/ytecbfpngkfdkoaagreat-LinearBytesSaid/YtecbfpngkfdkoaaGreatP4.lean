/- A part of the proof. No condition. -/
import Derived.Test.YtecbfpngkfdkoaaGreatP3
import Derived.ChangeKeysEq
import Derived.Lib.ConvBytes
import Derived.Orders
set_option linter.unusedSimpArgs false
set_option linter.unusedVariables false
set_option linter.unusedSectionVars false
namespace Go.Sx
open Go.RowKit
theorem Ht(oH:Nat):∀(r c:Nat),c<oH→Builtin.growBy oH r c≤oH+(oH+768) / 4
 |0,c,h=>by simp[Builtin.growBy];omega
 |r+1,c,h=>by
  simp only[Builtin.growBy];rw[if_neg (by omega)];by_cases h':c+(c+768) / 4<oH
  ·exact Ht oH r _ h'
  ·have:Builtin.growBy oH r (c+(c+768) / 4)=c+(c+768) / 4:=by
    cases r with
    |zero=>rfl
    |succ r=>simp only[Builtin.growBy];rw[if_pos (by omega)]
   rw[this];omega
theorem L3{oH cap:Nat}(h:cap<oH):Builtin.nextslicecap oH cap≤2*oH+1000:=by
 unfold Builtin.nextslicecap;split
 ·omega
 ·split
  ·omega
  ·have:=Ht oH 4 cap h;omega
section
variable{P:Program}{ρ:Nat→Int}{w0:W0}{w:World}{μ:Mu}{G:Key→Option ab}{nx:Key}{orc:dP}{nt:Nat}{tm:T AV}{H:T ab}{ev:Operand→Value}
structure Ox(P:Program)(t u e:TypeId)(i:TypeInfo)(z:Value):Prop where
 ht:P.underlying t=some (.slice e)
 hu:(∃e',P.underlying u=some (.slice e'))∨P.underlying u=some .string
 hi:P.info? e=some i
 hz:i.zero=some z
 pos:0<i.size
 zs:z.cells.size=i.size
 by_:i.bytes≤65536
theorem fe{t u e:TypeId}{i:TypeInfo}{z:Value}(hT:Ox P t u e i z)(ty:TypeId){base:Option Addr}{sLen sCap n:Nat}{x:Value}{us:Array Value}(hn:(Builtin.lenOf x).run P w=.ok n w)
  (hle:sLen+n≤sCap) (hc:(Builtin.firstCells i.size n x).run P w=.ok us w) :
  (Builtin.append_ #[t,u] ty #[.slice base sLen sCap,x]).run P w =
   (match base with|some a=>(storeCells (a.add (sLen*i.size)) us.toList).run P w|none=>.ok () w).andThen fun _ w'=>.ok (.slice base (sLen+n) sCap) w':=by
 rcases hT.hu with⟨e',h⟩|h
 all_goals
  simp only[Builtin.append_,List.getElem?_toArray,List.getElem?_cons_zero,List.getElem?_cons_succ,kb,aa hT.ht,gC,aQ hT.hi,aa h,nJ,Gy,if_false,hn,hle,if_true,Bool.not_false,hc];cases base<;>simp
theorem run_append_grow{t u e:TypeId}{i:TypeInfo}{z:Value}(hT:Ox P t u e i z)(ty:TypeId){base:Option Addr}{sLen sCap n:Nat}{x:Value}{us os:Array Value}(hn:(Builtin.lenOf x).run P w=.ok n w)
  (JU:sCap<sLen+n) (Qo:sLen+n≤1048576) (hc:∀d,(Builtin.firstCells i.size n x).run P {w with drawn:=d}=.ok us {w with drawn:=d})
  (ho:∀d,(Builtin.firstCells i.size sLen (.slice base sLen sCap)).run P {w with drawn:=d}=.ok os {w with drawn:=d}) :
  ∃cap,sLen+n≤cap∧(Builtin.append_ #[t,u] ty #[.slice base sLen sCap,x]).run P w =
   .ok (.slice (some ⟨w.heap.size,0,none⟩) (sLen+n) cap) ({w with drawn:=w.drawn+1}.alloc (.cells (os++us++Builtin.zeroCells z.cells (cap-(sLen+n))) e)):=by
 refine⟨(sLen+n)+w.tape w.drawn (.appendCap (sLen+n) sCap e)%(2^63-(sLen+n)),by omega,?_⟩;have h1:¬(sLen+n≤sCap):=by omega
 have h2:¬(((sLen+n:Nat):Int)>IntKind.i64.max∧(False∨i.bytes=0)):=by
  have:IntKind.i64.max=9223372036854775807:=by decide
  rw[this];omega
 have h3:¬(Builtin.nextslicecap (sLen+n) sCap*i.bytes>2^48):=by have a:=L3 JU;have:Builtin.nextslicecap (sLen+n) sCap*i.bytes≤2098152*65536:=Nat.mul_le_mul (by omega) hT.by_;omega
 have hch:(choose (.appendCap (sLen+n) sCap e)).run P w=.ok ((sLen+n)+w.tape w.drawn (.appendCap (sLen+n) sCap e)%(2^63-(sLen+n))) {w with drawn:=w.drawn+1}:=by simp[Question.forced,Question.cut]
 have JF:=ho (w.drawn+1);have Nb:=hc (w.drawn+1);rcases hT.hu with⟨e',h⟩|h
 all_goals
  simp only[Builtin.append_,List.getElem?_toArray,List.getElem?_cons_zero,List.getElem?_cons_succ,kb,aa hT.ht,gC,aQ hT.hi,aa h,nJ,Gy,if_false,hn,h1,Bool.not_false,gB hT.hi];rw[if_neg h2];simp only[kb,gB hT.hi,gC];rw[if_neg h3];simp only[kb,hch,gC,gB hT.hi,run_askRoom,JF,if_true,Nb,kR hT.hi hT.hz,iy,nJ]
structure E9(P:Program)(ρ:Nat→Int)(μ:Mu)(w:World)(sz:Nat)(x:Value)(new:List AV)(m:Nat)(us:Array Value):Prop where
 hn:(Builtin.lenOf x).run P w=.ok m w
 hc:∀d,(Builtin.firstCells sz m x).run P {w with drawn:=d}=.ok us {w with drawn:=d}
 hr:ao ρ μ new us.toList
 hl:new.length=m*sz
theorem E9.now{sz:Nat}{x:Value}{new:List AV}{m:Nat}{us:Array Value}(h:E9 P ρ μ w sz x new m us):(Builtin.firstCells sz m x).run P w=.ok us w:=h.hc w.drawn
theorem yi(z:Array Value)(n:Nat):(Builtin.zeroCells z n).size=n*z.size:=by simp[Builtin.zeroCells]
def Mu.mark(μ:Mu)(k:Key)(c base ext:Nat)(arr:Array Value):Mu:=⟨zm μ.loc k (some ⟨c,base,ext⟩),fun c' i=>match μ.fz c' i with|some v=>some v|none=>if c'=c∧i<base then arr[i]? else none⟩
theorem Mu.gE(μ:Mu)(k:Key)(c base ext:Nat)(arr:Array Value):(μ.mark k c base ext arr) k=some ⟨c,base,ext⟩:=dW _ _ _
theorem Mu.iZ(μ:Mu){k b:Key}(c base ext:Nat)(arr:Array Value)(h:b≠k):(μ.mark k c base ext arr) b=μ b:=bz _ _ h
theorem aL.mark{w':World}{n n':Nat}(h:aL P ρ w0 μ G n w)(k:Key)(c base ext:Nat){arr:Array Value}{elem:TypeId}(hk:μ k=none)(hw:Touch w w' c)(ho:w'.heap[c]?=some (.cells arr elem (0,0)))
  (hs:base+ext≤arr.size) (zS:∀b B' l',G b=some B'→μ b=some l'→l'.c≠c) (hold:∀i v,μ.fz c i=some v→arr[i]?=some v∧i<base) (mn:w0.heap.size≤c) (hn:n≤n') (Fa:k.toNat<n') :
  μ.le (μ.mark k c base ext arr)∧aL P ρ w0 (μ.mark k c base ext arr) (zm G k (some .tok)) n' w'∧(∀i v,i<base→arr[i]?=some v→(μ.mark k c base ext arr).fz c i=some v):=by
 have Qu:∀c' i,(μ.mark k c base ext arr).fz c' i=(match μ.fz c' i with|some v=>some v|none=>if c'=c∧i<base then arr[i]? else none):=fun _ _=>rfl;have hle:μ.le (μ.mark k c base ext arr):=by
  refine⟨fun b l e=>?_,fun c' i v e=>by rw[Qu,e]⟩;by_cases hb:b=k
  ·subst hb;rw[hk]at e;cases e
  ·rw[Mu.iZ _ _ _ _ _ hb];exact e
 have X9:c<w'.heap.size:=by
  rcases zE c w'.heap.size with h'|h'
  ·exact h'
  ·rw[Jn h']at ho;cases ho
 refine⟨hle,⟨?_,?_,?_,?_,?_,?_,hw.below h.below h.below.size mn,?_,?_,fun c' i v e=>hle.f _ _ _ (h.Tj c' i v e),?_,?_,Nat.le_trans h.dr hw.dr⟩,?_⟩
 ·intro b B' e;by_cases hb:b=k
  ·subst hb;rw[dW]at e;cases e;exact⟨_,_,Mu.gE _ _ _ _ _ _,ho,.tok _ arr elem hs⟩
  ·rw[bz _ _ hb]at e;obtain⟨l',o',h1,h2,h3⟩:=h.DI b B' e;refine⟨l',o',by rw[Mu.iZ _ _ _ _ _ hb];exact h1,?_,h3.mono hle⟩;rw[hw.other l'.c (zS b B' l' e h1) (h.Dc b l' h1)];exact h2
 ·intro b b' B1 B2 l1 l2 e1 e2 m1 m2 cL;by_cases hb:b=k
  ·subst hb;rw[Mu.gE]at m1;cases m1;have eA:b'≠b:=fun e=>cL e.symm;rw[bz _ _ eA]at e2;rw[Mu.iZ _ _ _ _ _ eA]at m2;exact fun e=>zS b' B2 l2 e2 m2 e.symm
  ·rw[bz _ _ hb]at e1;rw[Mu.iZ _ _ _ _ _ hb]at m1;by_cases eA:b'=k
   ·subst eA;rw[Mu.gE]at m2;cases m2;exact zS b B1 l1 e1 m1
   ·rw[bz _ _ eA]at e2;rw[Mu.iZ _ _ _ _ _ eA]at m2;exact h.sep b b' B1 B2 l1 l2 e1 e2 m1 m2 cL
 ·intro b l' e;by_cases hb:b=k
  ·subst hb;rw[Mu.gE]at e;cases e;exact X9
  ·rw[Mu.iZ _ _ _ _ _ hb]at e;exact GD (h.Dc b l' e) hw.size
 ·intro b B' l' e m;by_cases hb:b=k
  ·subst hb;rw[Mu.gE]at m;cases m;exact .inr mn
  ·rw[bz _ _ hb]at e;rw[Mu.iZ _ _ _ _ _ hb]at m;exact h.own b B' l' e m
 ·intro b hb;obtain⟨ext,he⟩:=h.GH b hb;exact⟨ext,hle.l _ _ he⟩
 ·intro b l' e;by_cases hb:b=k
  ·subst hb;exact Fa
  ·rw[Mu.iZ _ _ _ _ _ hb]at e;exact GD (h.new b l' e) hn
 ·intro c' i v e;rw[Qu]at e;cases hz:μ.fz c' i with
  |some u=>
   rw[hz]at e;cases e;by_cases hc:c'=c
   ·subst hc;exact⟨arr,elem,(0,0),ho,(hold i v hz).1⟩
   ·obtain⟨AG,Hm,f',h1,h2⟩:=h.LQ c' i v hz;have bF:c'<w.heap.size:=by
     rcases zE c' w.heap.size with h'|h'
     ·exact h'
     ·rw[Jn h']at h1;cases h1
    exact⟨AG,Hm,f',by rw[hw.other c' hc bF];exact h1,h2⟩
  |none=>
   rw[hz]at e;simp only at e;by_cases hc:c'=c∧i<base
   ·rw[if_pos hc]at e;rw[hc.1];exact⟨arr,elem,(0,0),ho,e⟩
   ·rw[if_neg hc]at e;cases e
 ·intro b B' l' n e m sf i hi;rw[Qu];by_cases hb:b=k
  ·subst hb;rw[dW]at e;cases e;rw[Mu.gE]at m;cases m;simp only[ab.lo,bB]at sf;subst sf;cases hz:μ.fz c i with
   |some u=>exact absurd (hold i u hz).2 (by show ¬i<base;exact Nat.not_lt.2 hi)
   |none=>have:¬(c=c∧i<base):=fun h=>absurd h.2 (Nat.not_lt.2 hi);show(if c=c∧i<base then arr[i]? else none)=none;rw[if_neg this]
  ·rw[bz _ _ hb]at e;rw[Mu.iZ _ _ _ _ _ hb]at m;have cL:=zS b B' l' e m;rw[h.Qv b B' l' n e m sf i hi];simp[cL]
 ·intro c' i v e;rw[Qu]at e;cases hz:μ.fz c' i with
  |some u=>rw[hz]at e;cases e;exact h.Tk c' i v hz
  |none=>
   rw[hz]at e;simp only at e;by_cases hc:c'=c∧i<base
   ·rw[hc.1];exact .inl mn
   ·rw[if_neg hc]at e;cases e
 ·intro b L l' e m;by_cases hb:b=k
  ·subst hb;rw[Mu.gE]at m;cases m;exact .inl mn
  ·rw[bz _ _ hb]at e;rw[Mu.iZ _ _ _ _ _ hb]at m;rcases h.Tl b L l' e m with h1|h1
   ·exact .inl h1
   ·refine .inr fun AG ee f i v ha hv=>hle.f _ _ _ (h1 AG ee f i v ?_ hv);rw[←hw.other l'.c (zS b _ l' e m) (h.Dc b l' m)];exact ha
 ·intro i v hi hv;rw[Qu];cases hz:μ.fz c i with
  |some u=>have:=(hold i u hz).1;rw[hv]at this;cases this;rfl
  |none=>simp[hi,hv]
theorem L4(c base ext:Nat)(arr:Array Value)(B B':Option ab):Kept H (ar nx B' H) nx nx.succ μ (μ.mark nx c base ext arr) G (zm G nx B):=by have hs:=kTSu nx;exact⟨fun b _ hl=>bz _ _ (ne_of_lt hl),fun b hl=>Mu.iZ _ _ _ _ _ (ne_of_lt hl),fun b hb hl=>by rw[bQ _ _ _ _ (ne_of_lt hl)];exact hb,by omega⟩
theorem JV(hM:aL P ρ w0 μ G nx.toNat w){t u e:TypeId}{i:TypeInfo}{z:Value}(hT:Ox P t u e i z){L:List AV}{vs:Array Value}(hL:ao ρ μ L vs.toList){len cap:Nat}(hlen:vs.size=len*i.size)(qZ:len≤cap) :
  ∃μ',μ.le μ'∧aL P ρ w0 μ' (zm G nx (some .tok)) nx.succ.toNat ({w with drawn:=w.drawn+1}.alloc (.cells (vs++Builtin.zeroCells z.cells (cap-len)) e))∧
   aA ρ μ' (.sl L len i.size (.tok nx)) (.slice (some ⟨w.heap.size,0,none⟩) len cap)∧(∀(B B':Option ab) (H:T ab) (G:Key→Option ab),Kept H (ar nx B' H) nx nx.succ μ μ' G (zm G nx B)):=by
 have hs:=kTSu nx;have hk:=hM.lQ;have PA:(Builtin.zeroCells z.cells (cap-len)).size=(cap-len)*i.size:=by rw[yi,hT.zs]
 obtain⟨h1,h2,h3⟩:=(hM.drawn (w.drawn+1) (Nat.le_succ _)).mark (w':={w with drawn:=w.drawn+1}.alloc (.cells (vs++Builtin.zeroCells z.cells (cap-len)) e)) nx w.heap.size (len*i.size) ((cap-len)*i.size) (arr:=vs++Builtin.zeroCells z.cells (cap-len)) (elem:=e) hk
  (Touch.alloc _ _) (by show(w.heap.push _)[w.heap.size]?=_;simp) (by rw[Array.size_append,PA,hlen];exact cI _)
  (fun b B' l' _ m=>Nat.ne_of_lt (hM.Dc b l' m)) (fun j v hv=>by rw[hM.L5 j]at hv;cases hv) hM.below.size (n':=nx.succ.toNat) (by omega) (by omega)
 refine⟨_,h1,h2,?_,fun B B' H G=>L4 _ _ _ _ B B'⟩;refine .sl L len i.size _ cap w.heap.size 0 _ vs.toList (hL.mono h1) ?_ qZ (.inr rfl) ?_ ?_
 ·rw[hL.length];simpa using hlen
 ·intro j v hv;have hj:j<vs.size:=by
   rcases zE j vs.size with h'|h'
   ·exact h'
   ·rw[JE (by simpa using h')]at hv;cases hv
  rw[Nat.zero_add];refine h3 j v (by omega) ?_;rw[Array.getElem?_append_left hj];simpa using hv
 ·show _=some (⟨w.heap.size,0+len*i.size,(cap-len)*i.size⟩:Loc);rw[Nat.zero_add];exact Mu.gE _ _ _ _ _ _
theorem Ct(hM:aL P ρ w0 μ G nx.toNat w){t u e:TypeId}{i:TypeInfo}{z:Value}(hT:Ox P t u e i z){L:List AV}{vs:Array Value}(hL:ao ρ μ L vs.toList){len cap:Nat}(hlen:vs.size=len*i.size)(qZ:len≤cap) :
  ∃μ',μ.le μ'∧aL P ρ w0 μ' (zm G nx (some (.cells L .part))) nx.succ.toNat ({w with drawn:=w.drawn+1}.alloc (.cells (vs++Builtin.zeroCells z.cells (cap-len)) e))∧
   aA ρ μ' (.slice nx 0 len i.size) (.slice (some ⟨w.heap.size,0,none⟩) len cap)∧(∀(B B':Option ab) (H:T ab) (G:Key→Option ab),Kept H (ar nx B' H) nx nx.succ μ μ' G (zm G nx B)):=by
 have hs:=kTSu nx;have hk:=hM.lQ;have PA:(Builtin.zeroCells z.cells (cap-len)).size=(cap-len)*i.size:=by rw[yi,hT.zs]
 have oq:(vs++Builtin.zeroCells z.cells (cap-len)).size=cap*i.size:=by rw[Array.size_append,PA,hlen,←Nat.add_mul];congr 1;omega
 have hLl:L.length=len*i.size:=by rw[hL.length];simpa using hlen
 have PM:len*i.size≤cap*i.size:=Nat.mul_le_mul_right _ qZ;have hle:μ.le (μ.put nx ⟨w.heap.size,0,cap*i.size⟩):=Mu.qH (.inl hk);have hb:zn P ρ (μ.put nx ⟨w.heap.size,0,cap*i.size⟩) (.cells L .part) ⟨w.heap.size,0,cap*i.size⟩ (.cells (vs++Builtin.zeroCells z.cells (cap-len)) e (0,0)):=by
  refine .cells L .part _ _ e (0,0) ?_ (by rw[oq];simp) (by show L.length≤cap*i.size;omega) (fun _=>rfl) (fun h=>absurd rfl h);intro j a ha;obtain⟨v,hv,hr⟩:=hL.get j a ha;refine⟨v,?_,hr.mono hle⟩;have hj:j<vs.size:=by
   rcases zE j vs.size with h'|h'
   ·exact h'
   ·rw[JE (by simpa using h')]at hv;cases hv
  show(vs++_)[0+j]?=some v;rw[Nat.zero_add,Array.getElem?_append_left hj];simpa using hv
 obtain⟨g1,g2⟩:=(hM.drawn (w.drawn+1) (Nat.le_succ _)).alloc nx (.cells L .part) (.cells (vs++Builtin.zeroCells z.cells (cap-len)) e) (cap*i.size) hk hb (nx':=nx.succ.toNat) (by omega) (by omega);refine⟨_,g1,g2,?_,fun B B' H G=>uK _ _ _⟩;exact .slice nx 0 len i.size cap _ _ (Mu.cC _ _ _) (by simp) qZ (.inr (by simp))
theorem Fb(hM:aL P ρ w0 μ G nx.toNat w)(hH:HSub H G){t u e:TypeId}{i:TypeInfo}{z:Value}(hT:Ox P t u e i z)(ty:TypeId){s:AV}{sv xv:Value}(hs:aA ρ μ s sv){new:List AV}{m:Nat}{us:Array Value}
  (hx:E9 P ρ μ w i.size xv new m us) {a:AV} {H':T ab} {nx':Key} (h:appendTo i.size s new m H nx=.val a H' nx') :
  ∃v w' μ' G',(Builtin.append_ #[t,u] ty #[sv,xv]).run P w=.ok v w'∧aA ρ μ' a v∧μ.le μ'∧aL P ρ w0 μ' G' nx'.toNat w'∧HSub H' G'∧Kept H H' nx nx' μ μ' G G':=by
 have hss:=kTSu nx;have DO:us.size=m*i.size:=by have:=hx.hr.length;rw[hx.hl]at this;simpa using this.symm
 have Iz:=hT.pos;unfold appendTo at h;split at h
 ·cases hs;cases yf:Nat.beq m 0 with
  |true=>rw[yf]at h;simp only[cond_true,OR.val.injEq]at h;obtain⟨rfl,rfl,rfl⟩:=h;have hm:=mo yf;subst hm;refine⟨.slice none 0 0,w,μ,G,?_,.nils,μ.le_refl,hM,hH,Kept.refl _ _ _ _⟩;rw[fe hT ty (base:=none) (sLen:=0) (sCap:=0) hx.hn (cI _) hx.now];rfl
  |false=>
   rw[yf]at h;simp only[cond_false]at h;have acn:m≠0:=by intro e;subst e;cases yf
   cases hms:Nat.ble m 1048576 with
   |false=>rw[hms]at h;cases h
   |true=>
    rw[hms]at h;rw[Nat.ble_eq]at hms;simp only[cond_true,sTCe,OR.val.injEq]at h;obtain⟨rfl,rfl,rfl⟩:=h;obtain⟨cap,qZ,cR⟩:=run_append_grow (P:=P) (w:=w) hT ty (base:=none) (sLen:=0) (sCap:=0) (os:=#[]) hx.hn (by omega) (by omega) hx.hc (by intro d;rfl);simp only[Nat.zero_add]at qZ cR;obtain⟨μ',g1,g2,g3,g4⟩:=Ct hM hT hx.hr DO qZ;refine⟨_,_,_,_,cR,g3,g1,?_,hH.set nx _,g4 _ _ _ _⟩;have:(#[]:Array Value)++us=us:=by simp
    rw[this];exact g2
 ·rename_i L len Bj fl;cases yf:Nat.beq m 0 with
  |true=>
   rw[yf]at h;simp only[cond_true,OR.val.injEq]at h;obtain⟨rfl,rfl,rfl⟩:=h;have hm:=mo yf;subst hm;have Ok:us=#[]:=by apply Array.eq_empty_of_size_eq_zero;simpa using DO
   subst Ok;have hs0:=hs;cases hs with|sl _ _ _ _ cap c o ad vs qt hn hle ja hf hg=>
   refine⟨.slice (some ad) len cap,w,μ,G,?_,hs0,μ.le_refl,hM,hH,Kept.refl _ _ _ _⟩;rw[fe hT ty (base:=some ad) (sLen:=len) (sCap:=cap) hx.hn (by omega) hx.now];simp[storeCells]
  |false=>
   rw[yf]at h;simp only[cond_false]at h;have acn:m≠0:=by intro e;subst e;cases yf
   cases Oy:(Nat.beq i.size Bj&&Nat.ble (len+m) 1048576&&new.all AV.bH)with
   |false=>rw[Oy]at h;cases h
   |true=>
    rw[Oy]at h;simp only[cond_true]at h;simp only[fa,Nat.ble_eq]at Oy;obtain⟨⟨Fc,Qo⟩,L6⟩:=Oy;have Fc:=mo Fc;subst Fc;split at h
    ·cases h
    ·rename_i b;split at h
     ·rename_i acq;simp only[appC_eq,sTCe,OR.val.injEq]at h;obtain⟨rfl,rfl,rfl⟩:=h;cases hs with|sl _ _ _ _ cap c o ad vs qt hn hle ja hf hg=>
      have hg:μ b=some ⟨c,o+len*i.size,(cap-len)*i.size⟩:=hg;have hgb:=hH _ _ acq;have LD:=qt.length;obtain⟨lb,ob,q1,q2,q3⟩:=hM.DI b _ hgb;rw[hg]at q1;cases q1;cases q3 with|tok _ arr elem hsb=>
      have hsb:o+len*i.size+(cap-len)*i.size≤arr.size:=hsb;have q2:w.heap[c]?=some (.cells arr elem (0,0)):=q2;have Uf:aL P ρ w0 μ (zm G b none) nx.toNat w:=hM.sub (fun b' B' e'=>by
       by_cases hb:b'=b
       ·subst hb;rw[dW]at e';cases e'
       ·rw[bz _ _ hb]at e';exact e')
      have ne:∀b',ae b' H=none→b'≠b:=fun b' h0 e0=>by rw[e0,acq]at h0;cases h0
      have Fe:∀(μ':Mu) x y,(∀b':Key,b'.toNat<nx.toNat→μ' b'=μ b')→Kept H (ar nx y (ar b none H)) nx nx.succ μ μ' G (zm (zm G b none) nx x):=by
       intro μ' x y fY;exact⟨fun b' eA bF=>by rw[bz _ _ (ne_of_lt bF),bz _ _ (ne b' eA)],fY,
        fun b' eA bF=>by rw[bQ _ _ _ _ (ne_of_lt bF),bQ _ _ _ _ (ne b' eA)];exact eA,by omega⟩
      have Hu:ao ρ μ (L++new) (vs++us.toList):=qt.append hx.hr;by_cases PB:len+m≤cap
      ·have ja:ad=⟨c,o,none⟩:=ja.resolve_left (by omega);subst ja;have Ug:=AN hx.hr L6;have anp:(cap-len)*i.size=cap*i.size-len*i.size:=Nat.mul_sub_right_distrib _ _ _;have hmul:(len+m)*i.size≤cap*i.size:=Nat.mul_le_mul_right _ PB;have Ya:(len+m)*i.size=len*i.size+m*i.size:=Nat.add_mul _ _ _;have X9:len*i.size≤cap*i.size:=Nat.mul_le_mul_right _ hle;obtain⟨w',e1,e2,e3,e4⟩:=lR P c (o+len*i.size) elem us.toList 0 w arr q2 (by simp[DO];omega) Ug;have mn:w0.heap.size≤c:=(hM.own b _ _ hgb hg).resolve_left (by simp[ab.ro]);have Qw:∀j v,μ.fz c j=some v→arr[j]?=some v∧j<o+len*i.size:=by
        intro j v hj;constructor
        ·obtain⟨AG,Hm,f',x1,x2⟩:=hM.LQ _ _ _ hj;rw[q2]at x1;cases x1;exact x2
        ·rcases zE j (o+len*i.size)with h'|h'
         ·exact h'
         ·have:=hM.Qv b _ _ (o+len*i.size) hgb hg rfl j h';rw[this]at hj;cases hj
       have acr:(cap-(len+m))*i.size=cap*i.size-(len+m)*i.size:=Nat.mul_sub_right_distrib _ _ _;obtain⟨g1,g2,g3⟩:=Uf.mark (w':=w') nx c (o+(len+m)*i.size) ((cap-(len+m))*i.size) hM.lQ e2 e4 (by rw[jQ];omega)
        (fun b' B' l' gg mm=>by
         by_cases nI:b'=b
         ·subst nI;rw[dW]at gg;cases gg
         ·rw[bz _ _ nI]at gg;exact hM.sep b' b B' _ l' _ gg hgb mm hg nI)
        (fun j v hj=>by obtain⟨y1,y2⟩:=Qw j v hj;refine⟨?_,by omega⟩;rw[gb _ _ _ _ (by simp[DO];omega),if_neg (by omega)];exact y1) mn (n':=nx.succ.toNat) (by omega) (by omega)
       refine⟨.slice (some ⟨c,o,none⟩) (len+m) cap,w',_,_,?_,?_,g1,g2,(hH.set b none).set nx _,Fe _ _ _ (fun b' bF=>Mu.iZ _ _ _ _ _ (ne_of_lt bF))⟩
       ·rw[fe hT ty (base:=some ⟨c,o,none⟩) hx.hn PB hx.now];simp only[lS,e1,gC]
       ·refine .sl _ _ _ _ cap c o _ (vs++us.toList) (Hu.mono g1) ?_ PB (.inr rfl) ?_ ?_
        ·rw[fO,hn,hx.hl,Ya]
        ·intro j v hj;by_cases hj1:j<vs.length
         ·rw[List.getElem?_append_left hj1]at hj;exact g1.f _ _ _ (hf j v hj)
         ·rw[List.getElem?_append_right (by omega)]at hj;have eo:j-vs.length<us.size:=by
           rcases zE (j-vs.length) us.size with h'|h'
           ·exact h'
           ·rw[JE (by simpa using h')]at hj;cases hj
          refine g3 _ _ (by omega) ?_;rw[gb _ _ _ _ (by simp[DO];omega),if_pos (by simp;omega)];rw[←hj];congr 1;omega
        ·exact Mu.gE _ _ _ _ _ _
      ·have yj:∀d,(Builtin.firstCells i.size len (.slice (some ad) len cap)).run P {w with drawn:=d}=.ok vs.toArray {w with drawn:=d}:=by
        intro d;simp only[Builtin.firstCells];by_cases h0:len=0
        ·subst h0;have:vs=[]:=H8 (by omega);subst this;simp[loadCells,loadCellsFrom]
        ·have ja:ad=⟨c,o,none⟩:=ja.resolve_left (by omega);subst ja;rw[Er (hM.Qx d) hf (by omega),Hf (by omega)]
       obtain⟨Uh,Hv,cR⟩:=run_append_grow (P:=P) (w:=w) hT ty (base:=some ad) hx.hn (by omega) Qo hx.hc yj;have JW:ao ρ μ (L++new) (vs.toArray++us).toList:=by simpa using Hu
       have Oz:(vs.toArray++us).size=(len+m)*i.size:=by rw[Array.size_append,DO,Nat.add_mul];simp;omega
       obtain⟨μ',g1,g2,g3,g4⟩:=JV Uf hT JW Oz Hv;refine⟨_,_,_,_,cR,g3,g1,g2,(hH.set b none).set nx _,Fe _ _ _ (fun b' bF=>(g4 none none H G).m b' bF)⟩
     ·cases h
 ·rename_i b off len Bj;cases Oy:(Nat.beq i.size Bj&&Nat.ble (len+m) 1048576&&new.all AV.bH)with
  |false=>rw[Oy]at h;cases h
  |true=>
   rw[Oy]at h;simp only[cond_true]at h;simp only[fa,Nat.ble_eq]at Oy;obtain⟨⟨Fc,Qo⟩,L6⟩:=Oy;have Fc:=mo Fc;subst Fc;have hs0:=hs;cases hs with|slice _ _ _ _ cap l ad fY qZ hlen ja=>
   have Ug:=AN hx.hr L6;have af7:∀(L:List AV) (ck:CK),ae b H=some (.cells L ck)→cap<len+m→len*i.size≤(L.drop off).length→
     ∃v w' μ' G',(Builtin.append_ #[t,u] ty #[.slice (some ad) len cap,xv]).run P w=.ok v w'∧aA ρ μ' (.slice nx 0 (len+m) i.size) v∧μ.le μ'∧
      aL P ρ w0 μ' G' nx.succ.toNat w'∧HSub (ar nx (some (.cells ((aO (aK 9999) ((L.drop off).take (len*i.size)) H).1++new) .part)) (aO (aK 9999) ((L.drop off).take (len*i.size)) H).2) G'∧Kept H (ar nx (some (.cells ((aO (aK 9999) ((L.drop off).take (len*i.size)) H).1++new) .part)) (aO (aK 9999) ((L.drop off).take (len*i.size)) H).2) nx nx.succ μ μ' G G':=by
    intro L ck hL JU hle;have hg:=hH _ _ hL;obtain⟨l',arr,elem,fz,k1,k2,k3,k4,k5,k7⟩:=hM.cells hg;rw[fY]at k1;cases k1;have yj:∀d,(Builtin.firstCells i.size len (.slice (some ad) len cap)).run P {w with drawn:=d}=.ok ((arr.toList.drop (l.base+off)).take (len*i.size)).toArray {w with drawn:=d}:=by
     intro d;simp only[Builtin.firstCells];by_cases h0:len=0
     ·subst h0;simp[loadCells,loadCellsFrom]
     ·have ja:ad=⟨l.c,l.base+off,none⟩:=ja.resolve_left (by omega);subst ja;refine gD P {w with drawn:=d} l.c (l.base+off) arr elem fz k2 (len*i.size) ?_;simp at hle;have:0<len*i.size:=Nat.mul_pos (by omega) Iz;omega
    have qt:ao ρ μ ((L.drop off).take (len*i.size)) ((arr.toList.drop (l.base+off)).take (len*i.size)):=by
     by_cases h0:len=0
     ·subst h0;simp;exact .nil
     ·have:0<len*i.size:=Nat.mul_pos (by omega) Iz;simp at hle;exact qC k3 (by omega) (by omega)
    obtain⟨μ1,G1,f1,r1⟩:=kN (vT 9999) _ _ μ G H hM hH qt;obtain⟨Uh,Hv,cR⟩:=run_append_grow (P:=P) (w:=w) hT ty (base:=some ad) hx.hn JU Qo hx.hc yj;have JW:ao ρ μ1 ((aO (aK 9999) ((L.drop off).take (len*i.size)) H).1++new) (((arr.toList.drop (l.base+off)).take (len*i.size)).toArray++us).toList:=by simpa using r1.append (hx.hr.mono f1.le)
    have Oz:(((arr.toList.drop (l.base+off)).take (len*i.size)).toArray++us).size=(len+m)*i.size:=by
     have:=JW.length;rw[fO,wb,LF,hx.hl]at this;have e:min (len*i.size) (L.drop off).length=len*i.size:=by omega
     rw[e,←Nat.add_mul]at this;simpa using this.symm
    obtain⟨μ',g1,g2,g3,g4⟩:=Ct f1.M hT JW Oz Hv;exact⟨_,_,μ',_,cR,g3,Mu.le_trans f1.le g1,g2,f1.hs.set nx _,f1.kept.trans (g4 _ _ _ _)⟩
   have acu:∀(L:List AV) (ck:CK),ck≠.part→ae b H=some (.cells L ck)→¬(off+(len+m)*i.size≤L.length)→cap<len+m:=by
    intro L ck L7 hL hle;obtain⟨l',arr,elem,fz,k1,k2,k3,k4,k5,k7,k8⟩:=hM.cells (hH _ _ hL);rw[fY]at k1;cases k1;have k8:=k8 L7;rcases zE cap (len+m)with h'|h'
    ·exact h'
    ·have:(len+m)*i.size≤cap*i.size:=Nat.mul_le_mul_right _ h';omega
   have Wl:∀(L:List AV) (ck:CK),ck≠.part→ae b H=some (.cells L ck)→¬(off+(len+m)*i.size≤L.length)→
     (sD (len*i.size) (pB off L) (OR.bad 14) (fun Qk=>Cj (TH 9999) Qk H fun Qk h=>GF Qk new (fun r=>pw nx (some (.cells r .part)) h fun h=>.val (.slice nx 0 (len+m) i.size) h nx.succ)))=.val a H' nx'→
     ∃v w' μ' G',(Builtin.append_ #[t,u] ty #[.slice (some ad) len cap,xv]).run P w=.ok v w'∧aA ρ μ' a v∧μ.le μ'∧aL P ρ w0 μ' G' nx'.toNat w'∧HSub H' G'∧Kept H H' nx nx' μ μ' G G':=by
    intro L ck L7 hL hle h;simp only[takeC_eq,dropL_eq,qm (xN 9999),appC_eq,sTCe]at h;split at h
    ·rename_i acv;simp only[OR.val.injEq]at h;obtain⟨rfl,rfl,rfl⟩:=h;exact af7 L ck hL (acu L ck L7 hL hle) acv
    ·cases h
   split at h
   ·rename_i L hL;cases hle:Nat.ble (off+(len+m)*i.size) (lenL L)with
    |true=>
     rw[hle]at h;rw[lenL_eq,Nat.ble_eq]at hle;simp only[cond_true]at h;rw[putC_eq]at h;split at h
     ·rename_i Ib;rw[sTCe]at h;simp only[OR.val.injEq]at h;obtain⟨rfl,rfl,rfl⟩:=h;have hg:=hH _ _ hL;obtain⟨l',arr,elem,fz,k1,k2,k3,k4,k5,k7,k8⟩:=hM.cells hg;rw[fY]at k1;cases k1;have k8:=k8 (by simp);have PB:len+m≤cap:=by
       have:(len+m)*i.size≤cap*i.size:=by omega
       exact Nat.le_of_mul_le_mul_right this Iz
      obtain⟨w',e1,e2,e3⟩:=Nc hM hg (by simp) fY hx.hr Ug (off:=off+len*i.size) Ib;have dH:(storeCells (ad.add (len*i.size)) us.toList).run P w=.ok () w':=by
       rcases ja with h0|h0
       ·have yf:m=0:=by omega
        subst yf;have:us=#[]:=by apply Array.eq_empty_of_size_eq_zero;simpa using DO
        subst this;exact e1
       ·subst h0;rw[lS,Nat.add_assoc];exact e1
      refine⟨.slice (some ad) (len+m) cap,w',_,_,?_,.slice b off _ _ cap l ad (Mu.cC _ _ _) qZ PB ja,e2,e3,hH.set b _,kQ hL fY _ _⟩;rw[fe hT ty (base:=some ad) hx.hn PB hx.now];simp only[dH,gC]
     ·cases h
    |false=>
     rw[hle]at h;have hle:¬(off+(len+m)*i.size≤L.length):=by rw[←Nat.ble_eq,←lenL_eq,hle];simp
     exact Wl L .fix (by simp) hL hle h
   ·rename_i L hL;cases hle:Nat.ble (off+(len+m)*i.size) (lenL L)with
    |true=>rw[hle]at h;cases h
    |false=>
     rw[hle]at h;have hle:¬(off+(len+m)*i.size≤L.length):=by rw[←Nat.ble_eq,←lenL_eq,hle];simp
     exact Wl L .ro (by simp) hL hle h
   ·rename_i L hL;have hg:=hH _ _ hL;obtain⟨l',arr,elem,fz,k1,k2,k3,k4,k5,k7,k8⟩:=hM.cells hg;rw[fY]at k1;cases k1;have k7:=k7 (by simp);subst k7;cases yf:Nat.beq m 0 with
    |true=>
     rw[yf]at h;simp only[cond_true,OR.val.injEq]at h;obtain⟨rfl,rfl,rfl⟩:=h;have hm:=mo yf;subst hm;have Ok:us=#[]:=by apply Array.eq_empty_of_size_eq_zero;simpa using DO
     subst Ok;refine⟨.slice (some ad) len cap,w,μ,G,?_,hs0,μ.le_refl,hM,hH,Kept.refl _ _ _ _⟩;rw[fe hT ty (base:=some ad) (sLen:=len) (sCap:=cap) hx.hn (by omega) hx.now];simp[storeCells]
    |false=>
     rw[yf]at h;simp only[cond_false]at h;have acn:m≠0:=by intro e;subst e;cases yf
     cases Yb:((Nat.beq off 0 || !Dg i.size)&&Nat.beq (off+len*i.size) (lenL L))with
     |false=>rw[Yb]at h;cases h
     |true=>
      rw[Yb]at h;simp only[cond_true]at h;simp only[fa]at Yb;have Hw:=Yb.1;have hLl:=mo Yb.2;rw[lenL_eq]at hLl;have Uf:aL P ρ w0 μ (zm G b none) nx.toNat w:=hM.sub (fun b' B' e'=>by
       by_cases hb:b'=b
       ·subst hb;rw[dW]at e';cases e'
       ·rw[bz _ _ hb]at e';exact e')
      have ne:∀b',ae b' H=none→b'≠b:=fun b' h0 e0=>by rw[e0,hL]at h0;cases h0
      have Fe:∀(μ':Mu) x y,(∀b':Key,b'.toNat<nx.toNat→μ' b'=μ b')→Kept H (ar nx y (ar b none H)) nx nx.succ μ μ' G (zm (zm G b none) nx x):=by
       intro μ' x y fY;exact⟨fun b' eA bF=>by rw[bz _ _ (ne_of_lt bF),bz _ _ (ne b' eA)],fY,
        fun b' eA bF=>by rw[bQ _ _ _ _ (ne_of_lt bF),bQ _ _ _ _ (ne b' eA)];exact eA,by omega⟩
      have Wm:ao ρ μ (L.drop off) ((arr.toList.drop (l.base+off)).take (len*i.size)):=by have:=qC k3 (off:=off) (n:=len*i.size) (by omega) (by omega);rw[Hf (by simp;omega)]at this;exact this
      have Hu:ao ρ μ (L.drop off++new) ((arr.toList.drop (l.base+off)).take (len*i.size)++us.toList):=Wm.append hx.hr;have LD:=Wm.length;rw[List.length_drop]at LD;by_cases PB:len+m≤cap
      ·have ja:ad=⟨l.c,l.base+off,none⟩:=ja.resolve_left (by omega);subst ja;have hmul:(len+m)*i.size≤cap*i.size:=Nat.mul_le_mul_right _ PB;have Ya:(len+m)*i.size=len*i.size+m*i.size:=Nat.add_mul _ _ _;obtain⟨w',e1,e2,e3,e4⟩:=lR P l.c (l.base+off+len*i.size) elem us.toList 0 w arr k2 (by simp[DO];omega) Ug;have mn:w0.heap.size≤l.c:=(hM.own b _ _ hg fY).resolve_left (by simp[ab.ro]);have Wn:∀j,μ.fz l.c j=none:=hM.VU hg fY rfl;cases hkw:Dg i.size with
       |true=>
        rw[hkw]at h Hw;simp only[Bool.not_true,Bool.or_false]at Hw;have Yc:=mo Hw;subst Yc;simp only[Nat.add_zero,Nat.zero_add,List.drop_zero]at *;simp only[cond_true,appC_eq,sTCe,OR.val.injEq]at h;obtain⟨rfl,rfl,rfl⟩:=h;have xQ:μ.le (μ.put nx l):=Mu.qH (.inl hM.lQ);have anr:L.length=len*i.size:=hLl.symm;have hB:zn P ρ (μ.put nx l) (.cells (L++new) .part) l (.cells (iz arr (l.base+len*i.size) us.toList) elem (0,0)):=by
         refine .cells _ .part _ _ elem (0,0) ?_ (by rw[jQ];omega) (by rw[fO,hx.hl];omega) (fun _=>rfl) (fun h=>absurd rfl h);intro j a ha;obtain⟨v,hv,hr⟩:=Hu.get j a ha;refine⟨v,?_,hr.mono xQ⟩;have eo:j<len*i.size+us.size:=by
          rcases zE j (len*i.size+us.size)with h'|h'
          ·exact h'
          ·rw[JE (by simp;omega)]at hv;cases hv
         rw[gb _ _ _ _ (by simp[DO];omega)];by_cases hj1:j<len*i.size
         ·rw[if_neg (by omega)];rw[List.getElem?_append_left (by omega),List.getElem?_take_of_lt hj1,List.getElem?_drop]at hv;simpa using hv
         ·rw[if_pos (by simp;omega)];rw[List.getElem?_append_right (by omega)]at hv;rw[←hv];congr 1;omega
        obtain⟨g1,g2⟩:=Uf.put (w':=w') nx (.cells (L++new) .part) l _ (.inl hM.lQ) e2 e4 hB
         (fun b' B' l' gg mm _=>by
          by_cases nI:b'=b
          ·subst nI;rw[dW]at gg;cases gg
          ·rw[bz _ _ nI]at gg;exact hM.sep b' b B' _ l' _ gg hg mm fY nI) mn (nx':=nx.succ.toNat) (by omega) (by omega) Wn
        refine⟨.slice (some ⟨l.c,l.base,none⟩) (len+m) cap,w',_,_,?_,?_,g1,g2,(hH.set b none).set nx _,Fe _ _ _ (fun b' bF=>Mu.mX _ _ (ne_of_lt bF))⟩
        ·rw[fe hT ty (base:=some ⟨l.c,l.base,none⟩) hx.hn PB hx.now];simp only[lS,e1,gC]
        ·exact .slice nx 0 _ _ cap l _ (Mu.cC _ _ _) (by simpa using qZ) PB (.inr rfl)
       |false=>
        rw[hkw]at h;simp only[cond_false,appC_eq,dropL_eq,sTCe,OR.val.injEq]at h;obtain⟨rfl,rfl,rfl⟩:=h;have acr:(cap-(len+m))*i.size=cap*i.size-(len+m)*i.size:=Nat.mul_sub_right_distrib _ _ _;obtain⟨g1,g2,g3⟩:=Uf.mark (w':=w') nx l.c ((l.base+off)+(len+m)*i.size) ((cap-(len+m))*i.size) hM.lQ e2 e4 (by rw[jQ];omega)
         (fun b' B' l' gg mm=>by
          by_cases nI:b'=b
          ·subst nI;rw[dW]at gg;cases gg
          ·rw[bz _ _ nI]at gg;exact hM.sep b' b B' _ l' _ gg hg mm fY nI)
         (fun j v hj=>by rw[Wn j]at hj;cases hj) mn (n':=nx.succ.toNat) (by omega) (by omega)
        refine⟨.slice (some ⟨l.c,l.base+off,none⟩) (len+m) cap,w',_,_,?_,?_,g1,g2,(hH.set b none).set nx _,Fe _ _ _ (fun b' bF=>Mu.iZ _ _ _ _ _ (ne_of_lt bF))⟩
        ·rw[fe hT ty (base:=some ⟨l.c,l.base+off,none⟩) hx.hn PB hx.now];simp only[lS,e1,gC]
        ·refine .sl _ _ _ _ cap l.c (l.base+off) _ ((arr.toList.drop (l.base+off)).take (len*i.size)++us.toList) (Hu.mono g1) ?_ PB (.inr rfl) ?_ ?_
         ·rw[fO,List.length_drop,←hLl,hx.hl,Ya];omega
         ·intro j v hj;have eo:j<len*i.size+us.size:=by
           rcases zE j (len*i.size+us.size)with h'|h'
           ·exact h'
           ·rw[JE (by simp;omega)]at hj;cases hj
          refine g3 _ _ (by omega) ?_;rw[gb _ _ _ _ (by simp[DO];omega)];by_cases hj1:j<len*i.size
          ·rw[if_neg (by omega)];rw[List.getElem?_append_left (by omega),List.getElem?_take_of_lt hj1,List.getElem?_drop]at hj;simpa using hj
          ·rw[if_pos (by simp;omega)];rw[List.getElem?_append_right (by omega)]at hj;rw[←hj];congr 1;omega
         ·exact Mu.gE _ _ _ _ _ _
      ·have yj:∀d,(Builtin.firstCells i.size len (.slice (some ad) len cap)).run P {w with drawn:=d}=.ok ((arr.toList.drop (l.base+off)).take (len*i.size)).toArray {w with drawn:=d}:=by
        intro d;simp only[Builtin.firstCells];by_cases h0:len=0
        ·subst h0;simp[loadCells,loadCellsFrom]
        ·have ja:ad=⟨l.c,l.base+off,none⟩:=ja.resolve_left (by omega);subst ja;refine gD P {w with drawn:=d} l.c (l.base+off) arr elem (0,0) k2 (len*i.size) ?_;omega
       obtain⟨Uh,Hv,cR⟩:=run_append_grow (P:=P) (w:=w) hT ty (base:=some ad) hx.hn (by omega) Qo hx.hc yj;have JW:ao ρ μ (L.drop off++new) (((arr.toList.drop (l.base+off)).take (len*i.size)).toArray++us).toList:=by simpa using Hu
       have Oz:(((arr.toList.drop (l.base+off)).take (len*i.size)).toArray++us).size=(len+m)*i.size:=by rw[Array.size_append,DO,Nat.add_mul];simp at LD ⊢;omega
       cases hkw:Dg i.size with
       |true=>rw[hkw]at h Hw;simp only[Bool.not_true,Bool.or_false]at Hw;have Yc:=mo Hw;subst Yc;rw[List.drop_zero]at JW;simp only[cond_true,appC_eq,sTCe,OR.val.injEq]at h;obtain⟨rfl,rfl,rfl⟩:=h;obtain⟨μ',g1,g2,g3,g4⟩:=Ct Uf hT JW Oz Hv;exact⟨_,_,_,_,cR,g3,g1,g2,(hH.set b none).set nx _,Fe _ _ _ (fun b' bF=>(g4 none none H G).m b' bF)⟩
       |false=>rw[hkw]at h;simp only[cond_false,appC_eq,dropL_eq,sTCe,OR.val.injEq]at h;obtain⟨rfl,rfl,rfl⟩:=h;obtain⟨μ',g1,g2,g3,g4⟩:=JV Uf hT JW Oz Hv;refine⟨_,_,_,_,cR,g3,g1,g2,(hH.set b none).set nx _,Fe _ _ _ (fun b' bF=>(g4 none none H G).m b' bF)⟩
   ·cases h
 ·cases h
end
section
variable{P:Program}{ρ:Nat→Int}{w0:W0}{w:World}{μ:Mu}{G:Key→Option ab}{nx:Key}{orc:dP}{nt:Nat}{tm:T AV}{H:T ab}{ev:Operand→Value}
def th(em:Bool)(d:Nat)(xs:Array Value):List Field→Sem Unit
 | []=>pure ()
 | f :: fs => if f.name ≠ "_" then do
   let a ←part f.type xs f.offset
   Instr.checkKey em d f.type a
   th em d xs fs
  else th em d xs fs
theorem qc(em:Bool)(d:Nat){t:TypeId}{fs:Array Field}(hu:P.underlying t=some (.struct fs))(xs:Array Value) :
  (Instr.checkKey em (d+1) t (.agg xs)).run P w=(th em d xs fs.toList).run P w:=by
 simp only[Instr.checkKey,kb,aa hu,gC];rw[←Array.forIn_toList];generalize fs.toList=l;clear hu
 induction l generalizing w with
 |nil=>simp[th]
 |cons f l ih=>
  simp only[List.forIn_cons,th,kb,Sem.run_ite];split
  ·generalize (part f.type xs f.offset).run P w=r1;cases r1 with
   |ok a w1=>
    simp only[gC];generalize (Instr.checkKey em d f.type a).run P w1=r2;cases r2 with
    |ok b w2=>simp only[gC,nJ];exact ih
    |halt x w2=>simp[Result.andThen]
   |halt x w1=>simp[Result.andThen]
  ·simp only[nJ,gC];exact ih
def zi(em:Bool)(d:Nat)(e:TypeId)(c:Nat)(xs:Array Value):List Nat→Sem Unit
 | []=>pure ()
 |i ::is=>do
  let a ←part e xs (i*c)
  Instr.checkKey em d e a
  zi em d e c xs is
theorem Bg(em:Bool)(d:Nat){t e:TypeId}{n:Nat}{i:TypeInfo}(hu:P.underlying t=some (.array n e))(hi:P.info? e=some i)(xs:Array Value) :
  (Instr.checkKey em (d+1) t (.agg xs)).run P w=(zi em d e i.size xs (List.range n)).run P w:=by
 simp only[Instr.checkKey,kb,aa hu,gC];simp only[Std.Legacy.Range.forIn_eq_forIn_range',Std.Legacy.Range.size,Nat.sub_zero,Nat.add_one_sub_one,Nat.div_one,List.range_eq_range'];generalize List.range' 0 n=is
 induction is generalizing w with
 |nil=>simp[zi]
 |cons j is ih=>
  simp only[List.forIn_cons,zi,kb,aQ hi,gC];generalize (part e xs (j*i.size)).run P w=r1;cases r1 with
  |ok a w1=>
   simp only[gC];generalize (Instr.checkKey em d e a).run P w1=r2;cases r2 with
   |ok b w2=>simp only[gC,nJ];exact ih
   |halt x w2=>simp[Result.andThen]
  |halt x w1=>simp[Result.andThen]
theorem FX{a:List AV}:∀{l:List (Nat×ql)},Hp a l=true→∀x∈l,∃u,a[x.1]?=some u
 | [],_,x,hx=>by cases hx
 |(o,p) ::l,h,x,hx=>by
  simp only[Hp,nth_eq]at h;split at h
  ·rename_i u hu;rcases zk.1 hx with rfl|hx
   ·exact⟨u,hu⟩
   ·exact FX h x hx
  ·cases h
theorem Bh(em:Bool){xs:Array Value}(d:Nat):∀(n:Nat) (fs:List Field) (l:List (Nat×ql)),eqFields P n fs=some l→(∀x∈l,∃v,xs[x.1]?=some v)→(th em (d+1) xs fs).run P w=.ok () w
 |n,[],l,_,_=>rfl
 |0,f ::fs,l,hf,_=>by simp[eqFields]at hf
 |n+1,f ::fs,l,hf,hp=>by
  simp only[eqFields]at hf;cases hn : (f.name == "_") with
  |true=>rw[hn]at hf;cases hf
  |false=>
   rw[hn]at hf;simp only[cond_false]at hf;have cL : f.name ≠ "_" := by simpa using hn
   have key:∀(q:ql) (l':List (Nat×ql)) (d':TypeDesc),P.underlying f.type=some d'→(d'=.bool∨(∃k,d'=.int k)∨d'=.string)→eqFields P n fs=some l'→l=(f.offset,q) ::l'→(th em (d+1) xs (f ::fs)).run P w=.ok () w:=by
    intro q l' d' HT hk IA hl;subst hl;obtain⟨v,hv⟩:=hp (f.offset,q) (by simp);have aas:EO d'=false:=by rcases hk with rfl|⟨k,rfl⟩|rfl<;>rfl
    have NY:(part f.type xs f.offset).run P w=.ok v w:=by have hv:xs[f.offset]?=some v:=hv;simp[part,mM HT,aas,hv]
    have L7:(Instr.checkKey em (d+1) f.type v).run P w=.ok () w:=by rcases hk with rfl|⟨k,rfl⟩|rfl<;>simp[Instr.checkKey,aa HT]
    simp only[th,ne_eq,cL,not_false_eq_true,if_true,kb,NY,gC,L7];exact Bh em d n fs l' IA fun x hx=>hp x (by simp[hx])
   split at hf
   ·rename_i h1 h2;simp only[bB]at hf;have iR:P.underlying f.type=some .bool:=l6 h1;exact key _ _ _ iR (.inl rfl) h2 hf.symm
   ·rename_i h1 h2;simp only[bB]at hf;obtain⟨k,iR⟩:=l6 h1;exact key _ _ _ iR (.inr (.inl ⟨k,rfl⟩)) h2 hf.symm
   ·rename_i h1 h2;simp only[bB]at hf;have iR:P.underlying f.type=some .string:=l6 h1;exact key _ _ _ iR (.inr (.inr rfl)) h2 hf.symm
   ·cases hf
theorem FY{l:List (Nat×ql)}{sz:Nat}:∀(n off:Nat) (x:Nat×ql),x∈l→∀i,i<n→(off+i*sz+x.1,x.2)∈xH l sz n off
 |0,_,_,_,i,hi=>absurd hi (Nat.not_lt_zero _)
 |n+1,off,x,hx,i,hi=>by
  simp only[xH,List.mem_append];cases i with
  |zero=>exact .inl (Pu.2 ⟨x,hx,by simp⟩)
  |succ i=>
   right;have:=FY (sz:=sz) n (off+sz) x hx i (by omega);have e:off+sz+i*sz=off+(i+1)*sz:=by rw[Nat.add_mul,Nat.one_mul];omega
   rwa [e]at this
theorem FZ(em:Bool){e:TypeId}{i:TypeInfo}{fs:Array Field}{n:Nat}{l:List (Nat×ql)}(hi:P.info? e=some i)(hu:P.underlying e=some (.struct fs))(hf:eqFields P n fs.toList=some l)(bF:∀x∈l,x.1<i.size){xs:Array Value}(d:Nat) :
  ∀(is:List Nat),(∀j∈is,∀x∈l,∃v,xs[j*i.size+x.1]?=some v)→(zi em (d+2) e i.size xs is).run P w=.ok () w
 | [],_=>rfl
 |j ::is,h=>by
  simp only[zi,kb,DA hi hu,gC];rw[show d+2=d+1+1 from rfl,qc em (d+1) hu,Bh em d n fs.toList l hf]
  ·simp only[gC];exact FZ em hi hu hf bF d is fun k hk=>h k (by simp[hk])
  ·intro x hx;obtain⟨v,hv⟩:=h j (by simp) x hx;refine⟨v,?_⟩;have:=bF x hx;have h2:j*i.size+x.1<xs.size:=by
    rcases zE (j*i.size+x.1) xs.size with h'|h'
    ·exact h'
    ·rw[Jn h']at hv;cases hv
   rw[Array.getElem?_extract_of_lt (by omega),←hv,Array.getElem?_eq_getElem h2]
theorem An(em:Bool){t:TypeId}{l:List (Nat×ql)}(hp:tz P t (.parts l)){A:List AV}{xs:Array Value}(hx:ao ρ μ A xs.toList)(qs:Hp A l=true)(d:Nat) :
  (Instr.checkKey em (d+3) t (.agg xs)).run P w=.ok () w:=by
 have lD:∀x∈l,∃v,xs[x.1]?=some v:=by intro x hx';obtain⟨u,hu⟩:=FX qs x hx';obtain⟨v,hv,_⟩:=hx.get _ _ hu;exact⟨v,by simpa using hv⟩
 rcases hp with⟨fs,n,hu,dH,hf⟩|⟨len,e,i,fs,n,l',hu,hi,hue,dH,hf,bF,rfl⟩
 ·rw[show d+3=d+2+1 from rfl,qc em (d+2) hu];exact Bh em (d+1) n fs.toList l hf lD
 ·rw[show d+3=d+2+1 from rfl,Bg em (d+2) hu hi];refine FZ em hi hue hf bF d _ fun j hj x hx'=>?_;have:=FY (sz:=i.size) len 0 x hx' j (by simpa using hj);simpa using lD _ this
theorem aA.flat{a:AV}{x y:Value}(h:Qj a=true)(hx:aA ρ μ a x)(hy:aA ρ μ a y):x=y:=by
 cases hx<;>first|(cases h;done)|skip
 ·cases hy;rfl
 ·rename_i k s n e;cases hy with|int _ _ n' e'=>rw[←e,←e']
 ·rename_i n c s e e';cases hy with|str _ _ s' f f'=>
  subst e e';have:(Nat.beq s.data.toList.length s'.data.toList.length&&Nat.beq (enc s.data.toList) (enc s'.data.toList))=true:=by rw[f,f'];simp
  rw[ED]at this;have:=eq_of_beq this;congr 1;apply ByteArray.ext;exact Array.ext' this
theorem ao.flat:∀{l:List AV} {xs ys:List Value},yb l=true→ao ρ μ l xs→ao ρ μ l ys→xs=ys
 | [],_,_,_,hx,hy=>by cases hx;cases hy;rfl
 |a ::l,_,_,h,hx,hy=>by
  simp only[yb,fa]at h;cases hx with|cons _ _ v vs h1 h2=>cases hy with|cons _ _ u us k1 k2=>
  rw[aA.flat h.1 h1 k1,ao.flat h.2 h2 k2]
theorem Pp{a:AV}{x:Value}(h:Qj a=true)(hx:aA ρ μ a x)(n:Nat):Instr.sameBits n x x=true:=by
 cases hx<;>first|(cases h;done)|skip
 ·cases n<;>simp[Instr.sameBits]
 ·cases n<;>simp[Instr.sameBits]
 ·cases n<;>simp[Instr.sameBits,beq_toListBytes]
theorem F8:∀{l:List AV} {xs:List Value},yb l=true→ao ρ μ l xs→∀(n:Nat),((xs.zip xs).all fun(x,y)=>Instr.sameBits n x y)=true
 | [],_,_,hx,n=>by cases hx;rfl
 |a ::l,_,h,hx,n=>by
  simp only[yb,fa]at h;cases hx with|cons _ _ v vs h1 h2=>
  simp only[List.zip_cons_cons,List.all_cons,fa];exact⟨Pp h.1 h1 n,F8 h.2 h2 n⟩
theorem SY{l:List AV}{xs:Array Value}(h:yb l=true)(hx:ao ρ μ l xs.toList):Instr.sameBits 10000 (.agg xs) (.agg xs)=true:=by simp only[Instr.sameBits,beq_self_eq_true,Bool.true_and];exact F8 h hx 9999
theorem F9{p:ql}{k:AV}(h:Hq p k=true):∃l A,p=.parts l∧k=.agg A∧yb A=true∧Hp A l=true:=by
 cases p<;>first|(simp[Hq]at h;done)|skip
 cases k<;>first|(simp[Hq]at h;done)|skip
 simp only[Hq,fa]at h;exact⟨_,_,rfl,rfl,h.1,h.2⟩
theorem wv(ho:cD ρ orc){kt:TypeId}{l:List (Nat×ql)}(hp:tz P kt (.parts l)){A:List AV}(sE:yb A=true){a:AV}{x y:Value}(hx:aA ρ μ (.agg A) x)(hy:aA ρ μ a y){b:Bool}
  (hb:T0 orc (.parts l) (.agg A) a=some b):(Op.equal kt x y).run P w=.ok b w∧(b=true→x=y):=by
 have hq:fq orc (.parts l) (.agg A) a=some b∧(b=true→AV.beq (.agg A) a=true):=by
  unfold T0 at hb;split at hb
  ·rename_i h1;cases hc:AV.beq (.agg A) a with
   |false=>rw[hc]at hb;cases hb
   |true=>rw[hc]at hb;simp only[cond_true,bB]at hb;subst hb;exact⟨h1,fun _=>rfl⟩
  ·rename_i h1;refine⟨hb,fun e=>?_⟩;subst e;exact absurd hb h1
 obtain⟨h1,h2⟩:=hq;cases a<;>first|(simp[fq]at h1;done)|skip
 rename_i B;cases hx with|agg _ xs hx=>cases hy with|agg _ ys hy=>
 simp only[fq]at h1;refine⟨Di ho hp hx hy h1 9997,fun e=>?_⟩;have:=AV.eq_of_beq _ _ (h2 e);cases this;have:=ao.flat sE hx hy;rw[Array.ext' this]
theorem Ga{b:Bool}{x:OR}{m:Nat}{a:AV}{H':T ab}{nx':Key}(h:(bif b then x else .bad m)=.val a H' nx'):b=true∧x=.val a H' nx':=by
 cases b with
 |true=>exact⟨rfl,h⟩
 |false=>cases h
theorem DE(ho:cD ρ orc){kt:TypeId}{pl:List (Nat×ql)}(hp:tz P kt (.parts pl)){A:List AV}(sE:yb A=true){u:AV}{x v:Value}(hx:aA ρ μ (.agg A) x)(hv:aA ρ μ u v) :
  ∀{l r:List (AV×AV)} {es:List MapEntry} (i:Nat),ju ρ μ l es→JO orc (.parts pl) (.agg A) u l=some r→
   ((Instr.findAsking kt x es i).run P w=.ok none w∧∀b,ju ρ μ r (es ++ [⟨x,v,b⟩]))∨
   (∃j e,(Instr.findAsking kt x es i).run P w=.ok (some (i+j,e.val)) w∧es[j]?=some e∧e.key=x∧ju ρ μ r (es.set j {e with key:=x,val:=v}))
 | [],r,[],i,CO,h=>by simp only[JO,bB]at h;subst h;exact .inl ⟨rfl,fun b=>⟨hx,hv,trivial⟩⟩
 | [],_,_ ::_,i,CO,h=>CO.elim
 |(_,_) ::_,_,[],i,CO,h=>CO.elim
 |(a,c) ::l,r,e ::es,i,CO,h=>by
  obtain⟨h1,h2,h3⟩:=CO;simp only[JO]at h;split at h
  ·rename_i hk;cases h;obtain⟨q1,q2⟩:=wv (w:=w) ho hp sE hx h1 hk;exact .inr ⟨0,e,by simp[Instr.findAsking,q1],by simp,(q2 rfl).symm,⟨hx,hv,h3⟩⟩
  ·rename_i hk;obtain⟨q1,q2⟩:=wv (w:=w) ho hp sE hx h1 hk;split at h
   ·rename_i r' Ru;cases h;rcases DE ho hp sE hx hv (i+1) h3 Ru with⟨f,g⟩|⟨j,e',f,g1,g2,g3⟩
    ·exact .inl ⟨by simp[Instr.findAsking,q1,f],fun b=>⟨h1,h2,g b⟩⟩
    ·refine .inr ⟨j+1,e',?_,by simpa using g1,g2,?_⟩
     ·simp[Instr.findAsking,q1,f];omega
     ·simp only[List.set_cons_succ];exact⟨h1,h2,g3⟩
   ·cases h
  ·cases h
theorem DF(ho:cD ρ orc){kt:TypeId}{pl:List (Nat×ql)}(hp:tz P kt (.parts pl)){A:List AV}(sE:yb A=true){x:Value}(hx:aA ρ μ (.agg A) x) :
  ∀{l r:List (Nat×AV×AV)} {es:List MapEntry} (i:Nat),fc ρ μ l es→JP orc (.parts pl) (.agg A) l=some r→
   ((Instr.findAsking kt x es i).run P w=.ok none w∧fc ρ μ r es)∨
   (∃j e,(Instr.findAsking kt x es i).run P w=.ok (some (i+j,e)) w∧j<es.length∧fc ρ μ r (es.eraseIdx j))
 | [],r,[],i,CO,h=>by simp only[JP,bB]at h;subst h;exact .inl ⟨rfl,trivial⟩
 | [],_,_ ::_,i,CO,h=>CO.elim
 |(_,_,_) ::_,_,[],i,CO,h=>CO.elim
 |(s,a,c) ::l,r,e ::es,i,CO,h=>by
  obtain⟨h0,h1,h2,h3⟩:=CO;simp only[JP]at h;split at h
  ·rename_i hk;cases h;obtain⟨q1,q2⟩:=wv (w:=w) ho hp sE hx h1 hk;exact .inr ⟨0,e.val,by simp[Instr.findAsking,q1],by simp,by simpa using h3⟩
  ·rename_i hk;obtain⟨q1,q2⟩:=wv (w:=w) ho hp sE hx h1 hk;split at h
   ·rename_i r' Ru;cases h;rcases DF ho hp sE hx (i+1) h3 Ru with⟨f,g⟩|⟨j,e',f,g1,g2⟩
    ·exact .inl ⟨by simp[Instr.findAsking,q1,f],⟨h0,h1,h2,g⟩⟩
    ·refine .inr ⟨j+1,e',?_,by simpa using g1,?_⟩
     ·simp[Instr.findAsking,q1,f];omega
     ·simp only[List.eraseIdx_cons_succ];exact⟨h0,h1,h2,g2⟩
   ·cases h
  ·cases h
theorem qw{kt:TypeId}(hk:EB P kt)(x:Value)(es:List MapEntry):(Instr.findKey kt x es).run P w=(Instr.findAsking kt x es).run P w:=by
 have key:∀(kd:TypeDesc),P.underlying kt=some kd→(∀a b,Instr.sameNow kd a b=none)→(Instr.findKey kt x es).run P w=(Instr.findAsking kt x es).run P w:=by
  intro kd hu hs;simp only[Instr.findKey,kb,aa hu,gC];cases es with
  |nil=>rfl
  |cons e es=>simp[Instr.findNow,hs]
 rcases hk with⟨fs,hu⟩|⟨n,e,hu⟩
 ·exact key _ hu (by intro a b;cases a<;>cases b<;>rfl)
 ·exact key _ hu (by intro a b;cases a<;>cases b<;>rfl)
theorem Ld{kt:TypeId}{p:ql}(hk:EB P kt)(hp:He P 100 kt=some p):tz P kt p:=l6 hp
theorem vW(hM:aL P ρ w0 μ G nx.toNat w)(hH:HSub H G){b:Key}{L:List (Nat×AV×AV)}{c:Nat}(h:stamped b H=some (L,c)) :
  ∃B l es,ae b H=some B∧μ b=some l∧w.heap[l.c]?=some (.map es c)∧fc ρ μ L es.toList∧w0.heap.size≤l.c∧B.lo l=some 0:=by
 unfold stamped at h;split at h
 ·rename_i L' hL;simp only[bB,Prod.mk.injEq]at h;obtain⟨rfl,rfl⟩:=h;have hg:=hH _ _ hL;obtain⟨l,o,h1,h2,h3⟩:=hM.DI b _ hg;cases h3 with|map _ _ es clock cJ yA IS=>
  subst IS;rw[lenL_eq];exact⟨_,l,es,hL,h1,h2,cJ.stamps 0 (by simpa using yA),(hM.own b _ l hg h1).resolve_left (by simp[ab.ro]),rfl⟩
 ·rename_i L' c' hL;simp only[bB,Prod.mk.injEq]at h;obtain⟨rfl,rfl⟩:=h;have hg:=hH _ _ hL;obtain⟨l,o,h1,h2,h3⟩:=hM.DI b _ hg;cases h3 with|mapD _ _ es clock cJ=>
  exact⟨_,l,es,hL,h1,h2,cJ,(hM.own b _ l hg h1).resolve_left (by simp[ab.ro]),rfl⟩
 ·cases h
theorem GZ(hM:aL P ρ w0 μ G nx.toNat w)(hH:HSub H G)(ho:cD ρ orc){o:Oper}{p:ql}{pm pk pv:PX}(hp:eZ P nt o=some (.mapupdP p pm pk pv))(hE:qn P ρ μ nt o.op.operands.toList tm ev)
  {a:AV} {H':T ab} {nx':Key} (h:aOp orc (.mapupdP p pm pk pv) tm H nx=.val a H' nx'):xw P ρ w0 μ G H nx w (Go.execOp ev o) a H' nx':=by
 obtain⟨dst,qz,ty,pos,after,guard⟩:=o;obtain⟨t,m,k,v,kt,e,e0,hu,ML,nH,hm,hk,hv⟩:=dv hp;simp only at e0;have hex:Go.execOp ev ⟨dst,qz,ty,pos,after,guard⟩=(do Instr.mapUpdate t (ev m) (ev k) (ev v);pure .skip):=by rcases e0 with e0|e0<;>subst e0<;>rfl
 have jM:m∈qz.operands.toList∧k∈qz.operands.toList∧v∈qz.operands.toList:=by rcases e0 with e0|e0<;>subst e0<;>simp[Op.operands]
 simp only[aOp]at h;split at h
 ·rename_i b ka va hb ZV ZU;split at h
  ·rename_i L hL;replace h:=Ga h;obtain⟨qs,h⟩:=h;obtain⟨pl,A,rfl,rfl,sE,aax⟩:=F9 qs;split at h
   ·rename_i L' UQ;rw[sTCe]at h;simp only[OR.val.injEq]at h;obtain⟨rfl,rfl,rfl⟩:=h;have Le:=Ld ML nH;have St:=hE m jM.1 pm _ hm hb;have Vk:=hE k jM.2.1 pk _ hk ZV;have hrv:=hE v jM.2.2 pv _ hv ZU;generalize Gi:ev m=mm at St;cases St with|map _ l r fY hr=>
    subst hr;generalize vY:ev k=kk at Vk;have aay:=Vk;cases Vk with|agg _ xs hxs=>
    have hg:=hH _ _ hL;obtain⟨l',o',h1,h2,h3⟩:=hM.DI b _ hg;rw[fY]at h1;cases h1;cases h3 with|map _ _ es clock cJ yA IS=>
    have lD:(getObj l.c).run P w=.ok (.map es clock) w:=by simp[getObj,Sem.run,h2]
    have Dx:∀o2,(setObj l.c o2).run P w=.ok () {w with heap:=w.heap.setIfInBounds l.c o2}:=by intro o2;simp[setObj,Sem.run,h2]
    have ud:l.c<w.heap.size:=hM.Dc b l fY;have mn:w0.heap.size≤l.c:=(hM.own b _ l hg fY).resolve_left (by simp[ab.ro]);have xQ:μ.le (μ.put b l):=Mu.qH (.inr fY);have L7:(Instr.checkKey false 10000 kt (.agg xs)).run P w=.ok () w:=An false Le hxs aax 9997;have fin:∀(I6:Array MapEntry) (rz:Nat),ju ρ μ L' I6.toList→(∀(i:Nat) (e:MapEntry),I6.toList[i]?=some e→e.born=i)→rz=L'.length→(Instr.mapUpdate t (ev m) (ev k) (ev v)).run P w=.ok () {w with heap:=w.heap.setIfInBounds l.c (.map I6 rz)}→
      xw P ρ w0 μ G H nx w (Go.execOp ev ⟨dst,qz,ty,pos,after,guard⟩) (.tuple []) (ar b (some (.map L')) H) nx:=by
     intro I6 rz CO eA Nb cR;obtain⟨g1,g2⟩:=hM.put (w':={w with heap:=w.heap.setIfInBounds l.c (.map I6 rz)}) b (.map L') l (.map I6 rz) (.inr fY)
      ⟨rfl,rfl,rfl,by simp,fun j hj _=>by show(w.heap.setIfInBounds l.c _)[j]?=_;rw[Px (Ne.symm hj)],cI _⟩
      (by show(w.heap.setIfInBounds l.c _)[l.c]?=_;simp[ud]) (.map _ _ _ _ (CO.mono xQ) eA Nb) (fun b' B' l' g m' ne=>hM.sep b' b B' _ l' l g hg m' fY ne) mn (cI _) (hM.new b l fY) (hM.VU hg fY rfl)
     refine⟨.skip,_,_,_,?_,rfl,g1,g2,hH.set b _,kQ hL fY _ _⟩;rw[hex];simp[cR]
    rcases DE (w:=w) ho Le sE aay hrv 0 cJ UQ with⟨f,g⟩|⟨j,e1,f,g1,g2,g3⟩
    ·have hlen:=cJ.length;have RY:=(g clock).length;refine fin (es.push {key:=ev k,val:=ev v,born:=clock}) (clock+1) (by rw[vY];simpa using g clock) (HR yA (by rw[IS,hlen])) (by simp at RY hlen ⊢;omega) ?_;simp[Gi,vY,Instr.mapUpdate,aa hu,lD,L7,qw ML,f,Dx]
    ·have wy:es[j]?=some e1:=by simpa using g1
     have eo:j<es.size:=by
      rcases zE j es.size with h'|h'
      ·exact h'
      ·rw[Jn h']at wy;cases wy
     have hlen:=cJ.length;have RY:=g3.length;have hml:(es.modify j fun e=>{e with key:=ev k,val:=ev v}).toList=es.toList.set j {e1 with key:=ev k,val:=ev v}:=by
      apply List.ext_getElem?;intro q;rw[Array.getElem?_toList,Array.getElem?_modify];by_cases hq:j=q
      ·subst hq;rw[if_pos rfl,wy,List.getElem?_set_self (by simpa using eo)];rfl
      ·rw[if_neg hq,List.getElem?_set_ne hq];simp
     refine fin (es.modify j fun e=>{e with key:=ev k,val:=ev v}) clock ?_ (by rw[hml];exact KY yA g1 rfl) (by simp at RY hlen ⊢;omega) ?_
     ·rw[hml,vY];exact g3
     ·have hs:=SY sE hxs;simp[Gi,vY,Instr.mapUpdate,aa hu,lD,L7,qw ML,f,Dx,Instr.keyThatStays,wy,g2,hs]
   ·cases h
  ·cases h
 ·cases h
theorem MH(hM:aL P ρ w0 μ G nx.toNat w)(hH:HSub H G)(ho:cD ρ orc){o:Oper}{p:ql}{pm pk:PX}(hp:eZ P nt o=some (.delP p pm pk))(hE:qn P ρ μ nt o.op.operands.toList tm ev)
  {a:AV} {H':T ab} {nx':Key} (h:aOp orc (.delP p pm pk) tm H nx=.val a H' nx'):xw P ρ w0 μ G H nx w (Go.execOp ev o) a H' nx':=by
 obtain⟨dst,qz,ty,pos,after,guard⟩:=o;obtain⟨c,t,tl,m,k,kt,e,e0,SN,dJ,PJ,hu,ML,nH,hm,hk⟩:=dv hp;obtain⟨callee,args,argTypes⟩:=c;simp only at e0 SN dJ PJ;subst e0 SN dJ;have aeq:argTypes[0]?=some t:=by rw[←Array.getElem?_toList,PJ];rfl
 have hex:Go.execOp ev ⟨dst,.call ⟨.builtin .delete,#[m,k],argTypes⟩,ty,pos,after,guard⟩=(do pure (.value (←Builtin.delete_ argTypes ty (#[m,k].map ev)))):=rfl;have ajM:m∈(Op.call ⟨.builtin .delete,#[m,k],argTypes⟩).operands.toList:=by simp[Op.operands,Call.operands]
 have ajN:k∈(Op.call ⟨.builtin .delete,#[m,k],argTypes⟩).operands.toList:=by simp[Op.operands,Call.operands]
 simp only[aOp]at h;split at h
 ·rename_i b ka hb ZV;split at h
  ·rename_i L c0 hL;replace h:=Ga h;obtain⟨qs,h⟩:=h;obtain⟨pl,A,rfl,rfl,sE,aax⟩:=F9 qs;split at h
   ·rename_i L' UQ;rw[sTCe]at h;simp only[OR.val.injEq]at h;obtain⟨rfl,rfl,rfl⟩:=h;have Le:=Ld ML nH;have St:=hE m ajM pm _ hm hb;have Vk:=hE k ajN pk _ hk ZV;generalize Gi:ev m=mm at St;cases St with|map _ l r fY hr=>
    subst hr;generalize vY:ev k=kk at Vk;have aay:=Vk;cases Vk with|agg _ xs hxs=>
    obtain⟨B,l',es,hB,h1,h2,cJ,mn,sf⟩:=vW hM hH hL;rw[fY]at h1;cases h1;have hg:=hH _ _ hB;have lD:(getObj l.c).run P w=.ok (.map es c0) w:=by simp[getObj,Sem.run,h2]
    have Dx:∀o2,(setObj l.c o2).run P w=.ok () {w with heap:=w.heap.setIfInBounds l.c o2}:=by intro o2;simp[setObj,Sem.run,h2]
    have ud:l.c<w.heap.size:=hM.Dc b l fY;have xQ:μ.le (μ.put b l):=Mu.qH (.inr fY);have L7:(Instr.checkKey es.isEmpty 10000 kt (.agg xs)).run P w=.ok () w:=An _ Le hxs aax 9997;have fin:∀(I6:Array MapEntry),fc ρ μ L' I6.toList→(Builtin.delete_ argTypes ty #[ev m,ev k]).run P w=.ok (.tuple #[]) {w with heap:=w.heap.setIfInBounds l.c (.map I6 c0)}→
      xw P ρ w0 μ G H nx w (Go.execOp ev ⟨dst,.call ⟨.builtin .delete,#[m,k],argTypes⟩,ty,pos,after,guard⟩) (.tuple []) (ar b (some (.mapD L' c0)) H) nx:=by
     intro I6 CO cR;obtain⟨g1,g2⟩:=hM.put (w':={w with heap:=w.heap.setIfInBounds l.c (.map I6 c0)}) b (.mapD L' c0) l (.map I6 c0) (.inr fY)
      ⟨rfl,rfl,rfl,by simp,fun j hj _=>by show(w.heap.setIfInBounds l.c _)[j]?=_;rw[Px (Ne.symm hj)],cI _⟩
      (by show(w.heap.setIfInBounds l.c _)[l.c]?=_;simp[ud]) (.mapD _ _ _ _ (CO.mono xQ)) (fun b' B' l' g m' ne=>hM.sep b' b B' _ l' l g hg m' fY ne) mn (cI _) (hM.new b l fY) (hM.VU hg fY sf)
     refine⟨.value (.tuple #[]),_,_,_,?_,.tuple _ _ .nil,g1,g2,hH.set b _,kQ hB fY _ _⟩;rw[hex];have e2:#[m,k].map ev=#[ev m,ev k]:=by simp
     rw[e2];exact bR cR
    rcases DF (w:=w) ho Le sE aay 0 cJ UQ with⟨f,g⟩|⟨j,e1,f,g1,g2⟩
    ·refine fin es g ?_;simp[Gi,vY,Builtin.delete_,aeq,aa hu,lD,L7,qw ML,f,Dx]
    ·refine fin (es.eraseIdxIfInBounds j) (by simpa using g2) ?_;simp[Gi,vY,Builtin.delete_,aeq,aa hu,lD,L7,qw ML,f,Dx]
   ·cases h
  ·cases h
 ·cases h
theorem Je(hM:aL P ρ w0 μ G nx.toNat w)(hH:HSub H G){o:Oper}{px:PX}(hp:eZ P nt o=some (.rangeM px))(hE:qn P ρ μ nt o.op.operands.toList tm ev)
  {a:AV} {H':T ab} {nx':Key} (h:aOp orc (.rangeM px) tm H nx=.val a H' nx'):xw P ρ w0 μ G H nx w (Go.execOp ev o) a H' nx':=by
 obtain⟨dst,qz,ty,pos,after,guard⟩:=o;obtain⟨t,x,kt,e,e0,hu,hx⟩:=dv hp;simp only at e0;subst e0;simp only[aOp]at h;split at h
 ·rename_i m hm;split at h
  ·rename_i L n hL;obtain⟨rfl,rfl,rfl⟩:=NO h;have hs:=kTSu nx;have St:=hE x (by simp[Op.operands]) px _ hx hm;generalize Gi:ev x=mm at St;cases St with|map _ l r fY hr=>
   subst hr;obtain⟨B,l',es,hB,h1,h2,cJ,mn,sf⟩:=vW hM hH hL;rw[fY]at h1;cases h1;have hk:=hM.lQ;have cL:m≠nx:=by intro e;subst e;rw[hk]at fY;cases fY
   obtain⟨g1,g2⟩:=hM.alloc (nx':=nx.succ.toNat) nx (.iter m n []) (.mapIter (some l.c) n #[] n) 0 hk
    (.iter m n [] _ l #[] (by rw[Mu.mX _ _ cL];exact fY) rfl rfl) (by omega) (by omega)
   refine⟨.value (.pointer (some ⟨w.heap.size,0,none⟩)),w.alloc (.mapIter (some l.c) n #[] n),_,_,?_,?_,g1,g2,hH.set nx _,uK _ _ _⟩
   ·have lD:(getObj l.c).run P w=.ok (.map es n) w:=by simp[getObj,Sem.run,h2]
    have S0:∀ob,(newObj ob).run P w=.ok w.heap.size (w.alloc ob):=fun _=>rfl;show(do pure (Next.value (←Instr.range t (ev x))):Sem Next).run P w=_;refine bR ?_;simp[Gi,Instr.range,aa hu,lD,S0]
   ·exact .ptr nx 0 ⟨w.heap.size,0,0⟩ _ (Mu.cC _ _ _) rfl
  ·cases h
 ·cases h
theorem aL.VF(hM:aL P ρ w0 μ G nx.toNat w){w':World}(hT:Touch w w' w.heap.size){arr:Array Value}{elem:TypeId}{f:Nat×Nat}(S0:w'.heap[w.heap.size]?=some (.cells arr elem f)) :
  μ.le ⟨μ.loc,fun c i=>if c=w.heap.size then arr[i]? else μ.fz c i⟩∧aL P ρ w0 ⟨μ.loc,fun c i=>if c=w.heap.size then arr[i]? else μ.fz c i⟩ G nx.toNat w':=by
 have hold:∀c i v,μ.fz c i=some v→c≠w.heap.size:=by intro c i v h e;subst e;rw[hM.L5]at h;cases h
 have hle:μ.le ⟨μ.loc,fun c i=>if c=w.heap.size then arr[i]? else μ.fz c i⟩:=
  ⟨fun _ _ h=>h,fun c i v h=>by show(if c=w.heap.size then arr[i]? else μ.fz c i)=some v;rw[if_neg (hold c i v h)];exact h⟩
 have oq:w0.heap.size≤w.heap.size:=hM.below.size;refine⟨hle,?_,hM.sep,?_,hM.own,hM.GH,hM.new,hT.below hM.below oq oq,?_,?_,?_,?_,?_,Nat.le_trans hM.dr hT.dr⟩
 ·intro b B hg;obtain⟨l,o,h1,h2,h3⟩:=hM.DI b B hg;have:=hM.Dc b l h1;exact⟨l,o,h1,by rw[hT.other l.c (by omega) this];exact h2,h3.mono hle⟩
 ·intro b l h;exact GD (hM.Dc b l h) hT.size
 ·intro c i v h;have h:(if c=w.heap.size then arr[i]? else μ.fz c i)=some v:=h;by_cases hc:c=w.heap.size
  ·subst hc;rw[if_pos rfl]at h;exact⟨arr,elem,f,S0,h⟩
  ·rw[if_neg hc]at h;obtain⟨AG,Hm,f',h1,h2⟩:=hM.LQ c i v h;have bF:c<w.heap.size:=by
    rcases zE c w.heap.size with h'|h'
    ·exact h'
    ·rw[Jn h']at h1;cases h1
   exact⟨AG,Hm,f',by rw[hT.other c hc bF];exact h1,h2⟩
 ·intro b B l n hg hm sf i hi;have:=hM.Dc b l hm;show(if l.c=w.heap.size then arr[i]? else μ.fz l.c i)=none;rw[if_neg (by omega)];exact hM.Qv b B l n hg hm sf i hi
 ·intro c i v h;exact hle.f c i v (hM.Tj c i v h)
 ·intro c i v h;have h:(if c=w.heap.size then arr[i]? else μ.fz c i)=some v:=h;by_cases hc:c=w.heap.size
  ·exact .inl (by omega)
  ·rw[if_neg hc]at h;exact hM.Tk c i v h
 ·intro b L l hg hm;rcases hM.Tl b L l hg hm with h|h
  ·exact .inl h
  ·refine .inr fun AG e ff i v ha hv=>hle.f _ _ _ (h AG e ff i v ?_ hv);have:=hM.Dc b l hm
   rwa [hT.other l.c (by omega) this]at ha
theorem Lf(w:World)(e:TypeId)(s:ByteArray):Touch w (Lib.bytesWorld w e s) w.heap.size:=by
 refine⟨?_,?_,?_,?_,fun k hk hs=>Lib.bytesWorld_at_old w e s k hs,?_⟩
 ·simp[Lib.bytesWorld,World.freeze,World.alloc,World.drew,-World.alloc_eq,-World.drew_eq]
 ·simp[Lib.bytesWorld,World.freeze,World.alloc,World.drew,-World.alloc_eq,-World.drew_eq]
 ·simp[Lib.bytesWorld,World.freeze,World.alloc,World.drew,-World.alloc_eq,-World.drew_eq]
 ·rw[Lib.bytesWorld_size];omega
 ·simp[Lib.bytesWorld,World.freeze,World.alloc,World.drew,-World.alloc_eq,-World.drew_eq]
theorem B6:∀(n c:Nat),(bytesOf n c).length=n
 |0,_=>rfl
 |n+1,c=>by simp[bytesOf,B6 n]
theorem B7:∀(l:List UInt8),ao ρ μ (bytesOf l.length (enc l)) (l.map fun b=>Value.int .u8 ((b.toNat:Nat):Int))
 | []=>.nil
 |b ::l=>by
  have hb:b.toNat<256:=b.toNat_lt;have h1:(b.toNat+256*enc l)%256=b.toNat:=by omega
  have h2:(b.toNat+256*enc l) / 256=enc l:=by omega
  simp only[Ci,bytesOf,enc,h1,h2,Qi];exact .cons _ _ _ _ (.int _ _ _ rfl) (B7 l)
theorem MI(hM:aL P ρ w0 μ G nx.toNat w)(hH:HSub H G){o:Oper}{px:PX}(hp:eZ P nt o=some (.strb px))(hE:qn P ρ μ nt o.op.operands.toList tm ev)
  {a:AV} {H':T ab} {nx':Key} (h:aOp orc (.strb px) tm H nx=.val a H' nx'):xw P ρ w0 μ G H nx w (Go.execOp ev o) a H' nx':=by
 obtain⟨dst,qz,ty,pos,after,guard⟩:=o;obtain⟨src,dt,x,e,e0,hs,hd,he,hx⟩:=dv hp;simp only at e0;subst e0;simp only[aOp]at h;split at h
 ·rename_i n c hc;simp only[OR.val.injEq]at h;obtain⟨rfl,rfl,rfl⟩:=h;have hr:=hE x (by simp[Op.operands]) px _ hx hc;generalize fu:ev x=xx at hr;cases hr with|str _ _ s e1 e2=>
  subst e1 e2;have cR:=Lib.run_convert_string_bytes (P:=P) w src dt e s hs hd he;have S0:=Lib.bytesWorld_at_new w e s;obtain⟨g1,g2⟩:=hM.VF (Lf w e s) S0;have oq:s.size=s.data.toList.length:=Array.length_toList.symm;refine⟨.value (.slice (some ⟨w.heap.size,0,none⟩) s.size (grownCap w s.size 0 e)),Lib.bytesWorld w e s,_,G,?_,?_,g1,g2,hH,⟨fun _ _ _=>rfl,fun _ _=>rfl,fun _ h _=>h,cI _⟩⟩
  ·show(do pure (Next.value (←convert src dt (ev x))):Sem Next).run P w=_;rw[fu];exact bR cR
  ·rw[oq];refine .sl _ _ _ _ _ w.heap.size 0 _ (s.data.toList.map fun b=>Value.int .u8 ((b.toNat:Nat):Int)) (B7 _) (by rw[B6,Nat.mul_one]) ?_ (.inr rfl) ?_ trivial
   ·simp only[grownCap,Question.cut];omega
   ·intro i v hv;show(if w.heap.size=w.heap.size then(Lib.bytesCells w e s)[0+i]? else _)=some v;rw[if_pos rfl,Nat.zero_add];have hi:i<s.data.toList.length:=by
     rcases zE i s.data.toList.length with h'|h'
     ·exact h'
     ·rw[JE (by simpa using h')]at hv;cases hv
    rw[←hv];unfold Lib.bytesCells;rw[Array.getElem?_append_left (by simpa using hi)];simp
 ·cases h
end
section
variable{P:Program}{ρ:Nat→Int}{w0:W0}{w:World}{μ:Mu}{G:Key→Option ab}{nx:Key}{orc:dP}{nt:Nat}{tm:T AV}{H:T ab}{ev:Operand→Value}
theorem DC:∀(l:List UInt8),ao ρ μ (bytesOf l.length (enc l)) (l.map fun b=>Value.int .u8 ((b.toNat:Nat):Int))
 | []=>.nil
 |b ::l=>by
  have hb:b.toNat<256:=b.toNat_lt;have h1:(b.toNat+256*enc l)%256=b.toNat:=by omega
  have h2:(b.toNat+256*enc l) / 256=enc l:=by omega
  simp only[Ci,bytesOf,enc,h1,h2,Qi];exact .cons _ _ _ _ (.int _ _ _ rfl) (DC l)
theorem DD:∀(n c:Nat),(bytesOf n c).length=n
 |0,_=>rfl
 |n+1,c=>by simp[bytesOf,DD n]
theorem Jd(hM:aL P ρ w0 μ G nx.toNat w)(hH:HSub H G){o:Oper}{sz:Nat}{ps px:PX}(hp:eZ P nt o=some (.append sz ps px))(hE:qn P ρ μ nt o.op.operands.toList tm ev)
  {a:AV} {H':T ab} {nx':Key} (h:aOp orc (.append sz ps px) tm H nx=.val a H' nx'):xw P ρ w0 μ G H nx w (Go.execOp ev o) a H' nx':=by
 obtain⟨dst,qz,ty,pos,after,guard⟩:=o;obtain⟨c,s,x,t,u,e,i,ie,e0,SN,dJ,PJ,hu,hu',Eb,hi,oq,Iz,hzl,V0,hs,hx⟩:=dv hp;obtain⟨callee,args,argTypes⟩:=c;simp only at e0 SN dJ PJ;subst e0 SN dJ PJ;obtain⟨i',d,z,Gs,hd,hz,IT,ajI,ER⟩:=gk Eb;rw[hi]at Gs;cases Gs;have OP:ao ρ μ ie.zero.cells z.cells.toList:=(eD ot z ie.zero IT).cells;have PA:z.cells.size=i.size:=by rw[←ajI,←hzl,OP.length];simp
 have hT:Ox P t u e i z:=⟨hu,hu',hi,hz,by omega,PA,V0⟩;have Fc:sz=i.size:=by omega
 subst Fc;have hms:s∈(Op.call ⟨.builtin .append,#[s,x],#[t,u]⟩).operands.toList:=by simp[Op.operands,Call.operands]
 have hmx:x∈(Op.call ⟨.builtin .append,#[s,x],#[t,u]⟩).operands.toList:=by simp[Op.operands,Call.operands]
 have aat:∀(sa:AV) (new:List AV) (m:Nat) (us:Array Value) (μ1:Mu) (G1:Key→Option ab) (H1:T ab),fp P ρ w0 w nx μ G H μ1 G1 H1→ps.at tm=some sa→E9 P ρ μ1 w i.size (ev x) new m us→appendTo i.size sa new m H1 nx=.val a H' nx'→
   xw P ρ w0 μ G H nx w (Go.execOp ev ⟨dst,.call ⟨.builtin .append,#[s,x],#[t,u]⟩,ty,pos,after,guard⟩) a H' nx':=by
  intro sa new m us μ1 G1 H1 f1 LO aau Vw;obtain⟨v,w',μ',G',r1,r2,r3,r4,r5,r6⟩:=Fb f1.M f1.hs hT ty ((hE s hms ps sa hs LO).mono f1.le) aau Vw;refine⟨.value v,w',μ',G',?_,r2,Mu.le_trans f1.le r3,r4,r5,f1.kept.trans r6⟩;have:Go.execOp ev ⟨dst,.call ⟨.builtin .append,#[s,x],#[t,u]⟩,ty,pos,after,guard⟩=(do pure (.value (←Builtin.append_ #[t,u] ty (#[s,x].map ev)))):=rfl;have e2:#[s,x].map ev=#[ev s,ev x]:=by simp
  rw[this,e2];exact bR r1
 have fin:∀(sa:AV) (new:List AV) (m:Nat) (us:Array Value),ps.at tm=some sa→E9 P ρ μ w i.size (ev x) new m us→appendTo i.size sa new m H nx=.val a H' nx'→
   xw P ρ w0 μ G H nx w (Go.execOp ev ⟨dst,.call ⟨.builtin .append,#[s,x],#[t,u]⟩,ty,pos,after,guard⟩) a H' nx':=
  fun sa new m us LO aau Vw=>aat sa new m us μ G H (fp.refl hM hH) LO aau Vw
 simp only[aOp]at h;split at h
 ·rename_i sa LO SO;have hv:=hE x hmx px _ hx SO;generalize fu:ev x=xx at hv fin;cases hv;exact fin sa [] 0 #[] LO ⟨rfl,fun _=>rfl,.nil,by simp⟩ h
 ·rename_i sa b off len Bj LO SO;replace h:=(show Nat.beq i.size Bj=true∧_ from by
   cases hb:Nat.beq i.size Bj with
   |false=>rw[hb]at h;cases h
   |true=>rw[hb]at h;exact⟨rfl,h⟩)
  obtain⟨SP,h⟩:=h;have SP:=mo SP;subst SP;simp only[cond_true]at h;split at h
  ·rename_i L ck hL;rw[takeC_eq,dropL_eq]at h;split at h
   ·rename_i hle;have hv:=hE x hmx px _ hx SO;generalize fu:ev x=xx at hv aat;cases hv with|slice _ _ _ _ cap l ad fY qZ hlen ja=>
    obtain⟨l',arr,elem,fz,k1,k2,k3,k4,k5,k7⟩:=hM.cells (hH _ _ hL);rw[fY]at k1;cases k1;rw[qm (xN 9999)]at h;have qt:ao ρ μ ((L.drop off).take (len*i.size)) ((arr.toList.drop (l.base+off)).take (len*i.size)):=by
     by_cases h0:len=0
     ·subst h0;simp;exact .nil
     ·have:0<len*i.size:=Nat.mul_pos (by omega) (by omega);simp at hle;simpa using qC k3 (by omega) (by omega)
    obtain⟨μ1,G1,f1,r1⟩:=kN (vT 9999) _ _ μ G H hM hH qt;refine aat sa _ len ((arr.toList.drop (l.base+off)).take (len*i.size)).toArray μ1 G1 _ f1 LO ⟨rfl,?_,r1,?_⟩ h
    ·intro d;simp only[Builtin.firstCells];by_cases h0:len=0
     ·subst h0;simp[loadCells,loadCellsFrom]
     ·have ja:ad=⟨l.c,l.base+off,none⟩:=ja.resolve_left (by omega);subst ja;refine gD P {w with drawn:=d} l.c (l.base+off) arr elem fz k2 (len*i.size) ?_;simp at hle;have:0<len*i.size:=Nat.mul_pos (by omega) (by omega);omega
    ·rw[wb,LF];omega
   ·cases h
  ·cases h
 ·rename_i sa L len Bj fl LO SO;cases hb:Nat.beq i.size Bj with
  |false=>rw[hb]at h;cases h
  |true=>
   rw[hb]at h;simp only[cond_true]at h;have SP:=mo hb;subst SP;have hv:=hE x hmx px _ hx SO;generalize fu:ev x=xx at hv fin;cases hv with|sl _ _ _ _ cap c o ad vs qt hn hle ja hf hg=>
   have LD:=qt.length;refine fin sa L len vs.toArray LO ⟨rfl,?_,by simpa using qt,hn⟩ h;intro d;simp only[Builtin.firstCells];by_cases h0:len=0
   ·subst h0;have:vs=[]:=H8 (by omega);subst this;simp[loadCells,loadCellsFrom]
   ·have ja:ad=⟨c,o,none⟩:=ja.resolve_left (by omega);subst ja;rw[Er (hM.Qx d) hf (by omega),Hf (by omega)]
 ·rename_i sa n c LO SO;cases hb:Nat.beq i.size 1 with
  |false=>rw[hb]at h;cases h
  |true=>
   rw[hb]at h;simp only[cond_true]at h;have h1:=mo hb;have hv:=hE x hmx px _ hx SO;generalize fu:ev x=xx at hv fin;cases hv with|str _ _ st dH VA=>
   subst dH VA;refine fin sa _ _ (st.data.map fun b=>Value.int .u8 ((b.toNat:Nat):Int)) LO ⟨?_,?_,?_,?_⟩ h
   ·simp only[Builtin.lenOf,nJ,Lib.size_eq]
   ·intro d;simp only[Builtin.firstCells,nJ];have:(st.extract 0 st.data.toList.length)=st:=by apply ByteArray.ext;apply Array.ext';rw[Lib.extract_data];simp only[List.drop_zero,Nat.sub_zero,List.take_length]
    rw[this]
   ·simpa using DC (ρ:=ρ) (μ:=μ) st.data.toList
   ·rw[DD,h1,Nat.mul_one]
 ·cases h
theorem aav{x:Option AV}{a:AV}{H':T ab}{nx':Key}(h:okV H nx x=.val a H' nx'):x=some a∧H'=H∧nx'=nx:=by
 cases x with
 |none=>cases h
 |some v=>simp only[okV,OR.val.injEq]at h;exact⟨by rw[h.1],h.2.1.symm,h.2.2.symm⟩
theorem HP(hM:aL P ρ w0 μ G nx.toNat w)(hH:HSub H G)(ho:cD ρ orc){o:Oper}{op:Aw}(hp:eZ P nt o=some op)(hE:qn P ρ μ nt o.op.operands.toList tm ev)
  {a:AV} {H':T ab} {nx':Key} (h:aOp orc op tm H nx=.val a H' nx'):xw P ρ w0 μ G H nx w (Go.execOp ev o) a H' nx':=by
 have ajJ:okV H nx (lightOp orc op tm H)=.val a H' nx'→xw P ρ w0 μ G H nx w (Go.execOp ev o) a H' nx':=by intro h;obtain⟨h1,rfl,rfl⟩:=aav h;obtain⟨v,h2,h3⟩:=Dp hM hH ho hp hE h1;exact Ms hM hH h2 h3
 have SQ:(match allocOp op tm with|some (v,b)=>newB v b H nx|none=>.bad 2)=.val a H' nx'→xw P ρ w0 μ G H nx w (Go.execOp ev o) a H' nx':=by
  intro h;split at h
  ·rename_i f B hl;obtain⟨rfl,rfl,rfl⟩:=NO h;exact Mt hM hH hp hE hl
  ·cases h
 cases op with
 |store n pa pv=>exact KQ hM hH hp hE h
 |mapupd sk pm pk pv=>exact I5 hM hH ho hp hE h
 |mapupdP p pm pk pv=>exact GZ hM hH ho hp hE h
 |delP p pm pk=>exact MH hM hH ho hp hE h
 |rangeM px=>exact Je hM hH hp hE h
 |strb px=>exact MI hM hH hp hE h
 |nextM px=>
  exfalso;simp only[aOp]at h
  repeat' (first|(cases h;done)|split at h)
  all_goals (rw[show ∀(b:Bool) (x y:OR),(bif b then x else y)=if b=true then x else y from fun b x y=>by cases b<;>rfl]at h;repeat' (first|(cases h;done)|split at h))
 |append sz ps px=>exact Jd hM hH hp hE h
 |new zs=>exact SQ h
 |box x=>exact SQ h
 |bslice sz len zs ps=>exact SQ h
 |mkmap=>exact SQ h
 |mkslice sz zs l c=>exact SQ h
 |callF f l=>simp only[aOp]at h;split at h<;>cases h
 |callV v l=>simp only[aOp]at h;split at h<;>cases h
 |dfr v l=>simp only[aOp]at h;split at h<;>cases h
 |panic x=>simp only[aOp]at h;split at h<;>cases h
 |recover=>cases h
 |_=>exact ajJ h
end
section
variable{P:Program}{ρ:Nat→Int}{w0:W0}{w:World}{μ:Mu}{G:Key→Option ab}{nx:Key}{orc:dP}{nt:Nat}{tm:T AV}{H:T ab}{ev:Operand→Value}
theorem GI{op:Aw}{r:OR}(h:aOp orc op tm H nx=r)(hl:aOp orc op tm H nx=okV H nx (lightOp orc op tm H)):(∃a H' nx',r=.val a H' nx')∨∃n,r=.bad n:=by
 rw[hl]at h;subst h;cases lightOp orc op tm H with
 |none=>exact .inr ⟨_,rfl⟩
 |some v=>exact .inl ⟨_,_,_,rfl⟩
def vU(r:OR):Prop:=(∃a H' nx',r=.val a H' nx')∨∃n,r=.bad n
def Ye:Aw→Bool
 |.callF _ _|.callV _ _|.dfr _ _|.panic _|.recover|.nextM _=>true
 |_=>false
theorem Ng{α:Type}{vs:List α}{off:Nat}{l:List α}{bad:OR}{c:List α→OR}(hb:vU bad)(hc:∀l,vU (c l)):vU (JN vs off l bad c):=by
 rw[putC_eq];split
 ·exact hc _
 ·exact hb
theorem Fg{α:Type}{n:Nat}{l:List α}{bad:OR}{c:List α→OR}(hb:vU bad)(hc:∀l,vU (c l)):vU (sD n l bad c):=by
 rw[takeC_eq];split
 ·exact hc _
 ·exact hb
theorem br(n:Nat):vU (.bad n):=.inr ⟨n,rfl⟩
theorem jy(a:AV)(H:T ab)(nx:Key):vU (.val a H nx):=.inl ⟨_,_,_,rfl⟩
theorem Cw(f:Key→AV)(B:ab):vU (newB f B H nx):=by simp only[newB,sTCe];exact jy _ _ _
theorem fC{b:Bool}{x y:OR}(hx:vU x)(hy:vU y):vU (bif b then x else y):=by cases b<;>assumption
theorem qu(sz:Nat)(s:AV)(new:List AV)(m:Nat):vU (appendTo sz s new m H nx):=by
 unfold appendTo;split
 ·refine fC (jy _ _ _) (fC ?_ (br _));rw[sTCe];exact jy _ _ _
 ·refine fC (jy _ _ _) (fC ?_ (br _));split
  ·exact br _
  ·split
   ·rw[appC_eq,sTCe,sTCe];exact jy _ _ _
   ·exact br _
 ·refine fC ?_ (br _);split
  ·refine fC (Ng (br _) fun _=>by rw[sTCe];exact jy _ _ _) (Fg (br _) fun _=>?_);rw[qm (xN 9999),appC_eq,sTCe];exact jy _ _ _
  ·refine fC (br _) (Fg (br _) fun _=>?_);rw[qm (xN 9999),appC_eq,sTCe];exact jy _ _ _
  ·refine fC (jy _ _ _) (fC (fC ?_ ?_) (br _))<;>(rw[appC_eq,sTCe,sTCe];exact jy _ _ _)
  ·exact br _
 ·exact br _
theorem Yf{op:Aw}(he:Ye op=false):vU (aOp orc op tm H nx):=by
 cases op with
 |callF f' ps=>cases he
 |callV pv ps=>cases he
 |dfr v l=>cases he
 |panic x=>cases he
 |recover=>cases he
 |nextM x=>cases he
 |mapupdP p pm pk pv=>
  simp only[aOp];split
  ·split
   ·refine fC ?_ (br _);split
    ·rw[sTCe];exact jy _ _ _
    ·exact br _
   ·exact br _
  ·exact br _
 |delP p pm pk=>
  simp only[aOp];split
  ·split
   ·refine fC ?_ (br _);split
    ·rw[sTCe];exact jy _ _ _
    ·exact br _
   ·exact br _
  ·exact br _
 |rangeM x=>
  simp only[aOp];split
  ·split
   ·exact Cw _ _
   ·exact br _
  ·exact br _
 |strb x=>
  simp only[aOp];split
  ·exact jy _ _ _
  ·exact br _
 |store n pa pv=>
  simp only[aOp];split
  ·refine fC ?_ (br _);split
   ·exact br _
   ·exact Ng (br _) fun _=>by rw[sTCe];exact jy _ _ _
   ·exact br _
  ·exact br _
 |mapupd sk pm pk pv=>
  simp only[aOp];split
  ·split
   ·split
    ·rw[sTCe];exact jy _ _ _
    ·exact br _
   ·exact br _
  ·exact br _
 |append sz ps px=>
  simp only[aOp];split
  ·exact qu _ _ _ _
  ·refine fC ?_ (br _);split
   ·exact Fg (br _) fun _=>by rw[qm (xN 9999)];exact qu _ _ _ _
   ·exact br _
  ·exact fC (qu _ _ _ _) (br _)
  ·exact fC (qu _ _ _ _) (br _)
  ·exact br _
 |new zs=>simp only[aOp];split;exact Cw _ _;exact br _
 |box x=>simp only[aOp];split;exact Cw _ _;exact br _
 |bslice sz len zs ps=>simp only[aOp];split;exact Cw _ _;exact br _
 |mkmap=>simp only[aOp];split;exact Cw _ _;exact br _
 |mkslice sz zs l c=>simp only[aOp];split;exact Cw _ _;exact br _
 |_=>exact GI rfl rfl
theorem BM{x:PX}{r:OR}(h:aOp orc (.nextM x) tm H nx=r):(∃l,r=.alt l)∨∃n,r=.bad n:=by
 simp only[aOp]at h;split at h
 ·split at h
  ·split at h
   ·rename_i m n seen _ _ L c _;cases hb:(Nat.beq c n&&Cl n L)with
    |false=>rw[hb]at h;exact .inr ⟨_,h.symm⟩
    |true=>
     rw[hb]at h;simp only[cond_true]at h;split at h
     ·exact .inl ⟨_,h.symm⟩
     ·exact .inl ⟨_,h.symm⟩
   ·exact .inr ⟨_,h.symm⟩
  ·exact .inr ⟨_,h.symm⟩
 ·exact .inr ⟨_,h.symm⟩
theorem yW{op:Aw}{r:OR}(h:aOp orc op tm H nx=r)(hr:¬vU r):Ye op=true:=by
 cases he:Ye op with
 |true=>rfl
 |false=>exact absurd (h ▸ Yf (orc:=orc) (tm:=tm) (H:=H) (nx:=nx) he) hr
theorem Nh{f:Nat}{first cap:List AV}{v:Value}(h:aA ρ μ (.fn f first cap) v):∃vs ws,v=.func (.func f) vs ws∧ao ρ μ first vs.toList∧ao ρ μ cap ws.toList:=by cases h with|fn _ _ _ vs ws h h'=>exact⟨vs,ws,rfl,h,h'⟩
theorem qv {f : Nat} {fn : Func} (hf : P.funcs[f]? = some fn) (hb : fn.body.isSome = true) (hn : fn.name ≠ "runtime.NumGoroutine") (args : Array Value) : (callFunc f args).run P w = .ok (.enter f args) w := by
 have h1:fn.body.isNone=false:=by cases h:fn.body<;>simp_all
 have h2 : (fn.name == "runtime.NumGoroutine") = false := by simpa using hn
 simp only[callFunc,kb,run_program,gC,hf,h2,h1,Gy,if_false,nJ]
theorem LK{o:Oper}{op:Aw}(hp:eZ P nt o=some op)(hE:qn P ρ μ nt o.op.operands.toList tm ev){f:Nat}{l:List AV}(h:aOp orc op tm H nx=.call f l)
  {fn : Func} (hf : P.funcs[f]? = some fn) (hb : fn.body.isSome = true) (hn : fn.name ≠ "runtime.NumGoroutine") :
  ∃args,(Go.execOp ev o).run P w=.ok (.enter f args) w∧ao ρ μ l args.toList:=by
 have he:=yW h (by rintro(⟨_,_,_,e⟩|⟨_,e⟩)<;>cases e);obtain⟨dst,qz,ty,pos,after,guard⟩:=o;cases op<;>first|(cases he;done)|skip
 ·rcases BM h with⟨_,e⟩|⟨_,e⟩<;>cases e
 ·rename_i f' ps;obtain⟨c,Wo,e0,hc,dJ,_⟩:=dv hp;obtain⟨callee,args,argTypes⟩:=c;simp only at e0 hc dJ;subst e0 hc;simp only[aOp]at h;split at h
  ·rename_i l' IA;simp only[OR.call.injEq]at h;obtain⟨rfl,rfl⟩:=h;have hv:aA ρ μ (.fn f' [] []) (ev (.func f')):=hE (.func f') (by simp[Op.operands,Call.operands]) _ _ rfl rfl;obtain⟨vs,ws,e1,h1,h2⟩:=Nh hv;have hvs:vs=#[]:=by apply Array.ext';generalize vs.toList=x at h1;cases h1;rfl
   have hws:ws=#[]:=by apply Array.ext';generalize ws.toList=x at h2;cases h2;rfl
   subst hvs hws;refine⟨args.map ev,?_,?_⟩
   ·simp[Go.execOp,resolve,e1,Deferred.ofValue,invoke,qv hf hb hn]
   ·have:=iA (ev:=ev) dJ IA (hE.sub fun y hy=>by simp[Op.operands,Call.operands]at hy ⊢;exact .inr hy);simpa using this
  ·cases h
 ·rename_i pv ps;obtain⟨c,x,e0,hc,hx,dJ⟩:=dv hp;obtain⟨callee,args,argTypes⟩:=c;simp only at e0 hc dJ;subst e0 hc;simp only[aOp]at h;split at h
  ·rename_i f' first cap l' Ih IA
   simp only[OR.call.injEq]at h;obtain⟨rfl,rfl⟩:=h;have hv:=hE x (by simp[Op.operands,Call.operands]) pv _ hx Ih;obtain⟨vs,ws,e1,h1,h2⟩:=Nh hv;refine⟨vs++args.map ev++ws,?_,?_⟩
   ·simp[Go.execOp,resolve,e1,Deferred.ofValue,invoke,qv hf hb hn]
   ·have:=iA (ev:=ev) dJ IA (hE.sub fun y hy=>by simp[Op.operands,Call.operands]at hy ⊢;exact .inr hy);have h3:ao ρ μ l' (args.map ev).toList:=by simpa using this
    simpa using(h1.append h3).append h2
  ·cases h
  ·cases h
 ·rename_i v l';simp only[aOp]at h;split at h<;>cases h
 ·rename_i x;simp only[aOp]at h;split at h<;>cases h
 ·cases h
theorem Od{o:Oper}{op:Aw}(hp:eZ P nt o=some op)(hE:qn P ρ μ nt o.op.operands.toList tm ev){k:Key}{l:List AV}(h:aOp orc op tm H nx=.yld k l) :
  ∃args lc,μ k=some lc∧(Go.execOp ev o).run P w=(Instr.yield lc.c args).run P w∧ao ρ μ l args.toList:=by
 have he:=yW h (by rintro(⟨_,_,_,e⟩|⟨_,e⟩)<;>cases e);obtain⟨dst,qz,ty,pos,after,guard⟩:=o;cases op<;>first|(cases he;done)|skip
 ·rcases BM h with⟨_,e⟩|⟨_,e⟩<;>cases e
 ·simp only[aOp]at h;split at h<;>cases h
 ·rename_i pv ps;obtain⟨c,x,e0,hc,hx,dJ⟩:=dv hp;obtain⟨callee,args,argTypes⟩:=c;simp only at e0 hc dJ;subst e0 hc;simp only[aOp]at h;split at h
  ·cases h
  ·rename_i k' l' Ih IA;simp only[OR.yld.injEq]at h;obtain⟨rfl,rfl⟩:=h;have hv:=hE x (by simp[Op.operands,Call.operands]) pv _ hx Ih;generalize fu:ev x=xx at hv;cases hv with|yld _ lc r hm hr=>
   subst hr;refine⟨args.map ev,lc,hm,?_,?_⟩
   ·simp[Go.execOp,resolve,fu,Deferred.ofValue,invoke]
   ·have:=iA (ev:=ev) dJ IA (hE.sub fun y hy=>by simp[Op.operands,Call.operands]at hy ⊢;exact .inr hy);simpa using this
  ·cases h
 ·simp only[aOp]at h;split at h<;>cases h
 ·simp only[aOp]at h;split at h<;>cases h
 ·cases h
theorem Og{o:Oper}{op:Aw}(hp:eZ P nt o=some op)(hE:qn P ρ μ nt o.op.operands.toList tm ev){a:AV}(h:aOp orc op tm H nx=.pan a) :
  ∃v,(Go.execOp ev o).run P w=.halt (.panic v) w∧aA ρ μ a v:=by
 have he:=yW h (by rintro(⟨_,_,_,e⟩|⟨_,e⟩)<;>cases e);obtain⟨dst,qz,ty,pos,after,guard⟩:=o;cases op<;>first|(cases he;done)|skip
 ·rcases BM h with⟨_,e⟩|⟨_,e⟩<;>cases e
 ·simp only[aOp]at h;split at h<;>cases h
 ·simp only[aOp]at h;split at h<;>cases h
 ·simp only[aOp]at h;split at h<;>cases h
 ·rename_i px;obtain⟨x,e0,hx⟩:=dv hp;simp only at e0;subst e0;simp only[aOp]at h;split at h
  ·rename_i t u hu;simp only[OR.pan.injEq]at h;subst h;have hv:=hE x (by simp[Op.operands]) px _ hx hu;refine⟨ev x,?_,hv⟩;generalize fu:ev x=xx at hv;cases hv;simp[Go.execOp,fu,Instr.panic]
  ·cases h
 ·cases h
theorem Oh{o:Oper}{op:Aw}(hp:eZ P nt o=some op)(hE:qn P ρ μ nt o.op.operands.toList tm ev){f:Nat}{l:List AV}(h:aOp orc op tm H nx=.dfr f l) :
  ∃c ws vs,o.op=.defer c∧(resolve ev c o.type).run P w=.ok ⟨.fn (.func f) ws,vs⟩ w∧(Go.execOp ev o).run P w=.ok (.defer ⟨.fn (.func f) ws,vs⟩) w∧ao ρ μ l (vs++ws).toList:=by
 have he:=yW h (by rintro(⟨_,_,_,e⟩|⟨_,e⟩)<;>cases e);obtain⟨dst,qz,ty,pos,after,guard⟩:=o;cases op<;>first|(cases he;done)|skip
 ·rcases BM h with⟨_,e⟩|⟨_,e⟩<;>cases e
 ·simp only[aOp]at h;split at h<;>cases h
 ·simp only[aOp]at h;split at h<;>cases h
 ·rename_i pv ps;obtain⟨c,x,e0,hc,hx,dJ⟩:=dv hp;obtain⟨callee,args,argTypes⟩:=c;simp only at e0 hc dJ;subst e0 hc;simp only[aOp]at h;split at h
  ·rename_i f' first cap l' Ih IA
   simp only[OR.dfr.injEq]at h;obtain⟨rfl,rfl⟩:=h;have hv:=hE x (by simp[Op.operands,Call.operands]) pv _ hx Ih;obtain⟨vs,ws,e1,h1,h2⟩:=Nh hv;refine⟨_,ws,vs++args.map ev,rfl,?_,?_,?_⟩
   ·simp[resolve,e1,Deferred.ofValue]
   ·simp[Go.execOp,resolve,e1,Deferred.ofValue]
   ·have:=iA (ev:=ev) dJ IA (hE.sub fun y hy=>by simp[Op.operands,Call.operands]at hy ⊢;exact .inr hy);have h3:ao ρ μ l' (args.map ev).toList:=by simpa using this
    simpa using(h1.append h3).append h2
  ·cases h
 ·simp only[aOp]at h;split at h<;>cases h
 ·cases h
theorem Gu{o:Oper}{op:Aw}(hp:eZ P nt o=some op)(h:aOp orc op tm H nx=.recover):(Go.execOp ev o).run P w=.ok .recover w:=by
 have he:=yW h (by rintro(⟨_,_,_,e⟩|⟨_,e⟩)<;>cases e);obtain⟨dst,qz,ty,pos,after,guard⟩:=o;cases op<;>first|(cases he;done)|skip
 ·rcases BM h with⟨_,e⟩|⟨_,e⟩<;>cases e
 ·simp only[aOp]at h;split at h<;>cases h
 ·simp only[aOp]at h;split at h<;>cases h
 ·simp only[aOp]at h;split at h<;>cases h
 ·simp only[aOp]at h;split at h<;>cases h
 ·obtain⟨c,e0,hc,dJ⟩:=dv hp;obtain⟨callee,args,argTypes⟩:=c;simp only at e0 hc dJ;subst e0 hc dJ;simp[Go.execOp,resolve,invoke,Go.builtin]
end
def Ee(ops:Array Oper):(Nat→Bool)→List Nat→Prop
 |D,[]=>∀i,i<ops.size→D i=true
 |D,i ::r=>i<ops.size∧D i=false∧(∀o,ops[i]?=some o→∀e∈o.after.toList,Region.binds .any e=true→D e.on=true)∧Ee ops (fun j=>D j||j==i) r
theorem Ee.congr{ops:Array Oper}:∀{l:List Nat} {D D':Nat→Bool},(∀i,i<ops.size→D i=D' i)→(∀(i:Nat) (o:Oper),ops[i]?=some o→∀e∈o.after.toList,Region.binds .any e=true→e.on<ops.size)→Ee ops D l→Ee ops D' l
 | [],D,D',h,_,hv=>fun i hi=>by rw[←h i hi];exact hv i hi
 |i ::r,D,D',h,he,hv=>by obtain⟨h1,h2,h3,h4⟩:=hv;refine⟨h1,by rw[←h i h1];exact h2,fun o ho e hm hb=>?_,Ee.congr (fun j hj=>by rw[h j hj]) he h4⟩;rw[←h e.on (he i o ho e hm hb)];exact h3 o ho e hm hb
def Cm(ops:Array Oper):Prop:=∀(i:Nat) (o:Oper),ops[i]?=some o→∀e∈o.after.toList,Region.binds .any e=true→e.on<i
def XJ(n:Nat)(listed:Array Bool):Nat:=(List.range n).countP fun i=>!listed.getD i true
theorem N6{n:Nat}{listed:Array Bool}(hs:listed.size=n){i:Nat}(hi:i<n)(hf:listed.getD i true=false):XJ n listed=XJ n (listed.setIfInBounds i true)+1:=by
 unfold XJ;have key:∀(l:List Nat),l.Nodup→(∀j∈l,j<n)→l.countP (fun j=>!listed.getD j true)=l.countP (fun j=>!(listed.setIfInBounds i true).getD j true)+(if i∈l then 1 else 0):=by
  intro l
  induction l with
  |nil=>intro _ _;simp
  |cons x l ih=>
   intro Da bF;have aey:=List.nodup_cons.1 Da;rw[List.countP_cons,List.countP_cons,ih aey.2 (fun j hj=>bF j (by simp[hj]))];by_cases hx:x=i
   ·subst hx;have h1:(listed.setIfInBounds x true).getD x true=true:=by simp[Array.getD,hs,hi]
    simp only[hf,h1,aey.1,if_false,zk,true_or,if_true];simp
   ·have h1:(listed.setIfInBounds i true).getD x true=listed.getD x true:=by simp only[Array.getD_eq_getD_getElem?];rw[Px (fun e=>hx e.symm)]
    have h2:(i∈x ::l)↔i∈l:=by simp[Ne.symm hx]
    simp only[h1,h2];omega
 rw[key _ List.nodup_range (fun j hj=>by simpa using hj),if_pos (by simpa using hi)]
theorem VI{n:Nat}{listed:Array Bool}(h:0<XJ n listed):∃i,i<n∧listed.getD i true=false∧∀j,j<i→listed.getD j true=true:=by
 unfold XJ at h;rw[List.countP_pos_iff]at h;obtain⟨a,ha,hb⟩:=h;have ha:a<n:=by simpa using ha
 have hb:listed.getD a true=false:=by simpa using hb
 induction a using Nat.strongRecOn with
 |_ a ih=>
  by_cases qq:∀j,j<a→listed.getD j true=true
  ·exact⟨a,ha,hb,qq⟩
  ·simp only[Classical.not_forall]at qq;obtain⟨j,hj,hjf⟩:=qq;exact ih j hj (by simpa using Nat.lt_trans hj ha) (by simpa using hjf) (Nat.lt_trans hj ha) (by simpa using hjf)
theorem Cd{ops:Array Oper}(hd:Cm ops):∀(fuel t:Nat) (listed:Array Bool) (acc:List Nat),listed.size=ops.size→XJ ops.size listed=fuel→
  ∃r,Region.linearise.go .any ops fuel t listed acc=acc.reverse++r∧Ee ops (fun i=>listed.getD i true) r
 |0,t,listed,acc,hs,hu=>by
  refine⟨[],by simp[Region.linearise.go],fun i hi=>?_⟩;show listed.getD i true=true;cases h:listed.getD i true with
  |true=>rfl
  |false=>have:=N6 hs hi h;omega
 |fuel+1,t,listed,acc,hs,hu=>by
  obtain⟨i0,hi0,hf0,aj0⟩:=VI (n:=ops.size) (listed:=listed) (by omega);simp only[Region.linearise.go];generalize hrs:(List.range ops.size).filter (fun i=>!listed.getD i true&&((ops[i]?).map (·.after.all fun e=>!Region.binds .any e||listed.getD e.on false)).getD false)=rs;have jM:∀i,i∈rs↔i<ops.size∧listed.getD i true=false∧∀o,ops[i]?=some o→∀e∈o.after.toList,Region.binds .any e=true→listed.getD e.on false=true:=by
   intro i;rw[←hrs,List.mem_filter];constructor
   ·rintro⟨h1,h2⟩;have hi:i<ops.size:=by simpa using h1
    simp only[fa,Bool.not_eq_true']at h2;refine⟨hi,h2.1,fun o ho e he hb=>?_⟩;have h3:=h2.2;rw[ho]at h3;simp only[Option.map_some,Option.getD_some,Array.all_eq_true_iff_forall_mem]at h3;have:=h3 e (by simpa using he);simpa[hb]using this
   ·rintro⟨hi,h1,h2⟩;refine⟨by simpa using hi,?_⟩;simp only[fa,Bool.not_eq_true'];refine⟨h1,?_⟩;have ho:ops[i]?=some ops[i]:=by simp[hi]
    rw[ho];simp only[Option.map_some,Option.getD_some,Array.all_eq_true_iff_forall_mem];intro e he;cases hb:Region.binds .any e with
    |false=>rfl
    |true=>simpa using h2 _ ho e (by simpa using he) hb
  have cL:i0∈rs:=by
   rw[jM];refine⟨hi0,hf0,fun o ho e he hb=>?_⟩;have bF:=hd i0 o ho e he hb;have h1:=aj0 e.on bF;have:e.on<listed.size:=by omega
   simp only[Array.getD_eq_getD_getElem?,this,getElem?_pos,Option.getD_some]at h1 ⊢;exact h1
  have hlen:0<rs.length:=List.length_pos_of_mem cL;have bF:t%rs.length<rs.length:=Nat.mod_lt _ hlen;have lD:rs[t%rs.length]?=some rs[t%rs.length]:=by simp[bF]
  rw[lD];have qs:rs[t%rs.length]∈rs:=Lt bF;generalize rs[t%rs.length]=i at qs;obtain⟨hi,hf,aj1⟩:=(jM i).1 qs;have hun:=N6 hs hi hf;obtain⟨r,hr,hv⟩:=Cd hd fuel (t / rs.length) (listed.setIfInBounds i true) (i ::acc) (by simp[hs]) (by omega);refine⟨i ::r,?_,hi,hf,fun o ho e he hb=>?_,?_⟩
  ·show Region.linearise.go _ _ _ _ _ _=_;rw[hr];simp
  ·have h1:=aj1 o ho e he hb;have bF:=hd i o ho e he hb;have:e.on<listed.size:=by omega
   simp only[Array.getD_eq_getD_getElem?,this,getElem?_pos,Option.getD_some]at h1 ⊢;exact h1
  ·refine Ee.congr ?_ (fun j o ho e he hb=>?_) hv
   ·intro j hj;by_cases nK:j=i
    ·subst nK;have:j<listed.size:=by omega
     simp[Array.getD,this]
    ·simp only[Array.getD_eq_getD_getElem?];rw[Px (fun e=>nK e.symm)];simp[nK]
   ·have h1:=hd j o ho e he hb;have:j<ops.size:=by
     rcases zE j ops.size with h'|h'
     ·exact h'
     ·rw[Jn h']at ho;cases ho
    omega
theorem Gg{ops:Array Oper}(hd:Cm ops)(t:Nat):Ee ops (fun _=>false) (Region.schedule true ops t):=by
 have hu:XJ ops.size (Array.replicate ops.size false)=ops.size:=by
  unfold XJ;rw[List.countP_eq_length.2 (fun a ha=>by
   have:a<ops.size:=by simpa using ha
   simp[Array.getD,this])]
  simp
 obtain⟨r,hr,hv⟩:=Cd hd ops.size t (Array.replicate ops.size false) [] (by simp) hu;have:Region.schedule true ops t=r:=by simp[Region.schedule,Region.linearise,hr]
 rw[this];refine Ee.congr (fun i hi=>by simp[Array.getD,hi]) (fun j o ho e he hb=>?_) hv;have h1:=hd j o ho e he hb;have:j<ops.size:=by
  rcases zE j ops.size with h'|h'
  ·exact h'
  ·rw[Jn h']at ho;cases ho
 omega
section
variable{P:Program}{fr:Frame}{cs:List Frame}{w w':World}{k:List Item}
def G1(fr:Frame)(cs:List Frame):Goroutine:={frame:=fr,callers:=cs,status:=.running,dying:=none}
theorem OU(hm:fr.mode=.run):stepG P true (G1 fr cs) w=stepG.exec P true true fr cs none w:=by simp[stepG,G1,hm]
theorem IW(hm:fr.mode≠.run):stepG P true (G1 fr cs) w=unwind P true fr cs none w:=by
 cases h:fr.mode with
 |run=>exact absurd h hm
 |returning=>simp[stepG,G1,h]
 |panicking c=>simp[stepG,G1,h]
theorem ct{dG:Frame}{vQ:List Frame}(hm:fr.mode=.run)(h:(stepG.exec P true true fr cs none w).bare=.go (G1 dG vQ) w'):step P (lone fr cs w)=.next (lone dG vQ w'):=
 step_lone_go (by have:=OU (P:=P) (cs:=cs) (w:=w) hm;simp only[G1]at this h;rw[this];exact h)
theorem CR{dG:Frame}{vQ:List Frame}(hm:fr.mode≠.run)(h:(unwind P true fr cs none w).bare=.go (G1 dG vQ) w'):step P (lone fr cs w)=.next (lone dG vQ w'):=
 step_lone_go (by have:=IW (P:=P) (cs:=cs) (w:=w) hm;simp only[G1]at this h;rw[this];exact h)
theorem UX(hm:fr.mode=.run)(ht:fr.todo=.code .skip ::k):step P (lone fr cs w)=.next (lone {fr with todo:=k} cs w):=
 ct hm (by simp[stepG.exec,ht,G1])
theorem Z4{a b:Code}(hm:fr.mode=.run)(ht:fr.todo=.code (.seq a b) ::k):step P (lone fr cs w)=.next (lone {fr with todo:=.code a ::.code b ::k} cs w):=
 ct hm (by simp[stepG.exec,ht,G1])
theorem NC{c:Operand}{a b:Code}{t:Bool}(hm:fr.mode=.run)(ht:fr.todo=.code (.cond c a b) ::k)(hc:fr.eval c=.bool t) :
  step P (lone fr cs w)=.next (lone {fr with todo:=.code (if t then a else b) ::k} cs w):=
 ct hm (by simp[stepG.exec,ht,G1,hc])
theorem Rz{id:Nat}{c:Code}(hm:fr.mode=.run)(ht:fr.todo=.code (.block id c) ::k):step P (lone fr cs w)=.next (lone {fr with todo:=.code c ::.inBlock id ::k} cs w):=
 ct hm (by simp[stepG.exec,ht,G1])
theorem Mh{id:Nat}(hm:fr.mode=.run)(ht:fr.todo=.inBlock id ::k):step P (lone fr cs w)=.next (lone {fr with todo:=k} cs w):=
 ct hm (by simp[stepG.exec,ht,G1])
theorem RA{c:Code}(hm:fr.mode=.run)(ht:fr.todo=.code (.scope c) ::k):step P (lone fr cs w)=.next (lone {fr with todo:=.code c ::.inScope c ::k} cs w):=
 ct hm (by simp[stepG.exec,ht,G1])
theorem RB{i:Nat}(hm:fr.mode=.run)(ht:fr.todo=.code (.label i) ::k):step P (lone fr cs w)=.next (lone {fr with todo:=k} cs w):=
 ct hm (by simp[stepG.exec,ht,G1])
theorem Mi{c:Code}(hm:fr.mode=.run)(ht:fr.todo=.inScope c ::k):step P (lone fr cs w)=.next (lone {fr with todo:=k} cs w):=
 ct hm (by simp[stepG.exec,ht,G1])
theorem UY{c:Code}(hm:fr.mode=.run)(ht:fr.todo=.code (.loop c) ::k):step P (lone fr cs w)=.next (lone {fr with todo:=.code c ::.inLoop c ::k} cs w):=
 ct hm (by simp[stepG.exec,ht,G1])
theorem OE{c:Code}(hm:fr.mode=.run)(ht:fr.todo=.inLoop c ::k):step P (lone fr cs w)=.next (lone {fr with todo:=.code c ::.inLoop c ::k} cs w):=
 ct hm (by simp[stepG.exec,ht,G1])
theorem UZ{id:Nat}{k':List Item}(hm:fr.mode=.run)(ht:fr.todo=.code (.exit id) ::k)(he:exitTo id k=some k'):step P (lone fr cs w)=.next (lone {fr with todo:=k'} cs w):=
 ct hm (by simp[stepG.exec,ht,G1,he])
theorem OV{id:Nat}{ops:Array Oper}(hm:fr.mode=.run)(ht:fr.todo=.code (.region id ops false) ::k) :
  step P (lone fr cs w)=.next (lone {fr with todo:=.inRegion ops (List.range ops.size) ::k} cs w):=
 ct hm (by simp[stepG.exec,ht,G1])
theorem U0{id:Nat}{ops:Array Oper}(hm:fr.mode=.run)(ht:fr.todo=.code (.region id ops true) ::k) :
  ∃t,step P (lone fr cs w)=.next (lone {fr with todo:=.inRegion ops (Region.schedule (P.follows .mixedOrders) ops t) ::k} cs {w with drawn:=w.drawn+1}):=
 ⟨w.tape w.drawn (.order fr.fn id),ct hm (by simp[stepG.exec,ht,G1,choose,Sem.run,Question.forced,Question.cut])⟩
theorem z9{ops:Array Oper}(hm:fr.mode=.run)(ht:fr.todo=.inRegion ops [] ::k):step P (lone fr cs w)=.next (lone {fr with todo:=k} cs w):=
 ct hm (by simp[stepG.exec,ht,G1])
theorem Z5(hm:fr.mode=.run)(ht:fr.todo=[])(hr:fr.roundOf=none):step P (lone fr cs w)=.next (lone {fr with mode:=.returning} cs w):=
 ct hm (by simp[stepG.exec,ht,G1,hr])
theorem Z6(hm:fr.mode=.run)(ht:fr.todo=.code .ret ::k)(hr:fr.roundOf=none):step P (lone fr cs w)=.next (lone {fr with mode:=.returning} cs w):=
 ct hm (by simp[stepG.exec,ht,G1,hr])
variable{ops:Array Oper}{i:Nat}{rest:List Nat}{o:Oper}
theorem Be(hm:fr.mode=.run)(ht:fr.todo=.inRegion ops (i ::rest) ::k)(ho:ops[i]?=some o)(hw:Region.wanted o (yielded ops fr.tmps)=false) :
  step P (lone fr cs w)=.next (lone (fr.finish undef) cs w):=
 ct hm (by simp[stepG.exec,ht,G1,ho,hw])
def cW:Op→Bool
 |.defer _=>true
 |_=>false
theorem sN(ht:fr.todo=.inRegion ops (i ::rest) ::k)(ho:ops[i]?=some o)(hw:Region.wanted o (yielded ops fr.tmps)=true)(hd:fr.roundOf=none∨cW o.op=false) :
  stepG.exec P true true fr cs none w=stepG.apply P true fr cs none (Go.execOp fr.eval o) w:=by
 simp only[stepG.exec,ht,ho,Option.map_some,Option.getD_some,hw,if_true,stepG.oper,Frame.oper?];cases hr:fr.roundOf with
 |none=>rfl
 |some l=>rw[hr]at hd;have hd:cW o.op=false:=hd.resolve_left (by simp);cases qF:o.op<;>first|rfl|(rw[qF]at hd;cases hd)
theorem EK{v:Value}(hm:fr.mode=.run)(ht:fr.todo=.inRegion ops (i ::rest) ::k)(ho:ops[i]?=some o)(hw:Region.wanted o (yielded ops fr.tmps)=true)(hd:fr.roundOf=none∨cW o.op=false)
  (h:(Go.execOp fr.eval o).run P w=.ok (.value v) w'):step P (lone fr cs w)=.next (lone (fr.finish v) cs w'):=
 ct hm (by rw[sN ht ho hw hd];simp[stepG.apply,h,G1])
theorem ND(hm:fr.mode=.run)(ht:fr.todo=.inRegion ops (i ::rest) ::k)(ho:ops[i]?=some o)(hw:Region.wanted o (yielded ops fr.tmps)=true)(hd:fr.roundOf=none∨cW o.op=false)
  (h:(Go.execOp fr.eval o).run P w=.ok .skip w'):step P (lone fr cs w)=.next (lone (fr.finish undef) cs w'):=
 ct hm (by rw[sN ht ho hw hd];simp[stepG.apply,h,G1])
theorem PT{f:FuncId}{args:Array Value}(hm:fr.mode=.run)(ht:fr.todo=.inRegion ops (i ::rest) ::k)(ho:ops[i]?=some o)(hw:Region.wanted o (yielded ops fr.tmps)=true)(hd:fr.roundOf=none∨cW o.op=false)
  (h:(Go.execOp fr.eval o).run P w=.ok (.enter f args) w'):step P (lone fr cs w)=.next (lone (Frame.enter P f args .normal) (fr ::cs) w'):=
 ct hm (by rw[sN ht ho hw hd];simp[stepG.apply,h,G1,ht])
theorem PV{l:Nat}{f:FuncId}{tmps:Array Value}{as bd:Code}(hm:fr.mode=.run)(ht:fr.todo=.inRegion ops (i ::rest) ::k)(ho:ops[i]?=some o)(hw:Region.wanted o (yielded ops fr.tmps)=true)(hd:fr.roundOf=none∨cW o.op=false)
  (h:(Go.execOp fr.eval o).run P w=.ok (.round l f tmps as bd) w'):step P (lone fr cs w)=.next (lone (Frame.round l f tmps as bd .normal) (fr ::cs) w'):=
 ct hm (by rw[sN ht ho hw hd];simp[stepG.apply,h,G1])
theorem PW{v:Value}(hm:fr.mode=.run)(ht:fr.todo=.inRegion ops (i ::rest) ::k)(ho:ops[i]?=some o)(hw:Region.wanted o (yielded ops fr.tmps)=true)(hd:fr.roundOf=none∨cW o.op=false)
  (h:(Go.execOp fr.eval o).run P w=.halt (.panic v) w'):step P (lone fr cs w)=.next (lone {fr with mode:=.panicking [{v,recovered:=false}]} cs w'):=
 ct hm (by rw[sN ht ho hw hd];simp[stepG.apply,h,G1,Frame.raise,hm])
theorem PY{d:Deferred}(hm:fr.mode=.run)(ht:fr.todo=.inRegion ops (i ::rest) ::k)(ho:ops[i]?=some o)(hw:Region.wanted o (yielded ops fr.tmps)=true)(hd:fr.roundOf=none∨cW o.op=false)
  (h:(Go.execOp fr.eval o).run P w=.ok (.defer d) w'):step P (lone fr cs w)=.next (lone ({fr with defers:=d ::fr.defers}.finish undef) cs w'):=
 ct hm (by rw[sN ht ho hw hd];simp[stepG.apply,h,G1])
theorem DK{v:Value}{vQ:List Frame}(hm:fr.mode=.run)(ht:fr.todo=.inRegion ops (i ::rest) ::k)(ho:ops[i]?=some o)(hw:Region.wanted o (yielded ops fr.tmps)=true)(hr:fr.roundOf=none)
  (h:(Go.execOp fr.eval o).run P w=.ok .recover w') (LN:tryRecover fr cs=some (v,vQ)):step P (lone fr cs w)=.next (lone (fr.finish v) vQ w'):=
 ct hm (by rw[sN ht ho hw (.inl hr)];simp[stepG.apply,h,G1,hr,LN])
theorem DL(hm:fr.mode=.run)(ht:fr.todo=.inRegion ops (i ::rest) ::k)(ho:ops[i]?=some o)(hw:Region.wanted o (yielded ops fr.tmps)=true)(hr:fr.roundOf=none)
  (h:(Go.execOp fr.eval o).run P w=.ok .recover w') (LN:tryRecover fr cs=none):step P (lone fr cs w)=.next (lone (fr.finish .nilIface) cs w'):=
 ct hm (by rw[sN ht ho hw (.inl hr)];simp[stepG.apply,h,G1,hr,LN])
end
end Go.Sx
