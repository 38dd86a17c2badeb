/- A part of the proof. No condition. -/
import Derived.Test.YtecbfpngkfdkoaaGreatP1
import Derived.Laws.Sem
import Derived.Laws.World
import GoSem.Dispatch
import Derived.Laws.StructEq
import Derived.Lib.Strings
import Derived.ChangeKeysEq
set_option linter.unusedSimpArgs false
set_option linter.unusedVariables false
set_option linter.unusedSectionVars false
namespace Go.Sx
open Go.RowKit
theorem gC:type_of% @Result.andThen_ok:=@Result.andThen_ok
theorem kb:type_of% @Sem.run_bind:=@Sem.run_bind
theorem nJ:type_of% @Sem.run_pure:=@Sem.run_pure
structure Touch(w w':World)(c:Nat):Prop where
 os:w'.os=w.os
 tape:w'.tape=w.tape
 output:w'.output=w.output
 size:w.heap.size≤w'.heap.size
 other:∀k,k≠c→k<w.heap.size→w'.heap[k]?=w.heap[k]?
 dr:w.drawn≤w'.drawn
theorem Touch.refl(w:World)(c:Nat):Touch w w c:=⟨rfl,rfl,rfl,cI _,fun _ _ _=>rfl,cI _⟩
theorem Touch.trans{a b d:World}{c:Nat}(h:Touch a b c)(h':Touch b d c):Touch a d c:=
 ⟨h'.os.trans h.os,h'.tape.trans h.tape,h'.output.trans h.output,Nat.le_trans h.size h'.size,
  fun k hk hs=>(h'.other k hk (GD hs h.size)).trans (h.other k hk hs),Nat.le_trans h.dr h'.dr⟩
theorem Touch.below{a w w':World}{B c:Nat}(h:Touch w w' c)(hb:Below B a w)(hB:B≤w.heap.size)(hc:B≤c):Below B a w':=
 hb.trans ⟨h.os,h.tape,h.output,h.size,fun k hk=>h.other k (by omega) (by omega)⟩
theorem Touch.alloc(w:World)(o:Obj):Touch w (w.alloc o) w.heap.size:=
 ⟨rfl,rfl,rfl,by simp,fun k _ hs=>Below.heap_alloc w o k hs,cI _⟩
theorem Touch.drawn(w:World)(n c:Nat)(hn:w.drawn≤n):Touch w {w with drawn:=n} c:=⟨rfl,rfl,rfl,cI _,fun _ _ _=>rfl,hn⟩
def zm{α:Type}(f:Key→Option α)(k:Key)(x:Option α):Key→Option α:=fun b=>if b.toNat=k.toNat then x else f b
theorem dW{α:Type}(f:Key→Option α)(k:Key)(x:Option α):zm f k x k=x:=by simp[zm]
theorem bz{α:Type}(f:Key→Option α){k b:Key}(x:Option α)(h:b≠k):zm f k x b=f b:=by have:b.toNat≠k.toNat:=fun e=>h (Key.toNat_inj e);simp[zm,this]
def Mu.put(μ:Mu)(k:Key)(l:Loc):Mu:=⟨zm μ.loc k (some l),μ.fz⟩
theorem Mu.cC(μ:Mu)(k:Key)(l:Loc):(μ.put k l) k=some l:=dW _ _ _
theorem Mu.mX(μ:Mu){k b:Key}(l:Loc)(h:b≠k):(μ.put k l) b=μ b:=bz _ _ h
theorem Mu.qH{μ:Mu}{k:Key}{l:Loc}(hk:μ k=none∨μ k=some l):μ.le (μ.put k l):=by
 refine⟨fun b l' e=>?_,fun _ _ _ h=>h⟩;by_cases hb:b=k
 ·subst hb;rw[Mu.cC];rcases hk with hk|hk
  ·rw[hk]at e;cases e
  ·rw[hk]at e;exact e
 ·rw[Mu.mX _ _ hb];exact e
section
variable{P:Program}{ρ:Nat→Int}{w0:W0}{w w':World}{μ:Mu}{G G':Key→Option ab}{nx:Nat}
theorem aL.sub(h:aL P ρ w0 μ G nx w)(hs:∀b B,G' b=some B→G b=some B):aL P ρ w0 μ G' nx w:=
 ⟨fun b B e=>h.DI b B (hs b B e),fun b b' B B' l l' e e'=>h.sep b b' B B' l l' (hs _ _ e) (hs _ _ e'),h.Dc,fun b B l e=>h.own b B l (hs _ _ e),h.GH,h.new,h.below,h.LQ,fun b B l n e=>h.Qv b B l n (hs _ _ e),h.Tj,h.Tk,fun b L l e=>h.Tl b L l (hs _ _ e),h.dr⟩
theorem aL.acx{nx':Nat}(h:aL P ρ w0 μ G nx w)(hn:nx≤nx'):aL P ρ w0 μ G nx' w:=
 ⟨h.DI,h.sep,h.Dc,h.own,h.GH,fun b l e=>GD (h.new b l e) hn,h.below,h.LQ,h.Qv,h.Tj,h.Tk,h.Tl,h.dr⟩
theorem aL.drawn(h:aL P ρ w0 μ G nx w)(n:Nat)(hn:w.drawn≤n):aL P ρ w0 μ G nx {w with drawn:=n}:=
 ⟨h.DI,h.sep,h.Dc,h.own,h.GH,h.new,h.below.trans ⟨rfl,rfl,rfl,cI _,fun _ _=>rfl⟩,h.LQ,h.Qv,h.Tj,h.Tk,h.Tl,Nat.le_trans h.dr hn⟩
theorem aL.Qx(h:aL P ρ w0 μ G nx w)(n:Nat):aL P ρ {w0 with drawn:=0} μ G nx {w with drawn:=n}:=
 ⟨h.DI,h.sep,h.Dc,h.own,h.GH,h.new,⟨h.below.os,h.below.tape,h.below.output,h.below.size,h.below.block⟩,h.LQ,h.Qv,h.Tj,h.Tk,h.Tl,Nat.zero_le _⟩
theorem aL.L5(h:aL P ρ w0 μ G nx w)(i:Nat):μ.fz w.heap.size i=none:=by
 cases e:μ.fz w.heap.size i with
 |none=>rfl
 |some v=>obtain⟨arr,elem,f,h1,_⟩:=h.LQ _ _ _ e;simp at h1
theorem aL.put(h:aL P ρ w0 μ G nx w)(k:Key)(B:ab)(l:Loc)(o:Obj){nx':Nat}
  (hk:μ k=none∨μ k=some l) (hw:Touch w w' l.c) (ho:w'.heap[l.c]?=some o)
  (hB:zn P ρ (μ.put k l) B l o) (zS:∀b B' l',G b=some B'→μ b=some l'→b≠k→l'.c≠l.c)
  (mn:w0.heap.size≤l.c) (hn:nx≤nx') (Fa:k.toNat<nx') (hz:∀i,μ.fz l.c i=none) :
  μ.le (μ.put k l)∧aL P ρ w0 (μ.put k l) (zm G k (some B)) nx' w':=by
 have hle:μ.le (μ.put k l):=Mu.qH hk;have X9:l.c<w'.heap.size:=by
  rcases zE l.c w'.heap.size with h'|h'
  ·exact h'
  ·rw[Jn h']at ho;cases ho
 have oq:w0.heap.size≤w.heap.size:=h.below.size;refine⟨hle,?_,?_,?_,?_,?_,?_,hw.below h.below oq mn,?_,?_,h.Tj,h.Tk,?_,Nat.le_trans h.dr hw.dr⟩
 ·intro b B' e;by_cases hb:b=k
  ·subst hb;rw[dW]at e;cases e;exact⟨l,o,Mu.cC _ _ _,ho,hB⟩
  ·rw[bz _ _ hb]at e;obtain⟨l',o',h1,h2,h3⟩:=h.DI b B' e;refine⟨l',o',by rw[Mu.mX _ _ hb];exact h1,?_,h3.mono hle⟩;rw[hw.other l'.c (zS b B' l' e h1 hb) (h.Dc b l' h1)];exact h2
 ·intro b b' B1 B2 l1 l2 e1 e2 m1 m2 cL;by_cases hb:b=k
  ·subst hb;rw[Mu.cC]at m1;cases m1;have eA:b'≠b:=fun e=>cL e.symm;rw[bz _ _ eA]at e2;rw[Mu.mX _ _ eA]at m2;exact fun e=>zS b' B2 l2 e2 m2 eA e.symm
  ·rw[bz _ _ hb]at e1;rw[Mu.mX _ _ hb]at m1;by_cases eA:b'=k
   ·subst eA;rw[Mu.cC]at m2;cases m2;exact zS b B1 l1 e1 m1 hb
   ·rw[bz _ _ eA]at e2;rw[Mu.mX _ _ eA]at m2;exact h.sep b b' B1 B2 l1 l2 e1 e2 m1 m2 cL
 ·intro b l' e;by_cases hb:b=k
  ·subst hb;rw[Mu.cC]at e;cases e;exact X9
  ·rw[Mu.mX _ _ hb]at e;exact GD (h.Dc b l' e) hw.size
 ·intro b B' l' e m;by_cases hb:b=k
  ·subst hb;rw[Mu.cC]at m;cases m;exact .inr mn
  ·rw[bz _ _ hb]at e;rw[Mu.mX _ _ hb]at m;exact h.own b B' l' e m
 ·intro b hb;obtain⟨ext,he⟩:=h.GH b hb;exact⟨ext,hle.l _ _ he⟩
 ·intro b l' e;by_cases hb:b=k
  ·subst hb;exact Fa
  ·rw[Mu.mX _ _ hb]at e;exact GD (h.new b l' e) hn
 ·intro c i v e;have e:μ.fz c i=some v:=e;obtain⟨arr,elem,f,h1,h2⟩:=h.LQ c i v e;have hc:c≠l.c:=by intro hc;subst hc;rw[hz i]at e;cases e
  have bF:c<w.heap.size:=by
   rcases zE c w.heap.size with h'|h'
   ·exact h'
   ·rw[Jn h']at h1;cases h1
  exact⟨arr,elem,f,by rw[hw.other c hc bF];exact h1,h2⟩
 ·intro b B' l' n e m sf i hi;show μ.fz l'.c i=none;by_cases hb:b=k
  ·subst hb;rw[Mu.cC]at m;cases m;exact hz i
  ·rw[bz _ _ hb]at e;rw[Mu.mX _ _ hb]at m;exact h.Qv b B' l' n e m sf i hi
 ·intro b L l' e m;by_cases hb:b=k
  ·subst hb;rw[Mu.cC]at m;cases m;exact .inl mn
  ·rw[bz _ _ hb]at e;rw[Mu.mX _ _ hb]at m;rcases h.Tl b L l' e m with h1|h1
   ·exact .inl h1
   ·refine .inr fun arr ee f i v ha hv=>h1 arr ee f i v ?_ hv;rw[←hw.other l'.c (zS b _ l' e m hb) (h.Dc b l' m)];exact ha
theorem aL.alloc(h:aL P ρ w0 μ G nx w)(k:Key)(B:ab)(o:Obj)(ext:Nat){nx':Nat}(hk:μ k=none)
  (hB:zn P ρ (μ.put k ⟨w.heap.size,0,ext⟩) B ⟨w.heap.size,0,ext⟩ o) (hn:nx≤nx') (Fa:k.toNat<nx') :
  μ.le (μ.put k ⟨w.heap.size,0,ext⟩)∧aL P ρ w0 (μ.put k ⟨w.heap.size,0,ext⟩) (zm G k (some B)) nx' (w.alloc o):=
 h.put k B ⟨w.heap.size,0,ext⟩ o (.inl hk) (Touch.alloc w o) (by show(w.heap.push o)[w.heap.size]?=some o;simp) hB
  (fun b B' l' _ m _=>Nat.ne_of_lt (h.Dc b l' m)) h.below.size hn Fa h.L5
theorem HSub.set{h:T ab}(hs:HSub h G)(k:Key)(B:Option ab):HSub (ar k B h) (zm G k B):=by
 intro b B' e;by_cases hb:b=k
 ·subst hb;rw[gTSm]at e;rw[dW];exact e
 ·rw[bQ _ _ _ _ hb]at e;rw[bz _ _ hb];exact hs b B' e
theorem aL.cells(h:aL P ρ w0 μ G nx w){b:Key}{L:List AV}{k:CK}(hb:G b=some (.cells L k)) :
  ∃l arr elem fz,μ b=some l∧w.heap[l.c]?=some (.cells arr elem fz)∧(∀i a,L[i]?=some a→∃v,arr[l.base+i]?=some v∧aA ρ μ a v)∧
   l.base+l.ext≤arr.size∧L.length≤l.ext∧(k≠.ro→fz=(0,0))∧(k≠.part→L.length=l.ext):=by
 obtain⟨l,o,h1,h2,h3⟩:=h.DI b _ hb;cases h3 with
 |cells L k l arr elem fz hc hs hl hf he=>exact⟨l,arr,elem,fz,h1,h2,hc,hs,hl,hf,he⟩
theorem aL.VU(h:aL P ρ w0 μ G nx w){b:Key}{B:ab}(hb:G b=some B){l:Loc}(hl:μ b=some l)(sf:B.lo l=some 0)(i:Nat):μ.fz l.c i=none:=
 h.Qv b B l 0 hb hl sf i (Nat.zero_le _)
end
theorem lS(c o n:Nat):(⟨c,o,none⟩:Addr).add n=⟨c,o+n,none⟩:=by
 unfold Addr.add;split
 ·rename_i h;subst h;rfl
 ·rfl
theorem Ep{w:World}{c:Nat}{arr:Array Value}{elem:TypeId}{fz:Nat×Nat}(h:w.heap[c]?=some (.cells arr elem fz))(o:Nat) :
  w.cell? ⟨c,o,none⟩=arr[o]?:=by
 simp[World.cell?,h]
theorem sH(P:Program)(w:World)(c o:Nat)(arr:Array Value)(elem:TypeId)(fz:Nat×Nat)(hc:w.heap[c]?=some (.cells arr elem fz)) :
  ∀(n i:Nat) (acc:Array Value),o+i+n≤arr.size→
   (loadCellsFrom ⟨c,o,none⟩ i n acc).run P w=.ok (acc++((arr.toList.drop (o+i)).take n).toArray) w
 |0,i,acc,_=>by simp[loadCellsFrom]
 |n+1,i,acc,h=>by
  have bF:o+i<arr.size:=by omega
  have uM:w.cell? ⟨c,o+i,none⟩=some arr[o+i]:=by rw[Ep hc];simp[bF]
  simp only[loadCellsFrom,kb,run_load,lS,uM,gC];rw[sH P w c o arr elem fz hc n (i+1) _ (by omega)];have hd:arr.toList.drop (o+i)=arr[o+i] ::arr.toList.drop (o+(i+1)):=by rw[zqt (by simpa using bF)];simp[Nat.add_assoc]
  rw[hd];apply congrArg (fun x=>Result.ok x w);apply Array.ext';simp
theorem gD(P:Program)(w:World)(c o:Nat)(arr:Array Value)(elem:TypeId)(fz:Nat×Nat)(hc:w.heap[c]?=some (.cells arr elem fz))(n:Nat)(h:o+n≤arr.size) :
  (loadCells ⟨c,o,none⟩ n).run P w=.ok ((arr.toList.drop o).take n).toArray w:=by
 have:=sH P w c o arr elem fz hc n 0 #[] (by omega);simpa[loadCells]using this
def iz(arr:Array Value)(o:Nat):List Value→Array Value
 | []=>arr
 |v ::vs=>iz (arr.setIfInBounds o v) (o+1) vs
theorem jQ:∀(vs:List Value) (arr:Array Value) (o:Nat),(iz arr o vs).size=arr.size
 | [],_,_=>rfl
 |v ::vs,arr,o=>by simp[iz,jQ vs]
theorem gb:∀(vs:List Value) (arr:Array Value) (o j:Nat),o+vs.length≤arr.size→
  (iz arr o vs)[j]?=if o≤j∧j<o+vs.length then vs[j-o]? else arr[j]?
 | [],arr,o,j,_=>by
  have:¬(o≤j∧j<o+([]:List Value).length):=by simp
  rw[if_neg this];rfl
 |v ::vs,arr,o,j,h=>by
  simp only[Ci]at h;rw[iz,gb vs _ (o+1) j (by simp;omega)];simp only[Ci];by_cases hj:o=j
  ·subst hj;rw[if_neg (by omega),if_pos (by omega)];have:o<arr.size:=by omega
   simp[this]
  ·by_cases h1:o+1≤j∧j<o+1+vs.length
   ·rw[if_pos h1,if_pos (by omega)];have:j-o=(j-(o+1))+1:=by omega
    rw[this];simp
   ·rw[if_neg h1,if_neg (by omega),Px hj]
theorem lR(P:Program)(c o:Nat)(elem:TypeId):∀(vs:List Value) (i:Nat) (w:World) (arr:Array Value),
  w.heap[c]?=some (.cells arr elem (0,0))→o+i+vs.length≤arr.size→(∀v∈vs,v.oneCell'=true)→
  ∃w',(storeCells ⟨c,o,none⟩ vs i).run P w=.ok () w'∧Touch w w' c∧w'.heap.size=w.heap.size∧w'.heap[c]?=some (.cells (iz arr (o+i) vs) elem (0,0))
 | [],i,w,arr,hc,_,_=>⟨w,rfl,Touch.refl w c,rfl,hc⟩
 |v ::vs,i,w,arr,hc,hs,hv=>by
  simp only[Ci]at hs;have bF:o+i<arr.size:=by omega
  have uM:w.cell? ⟨c,o+i,none⟩=some arr[o+i]:=by rw[Ep hc];simp[bF]
  have PC:w.frozen? ⟨c,o+i,none⟩=false:=by simp[World.frozen?,hc]
  have ud:c<w.heap.size:=by
   rcases zE c w.heap.size with h'|h'
   ·exact h'
   ·rw[Jn h']at hc;cases hc
  have Nb:(w.setCell ⟨c,o+i,none⟩ v).heap[c]?=some (.cells (arr.setIfInBounds (o+i) v) elem (0,0)):=by simp[World.setCell,Array.getElem?_modify,hc]
  obtain⟨w',h1,h2,h3,h4⟩:=lR P c o elem vs (i+1) (w.setCell ⟨c,o+i,none⟩ v) _ Nb (by simp;omega) (fun u hu=>hv u (by simp[hu]));refine⟨w',?_,?_,?_,?_⟩
  ·simp only[storeCells,kb,lS,run_store P w _ v _ (hv v (by simp)),uM,PC,Gy,if_false,gC];exact h1
  ·have ht:Touch w (w.setCell ⟨c,o+i,none⟩ v) c:=⟨rfl,rfl,rfl,by simp,fun k hk _=>Below.heap_setCell w ⟨c,o+i,none⟩ v k hk,cI _⟩;exact ht.trans h2
  ·rw[h3];simp
  ·rw[h4,iz,Nat.add_assoc]
section
variable{P:Program}{w:World}
theorem aa{t:TypeId}{d:TypeDesc}(h:P.underlying t=some d):(underlying t).run P w=.ok d w:=by simp[underlying,h]
theorem gB{t:TypeId}{i:TypeInfo}(h:P.info? t=some i):(typeInfo t).run P w=.ok i w:=by simp[typeInfo,h]
theorem aQ{t:TypeId}{i:TypeInfo}(h:P.info? t=some i):(sizeOf t).run P w=.ok i.size w:=by simp[sizeOf,gB h]
theorem kR{t:TypeId}{i:TypeInfo}{z:Value}(h:P.info? t=some i)(hz:i.zero=some z):(zeroValue t).run P w=.ok z w:=by simp[zeroValue,gB h,hz]
def EO:TypeDesc→Bool
 |.struct _=>true
 |.array _ _=>true
 |_=>false
theorem mM{t:TypeId}{d:TypeDesc}(h:P.underlying t=some d):(isAgg t).run P w=.ok (EO d) w:=by simp only[isAgg,kb,aa h,gC];cases d<;>rfl
end
theorem gk{P:Program}{t:TypeId}{ti:TI}(h:Lo P t=some ti) :
  ∃i d z,P.info? t=some i∧P.underlying t=some d∧i.zero=some z∧gZ ot z=some ti.zero∧ti.size=i.size∧ti.agg=EO d:=by
 unfold Lo at h;split at h
 ·rename_i i d hi hd;split at h
  ·rename_i z hz;split at h
   ·rename_i a ha;simp only[bB]at h;subst h;exact⟨i,d,z,hi,hd,hz,ha,rfl,by cases d<;>rfl⟩
   ·simp at h
  ·simp at h
 ·simp at h
section
variable{P:Program}{ρ:Nat→Int}{w0:W0}{w:World}{μ:Mu}{G:Key→Option ab}{nx:Nat}
theorem qC{L:List AV}{base:Nat}{arr:Array Value}(hc:∀i a,L[i]?=some a→∃v,arr[base+i]?=some v∧aA ρ μ a v)
  (hs:base+L.length≤arr.size) {off n:Nat} (h:off+n≤L.length) :
  ao ρ μ ((L.drop off).take n) ((arr.toList.drop (base+off)).take n):=by
 refine ao.EP ?_ ?_
 ·simp;omega
 ·intro i a ha;have hi:i<n:=by
   rcases zE i n with h'|h'
   ·exact h'
   ·rw[JE (by simp;omega)]at ha;cases ha
  rw[List.getElem?_take_of_lt hi,List.getElem?_drop]at ha;obtain⟨v,hv,hr⟩:=hc (off+i) a ha;refine⟨v,?_,hr⟩;rw[List.getElem?_take_of_lt hi,List.getElem?_drop];simpa[Nat.add_assoc]using hv
theorem Cn{off n:Nat}{L:List AV}{a:AV}(h:qJ true off n L=some a):a=.agg ((L.drop off).take n)∧(off+n≤L.length∨(n=0∧L.length<off)):=by
 simp only[qJ,cond_true,takeC_eq,dropL_eq]at h;split at h
 ·rename_i hn;simp only[bB]at h;refine⟨h.symm,?_⟩;simp at hn;omega
 ·cases h
theorem Co{off n:Nat}{L:List AV}{a:AV}(h:qJ false off n L=some a):L[off]?=some a:=by simpa only[qJ,cond_false,nth_eq]using h
theorem zF(hM:aL P ρ w0 μ G nx w){b:Key}{L:List AV}{k:CK}(hb:G b=some (.cells L k)){t:TypeId}{i:TypeInfo}{d:TypeDesc}
  (hi:P.info? t=some i) (hd:P.underlying t=some d) {off:Nat} {a:AV} (hp:qJ (EO d) off i.size L=some a) {l:Loc} (hl:μ b=some l) :
  ∃v,(loadVar t ⟨l.c,l.base+off,none⟩).run P w=.ok v w∧aA ρ μ a v:=by
 obtain⟨l',arr,elem,fz,h1,h2,hc,hs,hle,_⟩:=hM.cells hb;rw[hl]at h1;cases h1;simp only[loadVar,kb,mM hd,gC];cases ER:EO d with
 |true=>
  rw[ER]at hp;obtain⟨rfl,hn⟩:=Cn hp;by_cases h0:i.size=0
  ·refine⟨.agg #[],?_,?_⟩
   ·simp[aQ hi,h0,loadCells,loadCellsFrom]
   ·rw[h0];simp only[List.take_zero];exact .agg _ _ .nil
  ·have hn:off+i.size≤L.length:=by omega
   refine⟨.agg ((arr.toList.drop (l.base+off)).take i.size).toArray,?_,.agg _ _ ?_⟩
   ·simp only[if_true,kb,aQ hi,gC,gD P w l.c (l.base+off) arr elem fz h2 i.size (by omega),nJ]
   ·simpa using qC hc (by omega) hn
 |false=>rw[ER]at hp;obtain⟨v,hv,hr⟩:=hc off a (Co hp);refine⟨v,?_,hr⟩;simp only[Gy,if_false,run_load,Ep h2,hv]
theorem JG(hM:aL P ρ w0 μ G nx w){c o:Nat}{vs:List Value}(hf:∀i v,vs[i]?=some v→μ.fz c (o+i)=some v)(cL:0<vs.length) :
  ∃arr elem f,w.heap[c]?=some (.cells arr elem f)∧∀i v,vs[i]?=some v→arr[o+i]?=some v:=by
 obtain⟨v,hv⟩:∃v,vs[0]?=some v:=⟨vs[0],by simp[cL]⟩;obtain⟨arr,elem,f,h1,_⟩:=hM.LQ _ _ _ (hf 0 v hv);refine⟨arr,elem,f,h1,fun i u hu=>?_⟩;obtain⟨AG,Hm,f',h2,h3⟩:=hM.LQ _ _ _ (hf i u hu);rw[h1]at h2;cases h2;exact h3
theorem Er(hM:aL P ρ w0 μ G nx w){c o:Nat}{vs:List Value}(hf:∀i v,vs[i]?=some v→μ.fz c (o+i)=some v){n:Nat}(hn:n≤vs.length) :
  (loadCells ⟨c,o,none⟩ n).run P w=.ok (vs.take n).toArray w:=by
 by_cases h0:n=0
 ·subst h0;simp[loadCells,loadCellsFrom]
 ·obtain⟨arr,elem,f,h1,h2⟩:=JG hM hf (by omega);have abR:o+n≤arr.size:=by
   have h3:=h2 (n-1) vs[n-1] (by simp);rcases zE (o+(n-1)) arr.size with h'|h'
   ·omega
   ·rw[Jn h']at h3;cases h3
  rw[gD P w c o arr elem f h1 n abR];congr 1;congr 1;apply List.ext_getElem?;intro i;by_cases hi:i<n
  ·rw[List.getElem?_take_of_lt hi,List.getElem?_take_of_lt hi,List.getElem?_drop];have hv:vs[i]?=some (vs[i]'(by omega)):=by simp
   rw[hv];simpa using h2 i _ hv
  ·rw[JE (by simp;omega),JE (by simp;omega)]
theorem xR{c o:Nat}{vs:List Value}(hf:∀i v,vs[i]?=some v→μ.fz c (o+i)=some v)(off:Nat):∀i v,(vs.drop off)[i]?=some v→μ.fz c (o+off+i)=some v:=by intro i v h;rw[List.getElem?_drop]at h;rw[Nat.add_assoc];exact hf _ _ h
theorem Ii{c o:Nat}{vs:List Value}(hf:∀i v,vs[i]?=some v→μ.fz c (o+i)=some v)(n:Nat):∀i v,(vs.take n)[i]?=some v→μ.fz c (o+i)=some v:=by
 intro i v h;by_cases hi:i<n
 ·rw[List.getElem?_take_of_lt hi]at h;exact hf _ _ h
 ·rw[JE (by simp;omega)]at h;cases h
theorem LR(hM:aL P ρ w0 μ G nx w){l:List AV}{vs:List Value}(hr:ao ρ μ l vs){c o:Nat}(hf:∀i v,vs[i]?=some v→μ.fz c (o+i)=some v){t:TypeId}{i:TypeInfo}{d:TypeDesc}
  (hi:P.info? t=some i) (hd:P.underlying t=some d) {a:AV} (hp:qJ (EO d) 0 i.size l=some a) :
  ∃v,(loadVar t ⟨c,o,none⟩).run P w=.ok v w∧aA ρ μ a v:=by
 simp only[loadVar,kb,mM hd,gC];have hlen:=hr.length;cases ER:EO d with
 |true=>
  rw[ER]at hp;obtain⟨rfl,hn⟩:=Cn hp;have hn:i.size≤vs.length:=by omega
  refine⟨.agg (vs.take i.size).toArray,?_,.agg _ _ ?_⟩
  ·simp only[if_true,kb,aQ hi,gC,Er hM hf hn,nJ]
  ·simpa using hr.take i.size
 |false=>
  rw[ER]at hp;obtain⟨v,hv,XV⟩:=hr.get 0 a (Co hp);obtain⟨arr,elem,f,h1,h2⟩:=JG hM hf (by
   rcases Nat.eq_zero_or_pos vs.length with h'|h'
   ·rw[H8 h']at hv;cases hv
   ·exact h')
  refine⟨v,?_,XV⟩;have:=h2 0 v hv;simp only[Gy,if_false,run_load,Ep h1,Nat.add_zero]at this ⊢;simp only[this]
theorem ES{t:TypeId}{i:TypeInfo}{d:TypeDesc}(hi:P.info? t=some i)(hd:P.underlying t=some d){off:Nat}{L:List AV}{vs:Array Value}(hL:ao ρ μ L vs.toList)
  {a:AV} (hp:qJ (EO d) off i.size L=some a):∃v,(part t vs off).run P w=.ok v w∧aA ρ μ a v:=by
 simp only[part,kb,mM hd,gC];cases ER:EO d with
 |true=>
  rw[ER]at hp;obtain⟨rfl,hn⟩:=Cn hp;refine⟨.agg (vs.extract off (off+i.size)),?_,.agg _ _ ?_⟩
  ·simp[aQ hi]
  ·have:(vs.extract off (off+i.size)).toList=(vs.toList.drop off).take i.size:=by simp[List.extract]
   rw[this];exact(hL.drop off).take i.size
 |false=>
  rw[ER]at hp;obtain⟨v,hv,hr⟩:=hL.get off a (Co hp);refine⟨v,?_,hr⟩;have:vs[off]?=some v:=by simpa using hv
  simp[this]
end
def kH(op:BinOp)(x y:Int):Option Bool:=
 match op with
 |.eql=>some (x==y)
 |.neq=>some (x != y)
 |.lss=>some (decide (x<y))
 |.leq=>some (decide (x≤y))
 |.gtr=>some (decide (x>y))
 |.geq=>some (decide (x≥y))
 |_=>none
def cD(ρ:Nat→Int)(orc:dP):Prop:=∀op a b r,orc.ask op a b=some r→kH op (a.den ρ) (b.den ρ)=some r
theorem cD.nil(ρ:Nat→Int):cD ρ []:=by intro op a b r h;cases h
theorem cD.cons{ρ:Nat→Int}{orc:dP}{o:BinOp}{x y:SI}{r:Bool}(h:kH o (x.den ρ) (y.den ρ)=some r)(h':cD ρ orc):cD ρ ((o,x,y,r) ::orc):=by
 intro op a b r' e;simp only[dP.ask]at e;cases hc:Cs o op&&SI.beq x a&&SI.beq y b with
 |false=>rw[hc]at e;exact h' op a b r' e
 |true=>rw[hc]at e;simp only[cond_true,bB]at e;simp only[fa]at hc;rw[←HQ hc.1.1,←SI.eq_of_beq hc.1.2,←SI.eq_of_beq hc.2,←e];exact h
theorem rl{ρ:Nat→Int}{orc:dP}(ho:cD ρ orc){op:BinOp}{a b:SI}{r:Bool}(h:zl orc op a b=some r):kH op (a.den ρ) (b.den ρ)=some r:=by
 unfold zl at h;split at h
 ·rename_i x y;simp only[SI.den];cases op<;>simp only[eqI_eq,CT,bB]at h<;>first|(cases h;done)|skip
  all_goals simp only[kH,bB]
  all_goals subst h
  all_goals first|rfl|skip
  ·simp[←decide_not,Int.not_lt]
  ·simp[←decide_not,Int.not_lt]
 ·cases hb:SI.beq a b with
  |false=>rw[hb]at h;exact ho op a b r h
  |true=>
   rw[hb]at h;rw[SI.eq_of_beq hb];simp only[cond_true]at h;cases op<;>simp only[bB]at h<;>first|(cases h;done)|skip
   all_goals subst h
   all_goals simp[kH]
theorem ME{P:Program}{w:World}{op:BinOp}{x y:Int}{r:Bool}(h:kH op x y=some r):(Op.intCmp op x y).run P w=.ok (.bool r) w:=by cases op<;>simp only[kH,bB]at h<;>first|(cases h;done)|(subst h;rfl)
theorem wrap_u64(x:Nat):IntKind.wrap .u64 ((x%2^64:Nat):Int)=Int.emod (.ofNat x) 18446744073709551616:=by simp only[IntKind.wrap,IntKind.signed,IntKind.bits,Bool.false_and,Gy,if_false];show((x%2^64:Nat):Int)%2^64=(x:Int)%18446744073709551616;omega
theorem aem(m n:Nat):IntKind.wrap .u64 ((BitVec.ofInt 64 (Int.ofNat m) &&& BitVec.ofInt 64 (Int.ofNat n)).toNat:Int)=Int.emod (.ofNat (Nat.land m n)) 18446744073709551616:=by rw[←wrap_u64];show IntKind.wrap .u64 ((BitVec.ofInt 64 (m:Int) &&& BitVec.ofInt 64 (n:Int)).toNat:Int)=IntKind.wrap .u64 (((m &&& n)%2^64:Nat):Int);rw[BitVec.ofInt_natCast,BitVec.ofInt_natCast,BitVec.toNat_and,BitVec.toNat_ofNat,BitVec.toNat_ofNat,Nat.and_mod_two_pow]
theorem ajK(m n:Nat):IntKind.wrap .u64 ((BitVec.ofInt 64 (Int.ofNat m) ||| BitVec.ofInt 64 (Int.ofNat n)).toNat:Int)=Int.emod (.ofNat (Nat.lor m n)) 18446744073709551616:=by rw[←wrap_u64];show IntKind.wrap .u64 ((BitVec.ofInt 64 (m:Int) ||| BitVec.ofInt 64 (n:Int)).toNat:Int)=IntKind.wrap .u64 (((m ||| n)%2^64:Nat):Int);rw[BitVec.ofInt_natCast,BitVec.ofInt_natCast,BitVec.toNat_or,BitVec.toNat_ofNat,BitVec.toNat_ofNat,Nat.or_mod_two_pow]
theorem aen(m n:Nat):IntKind.wrap .u64 ((BitVec.ofInt 64 (Int.ofNat m) ^^^ BitVec.ofInt 64 (Int.ofNat n)).toNat:Int)=Int.emod (.ofNat (Nat.xor m n)) 18446744073709551616:=by rw[←wrap_u64];show IntKind.wrap .u64 ((BitVec.ofInt 64 (m:Int) ^^^ BitVec.ofInt 64 (n:Int)).toNat:Int)=IntKind.wrap .u64 (((m ^^^ n)%2^64:Nat):Int);rw[BitVec.ofInt_natCast,BitVec.ofInt_natCast,BitVec.toNat_xor,BitVec.toNat_ofNat,BitVec.toNat_ofNat,Nat.xor_mod_two_pow]
theorem MJ(k:IntKind)(x:Int):(BitVec.ofInt k.bits x).toNat=GG k x:=by rw[BitVec.toNat_ofInt];unfold GG;cases k<;>rfl
theorem Dr{ρ:Nat→Int}{P:Program}{w:World}{op:BinOp}{k:IntKind}{a b s:SI}(t:TypeId)(h:arith op k a b=some s) :
  (binOp op t (.int k (a.den ρ)) (.int k (b.den ρ))).run P w=.ok (.int k (s.den ρ)) w:=by
 unfold arith at h;split at h
 ·rename_i x y;simp only[SI.den];cases op<;>simp only[bB]at h<;>first|(cases h;done)|skip
  ·subst h;simp only[SI.den,dV];simp[binOp,Op.intArith]
  ·subst h;simp only[SI.den,dV];simp[binOp,Op.intArith];rfl
  ·subst h;simp only[SI.den,dV];simp[binOp,Op.intArith]
  ·rw[eqI_eq]at h;cases hy:(y==0)with
   |true=>rw[hy]at h;cases h
   |false=>
    rw[hy]at h;simp only[cond_false,bB]at h;subst h;have:y≠0:=by simpa using hy
    simp[SI.den,dV,binOp,Op.intDiv,this]
  ·rw[eqI_eq]at h;cases hy:(y==0)with
   |true=>rw[hy]at h;cases h
   |false=>
    rw[hy]at h;simp only[cond_false,bB]at h;subst h;have:y≠0:=by simpa using hy
    simp[SI.den,binOp,Op.intDiv,this]
  ·split at h
   ·rename_i m n;simp only[bB]at h;subst h;simp only[SI.den,binOp,ne_eq,not_true_eq_false,if_false,Op.intBits,nJ,Result.ok.injEq,Value.int.injEq,true_and,and_true];exact aem m n
   ·simp only[bB]at h;subst h;simp only[SI.den,binOp,ne_eq,not_true_eq_false,if_false,Op.intBits,nJ,Result.ok.injEq,Value.int.injEq,true_and,and_true,BitVec.toNat_and,MJ,dV];rfl
  ·split at h
   ·rename_i m n;simp only[bB]at h;subst h;simp only[SI.den,binOp,ne_eq,not_true_eq_false,if_false,Op.intBits,nJ,Result.ok.injEq,Value.int.injEq,true_and,and_true];exact ajK m n
   ·simp only[bB]at h;subst h;simp only[SI.den,binOp,ne_eq,not_true_eq_false,if_false,Op.intBits,nJ,Result.ok.injEq,Value.int.injEq,true_and,and_true,BitVec.toNat_or,MJ,dV];rfl
  ·split at h
   ·rename_i m n;simp only[bB]at h;subst h;simp only[SI.den,binOp,ne_eq,not_true_eq_false,if_false,Op.intBits,nJ,Result.ok.injEq,Value.int.injEq,true_and,and_true];exact aen m n
   ·simp only[bB]at h;subst h;simp only[SI.den,binOp,ne_eq,not_true_eq_false,if_false,Op.intBits,nJ,Result.ok.injEq,Value.int.injEq,true_and,and_true,BitVec.toNat_xor,MJ,dV];rfl
 ·split at h
  ·cases h;simp[SI.den,binOp,Op.intArith]
  ·cases h;simp[SI.den,binOp,Op.intArith]
  ·cases h;simp[SI.den,binOp,Op.intArith]
  ·cases h
theorem I8{k:IntKind}{n:Nat}(h:JR k n=true):n≤k.bits:=by cases k<;>simpa[JR,IntKind.bits,Nat.ble_eq]using h
theorem MK(a b:List UInt8):enc (a++b)=enc a+256^a.length*enc b:=by
 induction a with
 |nil=>simp[enc]
 |cons x a ih=>simp only[List.cons_append,enc,ih,Ci,Nat.pow_succ];rw[Nat.mul_add,←Nat.mul_assoc,Nat.mul_comm 256 (256^a.length)];omega
theorem Ku(l:List UInt8)(i:Nat):enc (l.drop i)=enc l / 256^i:=by
 induction i generalizing l with
 |zero=>simp
 |succ i ih=>
  cases l with
  |nil=>simp[enc]
  |cons x l=>have hx:x.toNat<256:=x.toNat_lt;simp only[List.drop_succ_cons,ih l,enc,Nat.pow_succ];rw[Nat.mul_comm (256^i) 256,←Nat.div_div_eq_div_mul];congr 1;omega
theorem Rv(l:List UInt8)(n:Nat):enc (l.take n)=enc l%256^n:=by
 induction n generalizing l with
 |zero=>simp[enc,Nat.mod_one]
 |succ n ih=>
  cases l with
  |nil=>simp[enc]
  |cons x l=>
   have hx:x.toNat<256:=x.toNat_lt;simp only[List.take_succ_cons,enc,ih l,Nat.pow_succ];rw[Nat.mul_comm (256^n) 256];have hp:0<256^n:=Nat.pow_pos (by omega);have:=Nat.mod_mul (x:=x.toNat+256*enc l) (a:=256) (b:=256^n);rw[this];have h1:(x.toNat+256*enc l)%256=x.toNat:=by omega
   have h2:(x.toNat+256*enc l) / 256=enc l:=by omega
   rw[h1,h2]
theorem UT(l:List UInt8)(i:Nat)(h:i<l.length):enc l / 256^i%256=(l[i]).toNat:=by rw[←Ku,zqt h];have hx:(l[i]).toNat<256:=(l[i]).toNat_lt;simp only[enc];omega
theorem N3:∀{a b:List UInt8},a.length=b.length→enc a=enc b→a=b
 | [],[],_,_=>rfl
 | [],_ ::_,h,_=>by simp at h
 |_ ::_,[],h,_=>by simp at h
 |x ::a,y ::b,h,he=>by
  have hx:x.toNat<256:=x.toNat_lt;have hy:y.toNat<256:=y.toNat_lt;simp only[enc]at he;have h1:x.toNat=y.toNat:=by omega
  have h2:enc a=enc b:=by omega
  rw[UInt8.toNat_inj.1 h1,N3 (by simpa using h) h2]
theorem IV(n:Nat):2^(8*n)=256^n:=by rw[Nat.pow_mul]
theorem ED(a b:List UInt8):(Nat.beq a.length b.length&&Nat.beq (enc a) (enc b))=(a==b):=by rw[beqN_eq,beqN_eq,Bool.eq_iff_iff];simp only[fa,decide_eq_true_eq,beq_iff_eq];exact⟨fun h=>N3 h.1 h.2,fun h=>by subst h;exact⟨rfl,rfl⟩⟩
theorem SS:∀(a b:List UInt8),TZ a.length (enc a) b.length (enc b)=Op.bytesLess a b
 | [],[]=>rfl
 | [],y ::b=>by simp[TZ,Op.bytesLess,beqN_eq]
 |x ::a,[]=>by simp[TZ,Op.bytesLess,beqN_eq]
 |x ::a,y ::b=>by
  have hx:x.toNat<256:=x.toNat_lt;have hy:y.toNat<256:=y.toNat_lt;have h1:(x.toNat+256*enc a)%256=x.toNat:=by omega
  have h2:(x.toNat+256*enc a) / 256=enc a:=by omega
  have h3:(y.toNat+256*enc b)%256=y.toNat:=by omega
  have h4:(y.toNat+256*enc b) / 256=enc b:=by omega
  simp only[Ci,TZ,enc,h1,h2,h3,h4,Nat.add_sub_cancel,SS a b,Op.bytesLess,beqN_eq,bltN_eq];by_cases c1:x.toNat<y.toNat
  ·have:x<y:=UInt8.lt_iff_toNat_lt.2 c1;simp[c1,this]
  ·have n1:¬x<y:=fun h=>c1 (UInt8.lt_iff_toNat_lt.1 h);by_cases c2:x.toNat=y.toNat
   ·have:x=y:=UInt8.toNat_inj.1 c2;subst this;simp
   ·have:x≠y:=fun h=>c2 (by rw[h]);simp[c1,c2,n1,this]
theorem pq:∀(a b:List UInt8),Op.bytesLess b a=!(Op.bytesLess a b||a==b)
 | [],[]=>rfl
 | [],y ::b=>by simp[Op.bytesLess]
 |x ::a,[]=>by simp[Op.bytesLess]
 |x ::a,y ::b=>by
  simp only[Op.bytesLess,pq a b];by_cases c1:x<y
  ·have c2:¬y<x:=fun h=>by have:=UInt8.lt_iff_toNat_lt.1 c1;have:=UInt8.lt_iff_toNat_lt.1 h;omega
   have c3:y≠x:=fun h=>by subst h;exact c2 c1
   simp[c1,c2,c3]
  ·by_cases c3:x=y
   ·subst c3;simp
   ·have c2:y<x:=by rw[UInt8.lt_iff_toNat_lt]at c1 ⊢;have:x.toNat≠y.toNat:=fun h=>c3 (UInt8.toNat_inj.1 h);omega
    simp[c1,c2,c3]
theorem Po{ρ:Nat→Int}{μ:Mu}{P:Program}{w:World}{op:BinOp}{x y:ByteArray}{a:AV}
  (h:X0 op x.data.toList.length (enc x.data.toList) y.data.toList.length (enc y.data.toList)=some a) :
  ∃v,(Op.stringOp op x y).run P w=.ok v w∧aA ρ μ a v:=by
 unfold X0 at h;cases op<;>simp only[bB]at h<;>first|(cases h;done)|skip
 ·cases hb:Nat.ble (x.data.toList.length+y.data.toList.length) 4611686018427387904 with
  |false=>rw[hb]at h;cases h
  |true=>
  rw[hb]at h;simp only[cond_true,bB]at h;subst h;have oq:x.size+y.size≤4611686018427387904:=by rw[Nat.ble_eq]at hb;rw[Lib.size_eq,Lib.size_eq];exact hb
  refine⟨.string (x++y),?_,.str _ _ _ ?_ ?_⟩
  ·have hle:¬(((x.size+y.size:Nat):Int)>IntKind.i64.max):=by
    have:IntKind.i64.max=9223372036854775807:=by decide
    rw[this];omega
   simp only[Op.stringOp,if_neg hle,nJ]
  ·rw[ByteArray.data_append];simp
  ·rw[ByteArray.data_append,Array.toList_append,MK];show _=_+Nat.shiftLeft _ _;have:Nat.shiftLeft (enc y.data.toList) (8*x.data.toList.length)=enc y.data.toList*2^(8*x.data.toList.length):=Nat.shiftLeft_eq _ _;rw[this,IV,Nat.mul_comm]
 all_goals subst h
 all_goals refine⟨_,?_,.bool _⟩
 all_goals simp only[Op.stringOp,ByteArray.toList_eq,nJ,Result.ok.injEq,Value.bool.injEq,and_true,ED,SS]
 ·rw[pq x.data.toList y.data.toList,Bool.not_not]
 ·rw[pq x.data.toList y.data.toList]
def qn(P:Program)(ρ:Nat→Int)(μ:Mu)(nt:Nat)(xs:List Operand)(tm:T AV)(ev:Operand→Value):Prop:=
 ∀x∈xs,∀px a,pX P nt x=some px→px.at tm=some a→aA ρ μ a (ev x)
theorem qn.sub{P:Program}{ρ:Nat→Int}{μ:Mu}{nt:Nat}{xs ys:List Operand}{tm:T AV}{ev:Operand→Value}(h:qn P ρ μ nt xs tm ev)(hs:∀y∈ys,y∈xs):qn P ρ μ nt ys tm ev:=
 fun x hx=>h x (hs x hx)
theorem map_some{α β:Type}{f:α→β}{x:Option α}{y:β}(h:x.map f=some y):∃a,x=some a∧f a=y:=by
 cases x with
 |none=>cases h
 |some a=>exact⟨a,rfl,by simpa using h⟩
theorem Ec(vs:List Value)(arr:Array Value)(o:Nat)(h:o+vs.length≤arr.size) :
  (iz arr o vs).toList=arr.toList.take o++vs++arr.toList.drop (o+vs.length):=by
 apply List.ext_getElem?;intro j;rw[Array.getElem?_toList,gb vs arr o j h];by_cases h1:j<o
 ·rw[if_neg (by omega),List.append_assoc,List.getElem?_append_left (by simp;omega),List.getElem?_take_of_lt h1];simp
 ·by_cases h2:j<o+vs.length
  ·rw[if_pos (by omega),List.append_assoc,List.getElem?_append_right (by simp;omega),List.getElem?_append_left (by simp;omega)];congr 1;simp;omega
  ·rw[if_neg (by omega),List.getElem?_append_right (by simp;omega),List.getElem?_drop];have:o+vs.length+(j-(arr.toList.take o++vs).length)=j:=by simp;omega
   rw[this];simp
theorem yC(off:Nat):∀(l:List Value) (k:Nat) (vs:Array Value),
  (l.zipIdx k).foldl (fun(cs:Array Value) (p:Value×Nat)=>cs.setIfInBounds (off+p.2) p.1) vs=iz vs (off+k) l
 | [],_,_=>rfl
 |v ::l,k,vs=>by simp only[List.zipIdx_cons,List.foldl_cons,iz];rw[yC off l (k+1)];rfl
section
variable{P:Program}{ρ:Nat→Int}{w0:W0}{w:World}{μ:Mu}{G:Key→Option ab}{nx:Nat}{nt:Nat}{tm:T AV}{ev:Operand→Value}
theorem iA:∀{xs:List Operand} {ps:List PX} {l:List AV},EE P nt xs=some ps→atAll tm ps=some l→qn P ρ μ nt xs tm ev→ao ρ μ l (xs.map ev)
 | [],ps,l,hp,ha,hE=>by simp only[EE,bB]at hp;subst hp;simp only[atAll,bB]at ha;subst ha;exact .nil
 |x ::xs,ps,l,hp,ha,hE=>by
  simp only[EE]at hp;split at hp
  ·rename_i a r h1 h2;cases hp;simp only[atAll]at ha;split at ha
   ·cases ha
   ·rename_i v hv;split at ha
    ·cases ha
    ·rename_i m hm;cases ha;exact .cons _ _ _ _ (hE x (by simp) a v h1 hv) (iA h2 hm (hE.sub fun y hy=>by simp[hy]))
  ·cases hp
theorem sM{place:Nat→Option (Nat×Nat)}:∀{parts:List (Nat×Operand)} {ps:List (Nat×Nat×PX)} {cs vQ:List AV} {vs:Array Value},
  Av P nt place parts=some ps→BG tm ps cs=some vQ→qn P ρ μ nt (parts.map (·.2)) tm ev→ao ρ μ cs vs.toList→
  ∃Rt,Instr.fill place vs (parts.map fun(i,x)=>(i,ev x))=some Rt∧ao ρ μ vQ Rt.toList
 | [],ps,cs,vQ,vs,hp,hf,hE,hv=>by simp only[Av,bB]at hp;subst hp;simp only[BG,bB]at hf;subst hf;exact⟨vs,rfl,hv⟩
 |(i,x) ::parts,ps,cs,vQ,vs,hp,hf,hE,hv=>by
  simp only[Av]at hp;split at hp
  ·rename_i off size a r h1 h2 h3;cases hp;simp only[BG]at hf;split at hf
   ·cases hf
   ·rename_i u hu;cases hb:Nat.beq (lenL u.cells) size with
    |false=>rw[hb]at hf;cases hf
    |true=>
     rw[hb]at hf;simp only[cond_true,putC_eq]at hf;split at hf
     ·rename_i hle;have hs:u.cells.length=size:=by rw[lenL_eq]at hb;exact mo hb
      have hr:aA ρ μ u (ev x):=hE x (by simp) a u h2 hu;have Y9:=hr.cells;have hlen:(ev x).cells.size=size:=by rw[←hs,Y9.length];simp
      have hcl:cs.length=vs.size:=by rw[hv.length];simp
      have Qw:((ev x).cells.zipIdx.foldl (fun cs (c,j)=>cs.setIfInBounds (off+j) c) vs).toList=vs.toList.take off++(ev x).cells.toList++vs.toList.drop (off+(ev x).cells.toList.length):=by rw[←Ec _ _ _ (by simp;omega),←Nat.add_zero off,←yC];rw[←Array.foldl_toList];simp
      obtain⟨Rt,aiX,qt⟩:=sM (vs:=(ev x).cells.zipIdx.foldl (fun cs (c,j)=>cs.setIfInBounds (off+j) c) vs) h3 hf (hE.sub fun y hy=>by simp at hy ⊢;exact .inr hy) (by rw[Qw];refine((hv.take off).append Y9).append ?_;rw[←Y9.length];exact hv.drop _)
      refine⟨Rt,?_,qt⟩;simp only[Qi,Instr.fill,h1];rw[if_neg (by simp[hlen];omega)];exact aiX
     ·cases hf
  ·cases hp
end
section
variable{P:Program}{ρ:Nat→Int}{w0:W0}{w:World}{μ:Mu}{G:Key→Option ab}{nx:Nat}{orc:dP}
theorem eW{a:AV}{v:Value}{j:Nat}(h:eL a=some j)(hr:aA ρ μ a v):∃k,v=.int k (j:Int):=by
 unfold eL at h;split at h
 ·simp only[bB]at h;subst h;cases hr with
  |int k s n hn=>exact⟨_,by rw[←hn];rfl⟩
 ·cases h
theorem JY{a b:AV}{r:Bool}(h:fq orc .bool a b=some r):∃x y,a=.bool x∧b=.bool y∧(x==y)=r:=by
 cases a<;>first|(simp[fq]at h;done)|skip
 cases b<;>first|(simp[fq]at h;done)|skip
 exact⟨_,_,rfl,rfl,by simpa[fq]using h⟩
theorem Vy{a b:AV}{r:Bool}(h:fq orc .int a b=some r):∃k x y,a=.int k x∧b=.int k y∧zl orc .eql x y=some r:=by
 cases a<;>first|(simp[fq]at h;done)|skip
 cases b<;>first|(simp[fq]at h;done)|skip
 rename_i k1 s1 k2 s2;simp only[fq]at h;cases hk:beqKind k1 k2 with
 |false=>rw[hk]at h;cases h
 |true=>rw[hk]at h;have:=nd hk;subst this;exact⟨_,_,_,rfl,rfl,h⟩
theorem Vz{a b:AV}{r:Bool}(h:fq orc .str a b=some r):∃n c m d,a=.str n c∧b=.str m d∧(Nat.beq n m&&Nat.beq c d)=r:=by
 cases a<;>first|(simp[fq]at h;done)|skip
 cases b<;>first|(simp[fq]at h;done)|skip
 simp only[fq,bB]at h;exact⟨_,_,_,_,rfl,rfl,h⟩
theorem Nd{a b:AV}{r:Bool}(h:fq orc .ptr a b=some r) :
  (a=.nilp∧b=.nilp∧r=true)∨(a=.nilp∧((∃k o,b=.ptr k o)∨∃l,b=.cref l)∧r=false)∨(((∃k o,a=.ptr k o)∨∃l,a=.cref l)∧b=.nilp∧r=false)∨
   (∃k o o',a=.ptr k o∧b=.ptr k o'∧decide (o=o')=r):=by
 cases a<;>first|(simp[fq]at h;done)|skip
 ·cases b<;>first|(simp[fq]at h;done)|skip
  ·rename_i b1 o1 b2 o2;simp only[fq]at h;cases hb:Key.beq b1 b2 with
   |false=>rw[hb]at h;cases h
   |true=>rw[hb]at h;have:=Key.eq_of_beq hb;subst this;simp only[cond_true,bB,beqN_eq]at h;exact .inr (.inr (.inr ⟨_,_,_,rfl,rfl,h⟩))
  ·simp only[fq,bB]at h;exact .inr (.inr (.inl ⟨.inl ⟨_,_,rfl⟩,rfl,h.symm⟩))
 ·cases b<;>first|(simp[fq]at h;done)|skip
  ·simp only[fq,bB]at h;exact .inr (.inl ⟨rfl,.inl ⟨_,_,rfl⟩,h.symm⟩)
  ·simp only[fq,bB]at h;exact .inl ⟨rfl,rfl,h.symm⟩
  ·simp only[fq,bB]at h;exact .inr (.inl ⟨rfl,.inr ⟨_,rfl⟩,h.symm⟩)
 ·cases b<;>first|(simp[fq]at h;done)|skip
  simp only[fq,bB]at h;exact .inr (.inr (.inl ⟨.inr ⟨_,rfl⟩,rfl,h.symm⟩))
theorem Hz{a b:AV}{r:Bool}(h:fq orc .iface a b=some r) :
  (a=.nili∧b=.nili∧r=true)∨(a=.nili∧(∃t v,b=.iface t v)∧r=false)∨((∃t v,a=.iface t v)∧b=.nili∧r=false):=by
 cases a<;>first|(simp[fq]at h;done)|skip
 ·cases b<;>first|(simp[fq]at h;done)|skip
  simp only[fq,bB]at h;exact .inr (.inr ⟨⟨_,_,rfl⟩,rfl,h.symm⟩)
 ·cases b<;>first|(simp[fq]at h;done)|skip
  ·simp only[fq,bB]at h;exact .inr (.inl ⟨rfl,⟨_,_,rfl⟩,h.symm⟩)
  ·simp only[fq,bB]at h;exact .inl ⟨rfl,rfl,h.symm⟩
theorem HA{a b:AV}{r:Bool}(h:fq orc .slice a b=some r) :
  (a=.nils∧b=.nils∧r=true)∨(a=.nils∧((∃k o l s,b=.slice k o l s)∨∃k o l s,b=.sl k o l s)∧r=false)∨(((∃k o l s,a=.slice k o l s)∨∃k o l s,a=.sl k o l s)∧b=.nils∧r=false):=by
 cases a<;>first|(simp[fq]at h;done)|skip
 ·cases b<;>first|(simp[fq]at h;done)|skip
  simp only[fq,bB]at h;exact .inr (.inr ⟨.inl ⟨_,_,_,_,rfl⟩,rfl,h.symm⟩)
 ·cases b<;>first|(simp[fq]at h;done)|skip
  ·simp only[fq,bB]at h;exact .inr (.inl ⟨rfl,.inl ⟨_,_,_,_,rfl⟩,h.symm⟩)
  ·simp only[fq,bB]at h;exact .inl ⟨rfl,rfl,h.symm⟩
  ·simp only[fq,bB]at h;exact .inr (.inl ⟨rfl,.inr ⟨_,_,_,_,rfl⟩,h.symm⟩)
 ·cases b<;>first|(simp[fq]at h;done)|skip
  simp only[fq,bB]at h;exact .inr (.inr ⟨.inr ⟨_,_,_,_,rfl⟩,rfl,h.symm⟩)
theorem JZ{a b:AV}{r:Bool}(h:fq orc .func a b=some r) :
  (a=.nilf∧b=.nilf∧r=true)∨(a=.nilf∧(∃f x y,b=.fn f x y)∧r=false)∨((∃f x y,a=.fn f x y)∧b=.nilf∧r=false):=by
 cases a<;>first|(simp[fq]at h;done)|skip
 ·cases b<;>first|(simp[fq]at h;done)|skip
  simp only[fq,bB]at h;exact .inr (.inr ⟨⟨_,_,_,rfl⟩,rfl,h.symm⟩)
 ·cases b<;>first|(simp[fq]at h;done)|skip
  ·simp only[fq,bB]at h;exact .inr (.inl ⟨rfl,⟨_,_,_,rfl⟩,h.symm⟩)
  ·simp only[fq,bB]at h;exact .inl ⟨rfl,rfl,h.symm⟩
theorem Nf{a b:AV}{r:Bool}(h:fq orc .map a b=some r) :
  (a=.nilm∧b=.nilm∧r=true)∨(a=.nilm∧(∃k,b=.map k)∧r=false)∨((∃k,a=.map k)∧b=.nilm∧r=false):=by
 cases a<;>first|(simp[fq]at h;done)|skip
 ·cases b<;>first|(simp[fq]at h;done)|skip
  simp only[fq,bB]at h;exact .inr (.inr ⟨⟨_,rfl⟩,rfl,h.symm⟩)
 ·cases b<;>first|(simp[fq]at h;done)|skip
  ·simp only[fq,bB]at h;exact .inr (.inl ⟨rfl,⟨_,rfl⟩,h.symm⟩)
  ·simp only[fq,bB]at h;exact .inl ⟨rfl,rfl,h.symm⟩
def tz(P:Program)(t:TypeId):ql→Prop
 |.bool=>P.underlying t=some .bool
 |.int=>∃k,P.underlying t=some (.int k)
 |.str=>P.underlying t=some .string
 |.ptr=>∃e i,P.underlying t=some (.pointer e)∧P.info? e=some i∧i.size≠0
 |.iface=>∃ms,P.underlying t=some (.interface ms)
 |.slice=>∃e,P.underlying t=some (.slice e)
 |.func=>∃a b c,P.underlying t=some (.func a b c)
 |.map=>∃a b,P.underlying t=some (.map a b)
 |.parts l=>(∃fs n,P.underlying t=some (.struct fs)∧P.stoodInHeld t=false∧eqFields P n fs.toList=some l)∨
   ∃len e i fs n l',P.underlying t=some (.array len e)∧P.info? e=some i∧P.underlying e=some (.struct fs)∧P.stoodInHeld e=false∧eqFields P n fs.toList=some l'∧(∀x∈l',x.1<i.size)∧l=xH l' i.size len 0
theorem l6{n:Nat}{t:TypeId}{p:ql}(hp:He P n t=some p):tz P t p:=by
 cases n with
 |zero=>simp[He]at hp
 |succ n=>
 unfold He at hp;split at hp
 ·cases hp;assumption
 ·cases hp;exact⟨_,‹_›⟩
 ·cases hp;assumption
 ·rename_i e hu;split at hp
  ·rename_i i hi;cases hz:Nat.beq i.size 0 with
   |true=>rw[hz]at hp;cases hp
   |false=>rw[hz]at hp;simp only[cond_false,bB]at hp;subst hp;exact⟨e,i,hu,hi,by intro e;rw[e]at hz;cases hz⟩
  ·cases hp
 ·cases hp;exact⟨_,‹_›⟩
 ·cases hp;exact⟨_,‹_›⟩
 ·cases hp;exact⟨_,_,_,‹_›⟩
 ·cases hp;exact⟨_,_,‹_›⟩
 ·cases hs:P.stoodInHeld t with
  |true=>rw[hs]at hp;cases hp
  |false=>
   rw[hs]at hp;simp only[cond_false]at hp;split at hp
   ·cases hp;exact .inl ⟨_,n,‹_›,hs,‹_›⟩
   ·cases hp
 ·rename_i len e hu;split at hp
  ·rename_i fs l i hue Ly hi;cases hb:l.all (fun x=>Nat.blt x.1 i.size)with
   |false=>rw[hb]at hp;cases hp
   |true=>
    rw[hb]at hp;simp only[cond_true,bB]at hp;subst hp;have bF:∀x∈l,x.1<i.size:=by
     intro x hx;have:=Gj.1 hb x hx
     rwa [bltN_eq,decide_eq_true_eq]at this
    cases n with
    |zero=>simp[He]at Ly
    |succ n=>
    unfold He at Ly;rw[hue]at Ly;simp only at Ly;cases hs:P.stoodInHeld e with
    |true=>rw[hs]at Ly;cases Ly
    |false=>
     rw[hs]at Ly;simp only[cond_false]at Ly;split at Ly
     ·simp only[bB,ql.parts.injEq]at Ly;subst Ly;exact .inr ⟨len,e,i,fs,n,_,hu,hi,hue,hs,‹_›,bF,rfl⟩
     ·cases Ly
  ·cases hp
 ·cases hp
set_option maxHeartbeats 1000000 in
theorem kW(ho:cD ρ orc){p:ql}{t:TypeId}(hp:tz P t p)(cL:∀l,p≠.parts l){a b:AV}{r:Bool}(h:fq orc p a b=some r)
  {x y:Value} (hx:aA ρ μ a x) (hy:aA ρ μ b y) (d:Nat):(Op.equalIn (d+1) t x y).run P w=.ok r w:=by
 cases p with
 |bool=>obtain⟨x',y',rfl,rfl,hr⟩:=JY h;cases hx;cases hy;have hu:P.underlying t=some .bool:=hp;simp only[Op.equalIn,kb,aa hu,gC,nJ,hr]
 |int=>
  obtain⟨k,x',y',rfl,rfl,hr⟩:=Vy h;obtain⟨k',hu⟩:=hp;have hc:=rl ho hr;cases hx with|int _ _ n1 h1=>cases hy with|int _ _ n2 h2=>
  rw[h1,h2]at hc;simp only[kH,bB]at hc;simp only[Op.equalIn,kb,aa hu,gC,if_true,nJ,hc]
 |str=>
  obtain⟨n1,c1,n2,c2,rfl,rfl,hr⟩:=Vz h;have hu:P.underlying t=some .string:=hp;cases hx with|str _ _ s1 h1 sj=>cases hy with|str _ _ s2 h2 Jm=>
  subst h1 sj h2 Jm;rw[ED]at hr;simp only[Op.equalIn,kb,aa hu,gC,nJ,Result.ok.injEq,and_true];rw[beq_toListBytes,ByteArray.toList_eq,ByteArray.toList_eq];exact hr
 |ptr=>
  obtain⟨e,i,hu,hi,oq⟩:=hp;rcases Nd h with⟨rfl,rfl,rfl⟩|⟨rfl,⟨_,_,rfl⟩|⟨_,rfl⟩,rfl⟩|⟨⟨_,_,rfl⟩|⟨_,rfl⟩,rfl,rfl⟩|⟨k,o1,o2,rfl,rfl,hr⟩
  ·cases hx;cases hy;simp[Op.equalIn,aa hu]
  ·cases hx;cases hy;simp[Op.equalIn,aa hu]
  ·cases hx;cases hy;simp[Op.equalIn,aa hu]
  ·cases hx;cases hy;simp[Op.equalIn,aa hu]
  ·cases hx;cases hy;simp[Op.equalIn,aa hu]
  ·cases hx with|ptr _ _ l1 a1 m1 e1=>cases hy with|ptr _ _ l2 a2 m2 e2=>
   rw[m1]at m2;cases m2;subst e1 e2;simp only[Op.equalIn,kb,aa hu,gC,aQ hi,Sem.run_ite,ne_eq,oq,not_false_eq_true,if_true,sameAddr,beq_self_eq_true,nJ];simp only[Result.ok.injEq,and_true];rw[←hr,Bool.eq_iff_iff];simp
 |iface=>obtain⟨ms,hu⟩:=hp;rcases Hz h with⟨rfl,rfl,rfl⟩|⟨rfl,⟨_,_,rfl⟩,rfl⟩|⟨⟨_,_,rfl⟩,rfl,rfl⟩<;>(cases hx;cases hy;simp[Op.equalIn,aa hu])
 |slice=>obtain⟨e,hu⟩:=hp;rcases HA h with⟨rfl,rfl,rfl⟩|⟨rfl,⟨_,_,_,_,rfl⟩|⟨_,_,_,_,rfl⟩,rfl⟩|⟨⟨_,_,_,_,rfl⟩|⟨_,_,_,_,rfl⟩,rfl,rfl⟩<;>(cases hx;cases hy;simp[Op.equalIn,aa hu])
 |func=>obtain⟨_,_,_,hu⟩:=hp;rcases JZ h with⟨rfl,rfl,rfl⟩|⟨rfl,⟨_,_,_,rfl⟩,rfl⟩|⟨⟨_,_,_,rfl⟩,rfl,rfl⟩<;>(cases hx;cases hy;simp[Op.equalIn,aa hu])
 |map=>obtain⟨_,_,hu⟩:=hp;rcases Nf h with⟨rfl,rfl,rfl⟩|⟨rfl,⟨_,rfl⟩,rfl⟩|⟨⟨_,rfl⟩,rfl,rfl⟩<;>(cases hx;cases hy;simp[Op.equalIn,aa hu])
 |parts l=>exact absurd rfl (cL l)
theorem rP(ho:cD ρ orc){A B:List AV}{xs ys:Array Value}(hx:ao ρ μ A xs.toList)(hy:ao ρ μ B ys.toList)(d:Nat) :
  ∀(n:Nat) (fs:List Field) (l:List (Nat×ql)) (r:Bool),eqFields P n fs=some l→bM orc l A B=some r→(Op.eqFields (d+1) xs ys fs).run P w=.ok r w
 |n,[],l,r,hf,hp=>by
  have:l=[]:=by cases n<;>simpa[eqFields]using hf.symm
  subst this;simp only[bM,bB]at hp;subst hp;rfl
 |0,f ::fs,l,r,hf,hp=>by simp[eqFields]at hf
 |n+1,f ::fs,l,r,hf,hp=>by
  simp only[eqFields]at hf;cases hn : (f.name == "_") with
  |true=>rw[hn]at hf;cases hf
  |false=>
   rw[hn]at hf;simp only[cond_false]at hf;have key:∀(q:ql) (l':List (Nat×ql)),He P n f.type=some q→(∀l,q≠.parts l)→eqFields P n fs=some l'→l=(f.offset,q) ::l'→(Op.eqFields (d+1) xs ys (f ::fs)).run P w=.ok r w:=by
    intro q l' hq ZL IA hl;subst hl;simp only[bM,nth_eq]at hp;split at hp
    ·rename_i x y h1 h2;have iR:=l6 hq;obtain⟨d',HT⟩:∃d',P.underlying f.type=some d':=by
      cases q with
      |bool=>exact⟨_,iR⟩
      |int=>obtain⟨k,hk⟩:=iR;exact⟨_,hk⟩
      |str=>exact⟨_,iR⟩
      |ptr=>obtain⟨_,_,hk,_⟩:=iR;exact⟨_,hk⟩
      |iface=>obtain⟨_,hk⟩:=iR;exact⟨_,hk⟩
      |slice=>obtain⟨_,hk⟩:=iR;exact⟨_,hk⟩
      |func=>obtain⟨_,_,_,hk⟩:=iR;exact⟨_,hk⟩
      |map=>obtain⟨_,_,hk⟩:=iR;exact⟨_,hk⟩
      |parts _=>exact absurd rfl (ZL _)
     have aas:EO d'=false:=by
      cases q with
      |bool=>have hk:P.underlying f.type=some .bool:=iR;rw[hk]at HT;cases HT;rfl
      |int=>obtain⟨k,hk⟩:=iR;rw[hk]at HT;cases HT;rfl
      |str=>have hk:P.underlying f.type=some .string:=iR;rw[hk]at HT;cases HT;rfl
      |ptr=>obtain⟨_,_,hk,_⟩:=iR;rw[hk]at HT;cases HT;rfl
      |iface=>obtain⟨_,hk⟩:=iR;rw[hk]at HT;cases HT;rfl
      |slice=>obtain⟨_,hk⟩:=iR;rw[hk]at HT;cases HT;rfl
      |func=>obtain⟨_,_,_,hk⟩:=iR;rw[hk]at HT;cases HT;rfl
      |map=>obtain⟨_,_,hk⟩:=iR;rw[hk]at HT;cases HT;rfl
      |parts _=>exact absurd rfl (ZL _)
     have NY:∀(L:List AV) (vs:Array Value) (u:AV),ao ρ μ L vs.toList→L[f.offset]?=some u→∃v,(part f.type vs f.offset).run P w=.ok v w∧aA ρ μ u v:=by
      intro L vs u hL hu;obtain⟨v,hv,hr⟩:=hL.get f.offset u hu;refine⟨v,?_,hr⟩;have:vs[f.offset]?=some v:=by simpa using hv
      simp[part,mM HT,aas,this]
     obtain⟨vx,hvx,hrx⟩:=NY A xs x hx h1;obtain⟨vy,hvy,hry⟩:=NY B ys y hy h2;have cL : f.name ≠ "_" := by simpa using hn
     simp only[Op.eqFields,ne_eq,cL,not_false_eq_true,if_true,kb,hvx,hvy,gC];split at hp
     ·rename_i he;rw[kW ho iR ZL he hrx hry d];simp only[gC,Bool.not_true,Gy,if_false];exact rP ho hx hy d n fs l' r IA hp
     ·rename_i he;cases hp;rw[kW ho iR ZL he hrx hry d];simp
     ·cases hp
    ·cases hp
   split at hf
   ·simp only[bB]at hf;exact key _ _ ‹_› (by intro l;simp) ‹_› hf.symm
   ·simp only[bB]at hf;exact key _ _ ‹_› (by intro l;simp) ‹_› hf.symm
   ·simp only[bB]at hf;exact key _ _ ‹_› (by intro l;simp) ‹_› hf.symm
   ·cases hf
theorem Dz(A B:List AV):∀(l m:List (Nat×ql)),bM orc (l++m) A B=(match bM orc l A B with|some true=>bM orc m A B|some false=>some false|none=>none)
 | [],m=>by simp[bM]
 |(off,p) ::l,m=>by
  simp only[List.cons_append,bM,Dz A B l m];split
  ·split
   ·rfl
   ·rfl
   ·rfl
  ·rfl
theorem Al(A B:List AV)(off sz:Nat):∀(l:List (Nat×ql)),(∀x∈l,x.1<sz)→bM orc (l.map fun x=>(off+x.1,x.2)) A B=bM orc l ((A.drop off).take sz) ((B.drop off).take sz)
 | [],_=>by simp[bM]
 |(o,p) ::l,h=>by
  have h0:o<sz:=h (o,p) (by simp);have e:∀(L:List AV),((L.drop off).take sz)[o]?=L[off+o]?:=by intro L;rw[List.getElem?_take_of_lt h0,List.getElem?_drop]
  simp only[Qi,bM,nth_eq,e,Al A B off sz l fun x hx=>h x (by simp[hx])]
theorem DA{e:TypeId}{i:TypeInfo}{fs:Array Field}(hi:P.info? e=some i)(hu:P.underlying e=some (.struct fs))(xs:Array Value)(off:Nat) :
  (part e xs off).run P w=.ok (.agg (xs.extract off (off+i.size))) w:=by
 simp[part,mM hu,EO,aQ hi]
theorem DB{A:List AV}{xs:Array Value}(hx:ao ρ μ A xs.toList)(off n:Nat):ao ρ μ ((A.drop off).take n) (xs.extract off (off+n)).toList:=by
 have:(xs.extract off (off+n)).toList=(xs.toList.drop off).take n:=by simp[List.extract]
 rw[this];exact(hx.drop off).take n
theorem Am(ho:cD ρ orc){e:TypeId}{i:TypeInfo}{fs:Array Field}{n:Nat}{l:List (Nat×ql)}(hi:P.info? e=some i)(hu:P.underlying e=some (.struct fs))(dH:P.stoodInHeld e=false)(hf:eqFields P n fs.toList=some l)(bF:∀x∈l,x.1<i.size)
  {A B:List AV} {xs ys:Array Value} (hx:ao ρ μ A xs.toList) (hy:ao ρ μ B ys.toList) (d:Nat) :
  ∀(m j:Nat) (r:Bool),bM orc (xH l i.size m (j*i.size)) A B=some r→(Op.eqItems (d+2) e i.size xs ys (List.range' j m)).run P w=.ok r w
 |0,j,r,h=>by simp only[xH,bM,bB]at h;subst h;simp[Op.eqItems]
 |m+1,j,r,h=>by
  simp only[xH,Dz,Al A B _ i.size l bF]at h;have hfo:P.fieldsOf e=fs:=by simp[Program.fieldsOf,hu]
  have he:∀q,bM orc l ((A.drop (j*i.size)).take i.size) ((B.drop (j*i.size)).take i.size)=some q→
    (Op.equalIn (d+2) e (.agg (xs.extract (j*i.size) (j*i.size+i.size))) (.agg (ys.extract (j*i.size) (j*i.size+i.size)))).run P w=.ok q w:=by
   intro q hq;rw[show d+2=d+1+1 from rfl,run_equalIn_agg w (d+1) e _ _ (by rw[hfo];exact hu) dH,hfo];exact rP ho (DB hx _ _) (DB hy _ _) d n fs.toList l q hf hq
  simp only[List.range'_succ,Op.eqItems,kb,DA hi hu,gC];split at h
  ·rename_i hq;rw[he _ hq];simp only[gC,Bool.not_true,Gy,if_false];have hj:(j+1)*i.size=j*i.size+i.size:=by rw[Nat.add_mul,Nat.one_mul]
   exact Am ho hi hu dH hf bF hx hy d m (j+1) r (by rw[hj];exact h)
  ·rename_i hq;cases h;rw[he _ hq];simp
  ·cases h
theorem Di(ho:cD ρ orc){t:TypeId}{l:List (Nat×ql)}(hp:tz P t (.parts l)){A B:List AV}{xs ys:Array Value}(hx:ao ρ μ A xs.toList)(hy:ao ρ μ B ys.toList){r:Bool}(h:bM orc l A B=some r)(d:Nat) :
  (Op.equalIn (d+3) t (.agg xs) (.agg ys)).run P w=.ok r w:=by
 rcases hp with⟨fs,n,hu,dH,hf⟩|⟨len,e,i,fs,n,l',hu,hi,hue,dH,hf,bF,rfl⟩
 ·have hfo:P.fieldsOf t=fs:=by simp[Program.fieldsOf,hu]
  rw[show d+3=d+2+1 from rfl,run_equalIn_agg w (d+2) t xs ys (by rw[hfo];exact hu) dH,hfo];exact rP ho hx hy (d+1) n fs.toList l r hf h
 ·have hc:P.cellsOf e=i.size:=by simp[Program.cellsOf,hi]
  rw[show d+3=d+2+1 from rfl,run_equalIn_array w (d+2) xs ys hu hi,hc,List.range_eq_range'];exact Am ho hi hue dH hf bF hx hy d len 0 r (by simpa using h)
end
section
variable{P:Program}{ρ:Nat→Int}{w0:W0}{w:World}{μ:Mu}{G:Key→Option ab}{nx:Nat}{orc:dP}{nt:Nat}{tm:T AV}{ev:Operand→Value}
theorem fW{lo:Option Operand}{plo:Option PX}(hp:PL P nt lo=some plo){T3 l:Nat}(hb:iV tm T3 plo=some l){xs:List Operand}(hE:qn P ρ μ nt xs tm ev)
  (hx:∀x,lo=some x→x∈xs):(lo=none∧l=T3)∨(∃x k,lo=some x∧ev x=.int k (l:Int)):=by
 cases lo with
 |none=>simp only[PL,bB]at hp;subst hp;simp only[iV,bB]at hb;exact .inl ⟨rfl,hb.symm⟩
 |some x=>
  right;simp only[PL]at hp;split at hp
  ·rename_i a ha;cases hp;simp only[iV]at hb;split at hb
   ·cases hb
   ·rename_i v hv;obtain⟨k,hk⟩:=eW hb (hE x (hx x rfl) a v ha hv);exact⟨x,k,rfl,hk⟩
  ·cases hp
theorem mh{k:IntKind}{i y:Nat}(code:BoundsCode)(h:i≤y):(Instr.sliceBound (.int k (i:Int)) y code).run P w=.ok i w:=by simp only[Instr.sliceBound,asIntOf,kb,nJ,gC];rw[if_pos (by omega)];simp
theorem km{isSlice:Bool}{len cap l r:Nat}{lo hi:Option Value}(sf:(lo=none∧l=0)∨∃k,lo=some (.int k (l:Int)))(hhi:(hi=none∧r=len)∨∃k,hi=some (.int k (r:Int)))
  (h1:l≤r) (h2:r≤len) (h3:len≤cap):(Instr.sliceBounds isSlice len cap lo hi none).run P w=.ok (l,r,cap) w:=by
 rcases sf with⟨rfl,rfl⟩|⟨k,rfl⟩<;>rcases hhi with⟨rfl,rfl⟩|⟨k',rfl⟩<;>simp only[Instr.sliceBounds,kb,nJ,gC]
 ·rw[mh _ (by omega)];rfl
 ·rw[mh _ (by omega)];rfl
 ·rw[mh _ (by omega),gC,mh _ (by omega)];rfl
def wo(P:Program)(kt:TypeId)(sk:Bool)(kd:TypeDesc):Prop:=P.underlying kt=some kd∧(if sk then kd=.string else ∃k,kd=.int k)
theorem sU(ho:cD ρ orc){kt:TypeId}{kd:TypeDesc}{sk:Bool}(hu:wo P kt sk kd){k a:AV}{x y:Value}(hx:aA ρ μ k x)(hy:aA ρ μ a y){b:Bool}
  (hb:keyEq orc sk k a=some b):Instr.sameNow kd x y=some b:=by
 obtain⟨_,vO⟩:=hu;cases k<;>first|(simp[keyEq]at hb;done)|skip
 ·cases a<;>first|(simp[keyEq]at hb;done)|skip
  rename_i k1 s1 k2 s2;simp only[keyEq]at hb;cases hk:beqKind k1 k2 with
  |false=>rw[hk]at hb;cases hb
  |true=>
   rw[hk]at hb;cases sk with
   |true=>cases hb
   |false=>
    have:=nd hk;subst this;simp only[Bool.not_false,Bool.and_true,cond_true]at hb;have hc:=rl ho hb;cases hx with|int _ _ n1 e1=>cases hy with|int _ _ n2 e2=>
    rw[e1,e2]at hc;simp only[kH,bB]at hc;obtain⟨k',rfl⟩:∃k,kd=.int k:=by simpa using vO
    simp[Instr.sameNow,hc]
 ·cases a<;>first|(simp[keyEq]at hb;done)|skip
  cases sk with
  |false=>simp[keyEq]at hb
  |true=>
   simp only[keyEq,cond_true,bB]at hb;cases hx with|str _ _ s1 e1 IU=>cases hy with|str _ _ s2 e2 Vu=>
   subst e1 IU e2 Vu;rw[ED]at hb;have:kd=.string:=by simpa using vO
   subst this;simp only[Instr.sameNow,bB];rw[beq_toListBytes,ByteArray.toList_eq,ByteArray.toList_eq];exact hb
def SB(ρ:Nat→Int)(μ:Mu):Option AV→Option (Nat×Value)→Prop
 |none,none=>True
 |some a,some (_,v)=>aA ρ μ a v
 |_,_=>False
theorem yB(ho:cD ρ orc){kt:TypeId}{kd:TypeDesc}{sk:Bool}(hu:wo P kt sk kd){k:AV}{x:Value}(hx:aA ρ μ k x) :
  ∀{l:List (AV×AV)} {es:List MapEntry} (i:Nat) {r:Option AV},ju ρ μ l es→findK orc sk k l=some r→
   ∃f,Instr.findNow kd x es i=some f∧SB ρ μ r f
 | [],[],i,r,hp,h=>by simp only[findK,bB]at h;subst h;exact⟨none,rfl,trivial⟩
 | [],_ ::_,i,r,hp,h=>hp.elim
 |(_,_) ::_,[],i,r,hp,h=>hp.elim
 |(a,v) ::l,e ::es,i,r,hp,h=>by
  obtain⟨h1,h2,h3⟩:=hp;simp only[findK]at h;split at h
  ·rename_i hk;cases h;refine⟨some (i,e.val),?_,h2⟩;simp[Instr.findNow,sU ho hu hx h1 hk]
  ·rename_i hk;obtain⟨f,hf,hr⟩:=yB ho hu hx (i+1) h3 h;refine⟨f,?_,hr⟩;simp[Instr.findNow,sU ho hu hx h1 hk,hf]
  ·cases h
theorem run_findKey{kt:TypeId}{kd:TypeDesc}(hu:P.underlying kt=some kd){x:Value}{es:List MapEntry}{f:Option (Nat×Value)}(h:Instr.findNow kd x es 0=some f) :
  (Instr.findKey kt x es).run P w=.ok f w:=by
 simp[Instr.findKey,aa hu,h]
theorem run_checkKey{kt:TypeId}{kd:TypeDesc}{sk:Bool}(hu:wo P kt sk kd)(e:Bool)(n:Nat)(x:Value):(Instr.checkKey e (n+1) kt x).run P w=.ok () w:=by
 obtain⟨hu,hk⟩:=hu;cases sk with
 |true=>
  have:kd=.string:=by simpa using hk
  subst this;simp[Instr.checkKey,aa hu]
 |false=>
  obtain⟨k,rfl⟩:∃k,kd=.int k:=by simpa using hk
  simp[Instr.checkKey,aa hu]
end
section
variable{P:Program}{ρ:Nat→Int}{w0:W0}{w:World}{μ:Mu}{G:Key→Option ab}{nx:Nat}{orc:dP}{nt:Nat}{tm:T AV}{H:T ab}{ev:Operand→Value}
theorem bR{s:Sem Value}{v:Value}{w':World}(h:s.run P w=.ok v w'):(do pure (Next.value (←s)):Sem Next).run P w=.ok (.value v) w':=by simp[h]
theorem aB{α:Type}{b:Bool}{x:Option α}{y:α}(h:(bif b then x else none)=some y):b=true∧x=some y:=by
 cases b with
 |true=>exact⟨rfl,h⟩
 |false=>cases h
theorem Vv(k yk:IntKind)(a:Int)(n:Nat)(hle:n≤k.bits):(Op.shift .shl k a yk (n:Int)).run P w=.ok (.int k (k.wrap (a*2^n))) w:=by
 have h0:¬((n:Int)<0):=by omega
 have:min n k.bits=n:=by omega
 simp[Op.shift,h0,this]
theorem NX(k yk:IntKind)(a:Int)(n:Nat)(hle:n≤k.bits):(Op.shift .shr k a yk (n:Int)).run P w=.ok (.int k (a.fdiv (2^n))) w:=by
 have h0:¬((n:Int)<0):=by omega
 have:min n k.bits=n:=by omega
 simp[Op.shift,h0,this]
theorem OS(ho:cD ρ orc){op:BinOp}{t:TypeId}{X Y:Operand}{a b:AV}{x y:Value}(hx:aA ρ μ a x)(hy:aA ρ μ b y){r:AV}
  (h:lightOp orc (.bin op (.v a) (.v b)) tm H=some r) :
  ∃v,(do eqGuard op t X Y x y;Go.binOp op t x y:Sem Value).run P w=.ok v w∧aA ρ μ r v:=by
 simp only[lightOp,PX.at]at h;cases hx<;>first|(simp at h;done)|skip
 ·cases hy<;>first|(simp at h;done)|skip
  rename_i k1 s1 n1 e1 k2 s2 n2 e2;have hg:(eqGuard op t X Y (.int k1 n1) (.int k2 n2)).run P w=.ok () w:=by cases op<;>simp[eqGuard]
  simp only[kb,hg,gC];have rest:(bif beqKind k1 k2 then(bif isCmp op then(match zl orc op s1 s2 with|some r=>some (AV.bool r)|none=>none)else(match arith op k1 s1 s2 with|some r=>some (AV.int k1 r)|none=>none))else none)=some r→
    ∃v,(Go.binOp op t (.int k1 n1) (.int k2 n2)).run P w=.ok v w∧aA ρ μ r v:=by
   intro hq;obtain⟨hk,OI⟩:=aB hq;have:=nd hk;subst this;clear hq h;cases hc:isCmp op with
   |true=>
    rw[hc]at OI;simp only[cond_true]at OI;split at OI
    ·rename_i r' Ru;cases OI;have hd:=rl ho Ru;rw[e1,e2]at hd;refine⟨.bool r',?_,.bool _⟩;rw[←ME (P:=P) (w:=w) hd];cases op<;>simp[isCmp]at hc<;>simp[Go.binOp]
    ·cases OI
   |false=>
    rw[hc]at OI;simp only[cond_false]at OI;split at OI
    ·rename_i r' Ru;cases OI;have:=Dr (ρ:=ρ) (P:=P) (w:=w) t Ru;rw[e1,e2]at this;exact⟨_,this,.int _ _ _ rfl⟩
    ·cases OI
  cases op<;>first|exact rest h|skip
  ·simp only at h;split at h
   ·rename_i a n;obtain⟨hsh,h2⟩:=aB h;cases h2;have Vu:n2=(n:Int):=e2.symm;have IU:n1=a:=e1.symm;subst Vu IU;refine⟨_,Vv k1 k2 n1 n (I8 hsh),.int _ _ _ ?_⟩;simp only[SI.den,dV];apply congrArg;show n1*((2^n:Nat):Int)=n1*2^n;simp
   ·cases h
  ·simp only at h;split at h
   ·rename_i a n;obtain⟨hsh,h2⟩:=aB h;cases h2;have Vu:n2=(n:Int):=e2.symm;have IU:n1=(a:Int):=e1.symm;subst Vu IU;refine⟨_,NX k1 k2 a n (I8 hsh),.int _ _ _ ?_⟩;simp only[SI.den];show((a / 2^n:Nat):Int)=_;have hp:(0:Int)≤2^n:=by
     have:((2^n:Nat):Int)=2^n:=by simp
     exact this ▸ Int.natCast_nonneg _
    rw[Int.fdiv_eq_ediv_of_nonneg _ hp];simp
   ·rename_i a n;obtain⟨hsh,h2⟩:=aB h;cases h2;have Vu:n2=(n:Int):=e2.symm;have IU:n1=Int.negSucc a:=e1.symm;subst Vu IU;refine⟨_,NX k1 k2 (Int.negSucc a) n (I8 hsh),.int _ _ _ ?_⟩;simp only[SI.den];have hc:((2:Int)^n)=((2^n:Nat):Int):=by simp
    rw[hc];have Iz:0<2^n:=Nat.two_pow_pos n;obtain⟨m,hm⟩:∃m,2^n=m+1:=⟨2^n-1,by omega⟩;show Int.negSucc (a / 2^n)=_;rw[hm];rfl
   ·cases h
 ·cases hy<;>first|(simp at h;done)|skip
  rename_i n1 c1 s1 h1 sj n2 c2 s2 h2 Jm;subst h1 sj h2 Jm;have hg:(eqGuard op t X Y (.string s1) (.string s2)).run P w=.ok () w:=by cases op<;>simp[eqGuard]
  simp only[kb,hg,gC];obtain⟨v,hv,hr⟩:=Po (P:=P) (w:=w) (ρ:=ρ) (μ:=μ) (x:=s1) (y:=s2) h;refine⟨v,?_,hr⟩;rw[←hv];cases op<;>simp[Go.binOp]
end
section
variable{P:Program}{ρ:Nat→Int}{w0:W0}{w:World}{μ:Mu}{G:Key→Option ab}{nx:Nat}{orc:dP}{nt:Nat}{tm:T AV}{H:T ab}{ev:Operand→Value}
theorem DP(op:BinOp)(t:TypeId){X Y:Operand}(h:gj X=true∨gj Y=true):(eqGuard op t X Y .nilIface .nilIface).run P w=.ok () w:=by
 rcases h with h|h
 ·cases X<;>simp[gj]at h;cases op<;>simp[eqGuard]
 ·cases Y<;>simp[gj]at h;cases op<;>simp[eqGuard]
theorem Qy(ho:cD ρ orc){op:BinOp}{neg:Bool}(qF:op=if neg then .neq else .eql){t:TypeId}{p:ql}(hp:tz P t p)(Ui:p≠.int)(hns:p≠.str)
  {X Y:Operand} {a b:AV} {x y:Value} (hx:aA ρ μ a x) (hy:aA ρ μ b y) {r:Bool} (h:fq orc p a b=some r)
  (hg:(∃l,p=.parts l)→P.eqGuardType P.depth t=false) (hc:p=.iface→gj X=true∨gj Y=true) :
  (do eqGuard op t X Y x y;Go.binOp op t x y:Sem Value).run P w=.ok (.bool (bif neg then !r else r)) w:=by
 have fin:∀(x y:Value),(eqGuard op t X Y x y).run P w=.ok () w→(Op.equalIn 10000 t x y).run P w=.ok r w→(∀(k:IntKind) (n:Int),x≠.int k n)→(∀s,x≠.string s)→(∀k n,x≠.float k n)→(∀k n m,x≠.complex k n m)→
   (do eqGuard op t X Y x y;Go.binOp op t x y:Sem Value).run P w=.ok (.bool (bif neg then !r else r)) w:=by
  intro x y hg he h1 h2 h3 h4;simp only[kb,hg,gC];subst qF;cases neg with
  |false=>
   simp only[Gy,if_false,cond_false];cases x<;>first|exact absurd rfl (h1 _ _)|exact absurd rfl (h2 _)|exact absurd rfl (h3 _ _)|exact absurd rfl (h4 _ _ _)|skip
   all_goals simp only[Go.binOp,Op.equal,Op.maxDepth,kb,he,gC,nJ]
  |true=>
   simp only[if_true,cond_true];cases x<;>first|exact absurd rfl (h1 _ _)|exact absurd rfl (h2 _)|exact absurd rfl (h3 _ _)|exact absurd rfl (h4 _ _ _)|skip
   all_goals simp only[Go.binOp,Op.equal,Op.maxDepth,kb,he,gC,nJ]
 have Hy:∀(x y:Value),(∀v,x≠.agg v)→x≠.nilIface→(eqGuard op t X Y x y).run P w=.ok () w:=by intro x y h1 h2;subst qF;cases neg<;>cases x<;>first|exact absurd rfl (h1 _)|exact absurd rfl h2|simp[eqGuard]
 cases p with
 |int=>exact absurd rfl Ui
 |str=>exact absurd rfl hns
 |bool=>have he:=kW (P:=P) (w:=w) ho hp (by intro l;simp) h hx hy 9999;obtain⟨x',y',rfl,rfl,hr⟩:=JY h;cases hx;cases hy;exact fin _ _ (Hy _ _ (by simp) (by simp)) he (by simp) (by simp) (by simp) (by simp)
 |ptr=>
  have he:=kW (P:=P) (w:=w) ho hp (by intro l;simp) h hx hy 9999;have:∃q,x=.pointer q:=by rcases Nd h with⟨rfl,rfl,rfl⟩|⟨rfl,⟨_,_,rfl⟩|⟨_,rfl⟩,rfl⟩|⟨⟨_,_,rfl⟩|⟨_,rfl⟩,rfl,rfl⟩|⟨k,o1,o2,rfl,rfl,hr⟩<;>(cases hx;exact⟨_,rfl⟩)
  obtain⟨q,rfl⟩:=this;exact fin _ _ (Hy _ _ (by simp) (by simp)) he (by simp) (by simp) (by simp) (by simp)
 |iface=>
  have he:=kW (P:=P) (w:=w) ho hp (by intro l;simp) h hx hy 9999;have af8:=hc rfl;have hgi:(eqGuard op t X Y .nilIface .nilIface).run P w=.ok () w:=DP op t af8;rcases Hz h with⟨rfl,rfl,rfl⟩|⟨rfl,⟨_,_,rfl⟩,rfl⟩|⟨⟨_,_,rfl⟩,rfl,rfl⟩
  ·cases hx;cases hy;exact fin _ _ hgi he (by simp) (by simp) (by simp) (by simp)
  ·cases hx;cases hy;exact fin _ _ (by subst qF;cases neg<;>simp[eqGuard]) he (by simp) (by simp) (by simp) (by simp)
  ·cases hx;cases hy;exact fin _ _ (Hy _ _ (by simp) (by simp)) he (by simp) (by simp) (by simp) (by simp)
 |slice=>
  have he:=kW (P:=P) (w:=w) ho hp (by intro l;simp) h hx hy 9999;have:∃q l c,x=.slice q l c:=by rcases HA h with⟨rfl,rfl,rfl⟩|⟨rfl,⟨_,_,_,_,rfl⟩|⟨_,_,_,_,rfl⟩,rfl⟩|⟨⟨_,_,_,_,rfl⟩|⟨_,_,_,_,rfl⟩,rfl,rfl⟩<;>(cases hx;exact⟨_,_,_,rfl⟩)
  obtain⟨_,_,_,rfl⟩:=this;exact fin _ _ (Hy _ _ (by simp) (by simp)) he (by simp) (by simp) (by simp) (by simp)
 |func=>have he:=kW (P:=P) (w:=w) ho hp (by intro l;simp) h hx hy 9999;rcases JZ h with⟨rfl,rfl,rfl⟩|⟨rfl,⟨_,_,_,rfl⟩,rfl⟩|⟨⟨_,_,_,rfl⟩,rfl,rfl⟩<;>(cases hx;exact fin _ _ (Hy _ _ (by simp) (by simp)) he (by simp) (by simp) (by simp) (by simp))
 |map=>have he:=kW (P:=P) (w:=w) ho hp (by intro l;simp) h hx hy 9999;rcases Nf h with⟨rfl,rfl,rfl⟩|⟨rfl,⟨_,rfl⟩,rfl⟩|⟨⟨_,rfl⟩,rfl,rfl⟩<;>(cases hx;exact fin _ _ (Hy _ _ (by simp) (by simp)) he (by simp) (by simp) (by simp) (by simp))
 |parts l=>
  cases a<;>first|(simp[fq]at h;done)|skip
  cases b<;>first|(simp[fq]at h;done)|skip
  simp only[fq]at h;cases hx with|agg _ xs hx=>cases hy with|agg _ ys hy=>
  have he:(Op.equalIn 10000 t (.agg xs) (.agg ys)).run P w=.ok r w:=Di ho hp hx hy h 9997;exact fin _ _ (run_eqGuard_agg w op t X Y xs ys (hg ⟨l,rfl⟩)) he (by simp) (by simp) (by simp) (by simp)
end
end Go.Sx
