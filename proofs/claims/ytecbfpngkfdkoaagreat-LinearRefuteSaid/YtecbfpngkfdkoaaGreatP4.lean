/- A part of the proof. No condition. -/
import Derived.Test.YtecbfpngkfdkoaaGreatP3
import Derived.ChangeKeysEq
import Derived.Lib.ConvBytes
set_option linter.unusedSimpArgs false
set_option linter.unusedVariables false
set_option linter.unusedSectionVars false
namespace Go.Sx
open Go.RowKit
noncomputable def bY(g:AV→T ag→AV×T ag):List AV→T ag→List AV×T ag
 | [],h=>([],h)
 |v ::l,h=>((g v h).1 ::(bY g l (g v h).2).1,(bY g l (g v h).2).2)
noncomputable def J8(ih:AV→T ag→AV×T ag)(v:AV)(h:T ag):AV×T ag:=
 match v with
 |.slice b off len sz=>match aa b h with
  |some (.cells l .fix)=>if len*sz≤(l.drop off).length then(.sl (bY ih ((l.drop off).take (len*sz)) (au b (some (.cells l .ro)) h)).1 len sz .any,(bY ih ((l.drop off).take (len*sz)) (au b (some (.cells l .ro)) h)).2) else(v,h)
  |some (.cells l .ro)=>if len*sz≤(l.drop off).length then(.sl (bY ih ((l.drop off).take (len*sz)) h).1 len sz .any,(bY ih ((l.drop off).take (len*sz)) h).2) else(v,h)
  |some (.cells l .part)=>if len*sz≤(l.drop off).length then(.sl (bY ih ((l.drop off).take (len*sz)) (au b none h)).1 len sz .any,(bY ih ((l.drop off).take (len*sz)) (au b none h)).2) else(v,h)
  |_=>(v,h)
 |.sl l len sz _=>(.sl l len sz .any,h)
 |.agg cs=>(.agg (bY ih cs h).1,(bY ih cs h).2)
 |v=>(v,h)
noncomputable def aO:Nat→AV→T ag→AV×T ag
 |0,v,h=>(v,h)
 |n+1,v,h=>J8 (aO n) v h
section
variable{R:Type}
theorem tL{g:AV→T ag→(AV→T ag→R)→R}{ga:AV→T ag→AV×T ag}(hg:∀ v h c,g v h c=c (ga v h).1 (ga v h).2):∀ (l:List AV) (h:T ag) (c:List AV→T ag→R),It g l h c=c (bY ga l h).1 (bY ga l h).2
 | [],h,c=>rfl
 |v ::l,h,c=>by
  show g v h (fun v h=>It g l h fun r h=>c (v ::r) h)=_
  rw[hg,tL hg l]
  rfl
theorem BV:∀ (n:Nat) (v:AV) (h:T ag) (c:AV→T ag→R),frz n v h c=c (aO n v h).1 (aO n v h).2
 |0,v,h,c=>rfl
 |n+1,v,h,c=>by
  show GG (frz n) v h c=_
  have hL:=tL (R:=R) (BV n)
  cases v with
  |slice b off len sz=>
   simp only[aO,J8,GG]
   cases hb:aa b h with
   |none=>rfl
   |some B=>
    cases B with
    |cells l ck=>
     cases ck<;>simp only[takeC_eq,dropL_eq,sTCe,hL]<;>split<;>rfl
    |_=>rfl
  |agg cs=>simp only[aO,J8,GG,hL]
  |_=>rfl
end
section
variable{P:Program}{ρ:Nat→Int}{w0:W0}{w:World}{nx:Key}
structure hN(P:Program)(ρ:Nat→Int)(w0:W0)(w:World)(nx:Key)(μ:Mu)(G:Key→Option ag)(H:T ag)(μ':Mu)(G':Key→Option ag)(H':T ag):Prop where
 le:μ.le μ'
 m:∀ b,μ' b=μ b
 M:aP P ρ w0 μ' G' nx.toNat w
 hs:HSub H' G'
 g:∀ b,aa b H=none→G' b=G b∧aa b H'=none
theorem hN.refl{μ:Mu}{G:Key→Option ag}{H:T ag}(hM:aP P ρ w0 μ G nx.toNat w)(hH:HSub H G):hN P ρ w0 w nx μ G H μ G H:=⟨μ.le_refl,fun _=>rfl,hM,hH,fun _ h=>⟨rfl,h⟩⟩
theorem hN.trans{μ μ1 μ2:Mu}{G G1 G2:Key→Option ag}{H H1 H2:T ag}(a:hN P ρ w0 w nx μ G H μ1 G1 H1)(b:hN P ρ w0 w nx μ1 G1 H1 μ2 G2 H2):hN P ρ w0 w nx μ G H μ2 G2 H2:=
 ⟨Mu.le_trans a.le b.le,fun k=>(b.m k).trans (a.m k),b.M,b.hs,fun k hk=>⟨((b.g k (a.g k hk).2).1).trans (a.g k hk).1,(b.g k (a.g k hk).2).2⟩⟩
theorem hN.kept{μ μ':Mu}{G G':Key→Option ag}{H H':T ag}(h:hN P ρ w0 w nx μ G H μ' G' H'):Kept H H' nx nx μ μ' G G':=
 ⟨fun b hb _=>(h.g b hb).1,fun b _=>h.m b,fun b hb _=>(h.g b hb).2,fh _⟩
def Mu.Tk(μ:Mu)(c:Nat)(arr:Array Value):Mu:=⟨μ.loc,fun c' i=>match μ.fz c' i with|some v=>some v|none=>if c'=c then arr[i]? else none⟩
theorem avb{μ:Mu}{G:Key→Option ag}{H:T ag}(hM:aP P ρ w0 μ G nx.toNat w)(hH:HSub H G){b:Key}{L:List AV}{ck:CK}(hb:aa b H=some (.cells L ck))(X:Option ag)(hX:X=none∨(X=some (.cells L .ro)∧ck≠.part)) :
  ∃ l arr elem f μ',μ b=some l∧w.heap[l.c]?=some (.cells arr elem f)∧hN P ρ w0 w nx μ G H μ' (mz G b X) (au b X H)∧(∀ i v,arr[i]?=some v→μ'.fz l.c i=some v)∧
   (∀ i a,L[i]?=some a→∃ v,arr[l.base+i]?=some v∧aD ρ μ' a v)∧l.base+l.ext≤arr.size∧L.length≤l.ext:=by
 have hg:=hH _ _ hb
 obtain⟨l,arr,elem,f,h1,h2,hc,hs,hl,hf,he⟩:=hM.cells hg
 have hle:μ.le (μ.Tk l.c arr):=by
  refine⟨fun _ _ h=>h,fun c i v h=>?_⟩
  show(match μ.fz c i with|some v=>some v|none=>if c=l.c then arr[i]? else none)=some v
  rw[h]
 have hold:∀ i v,μ.fz l.c i=some v→arr[i]?=some v:=by
  intro i v h
  obtain⟨Fh,QW,f',e1,e2⟩:=hM.UQ _ _ _ h
  rw[h2] at e1;cases e1
  exact e2
 have LX:∀ i v,arr[i]?=some v→(μ.Tk l.c arr).fz l.c i=some v:=by
  intro i v h
  show(match μ.fz l.c i with|some v=>some v|none=>if l.c=l.c then arr[i]? else none)=some v
  cases hz:μ.fz l.c i with
  |none=>simp[h]
  |some u=>have:=hold i u hz;rw[h] at this;cases this;rfl
 refine⟨l,arr,elem,f,μ.Tk l.c arr,h1,h2,⟨hle,fun _=>rfl,?_,?_,?_⟩,LX,fun i a ha=>?_,hs,hl⟩
 ·refine⟨?_,?_,hM.wR,?_,hM.Nr,hM.new,hM.below,?_,?_,fun c i v e=>hle.f _ _ _ (hM.zle c i v e),?_,?_,hM.dr⟩
  ·intro b' B' e
   by_cases mB:b'=b
   ·subst mB
    rw[fR] at e
    rcases hX with rfl|⟨rfl,Fj⟩<;>cases e
    exact⟨l,_,h1,h2,.cells L .ro l arr elem f (fun i a ha=>let ⟨v,hv,hr⟩:=hc i a ha;⟨v,hv,hr.mono hle⟩) hs hl (fun h=>absurd rfl h) (fun _=>he Fj)⟩
   ·rw[cj _ _ mB] at e
    obtain⟨l',o',e1,e2,e3⟩:=hM.oR b' B' e
    exact⟨l',o',e1,e2,e3.mono hle⟩
  ·intro b1 b2 B1 B2 l1 l2 e1 e2 m1 m2 bU
   have:∀ x B,mz G b X x=some B→∃ B',G x=some B':=by
    intro x B e
    by_cases mB:x=b
    ·subst mB;exact⟨_,hg⟩
    ·rw[cj _ _ mB] at e;exact⟨_,e⟩
   obtain⟨B1',KY⟩:=this _ _ e1
   obtain⟨B2',e2'⟩:=this _ _ e2
   exact hM.sep b1 b2 B1' B2' l1 l2 KY e2' m1 m2 bU
  ·intro b' B' l' e m
   by_cases mB:b'=b
   ·subst mB;rw[fR] at e;rcases hX with rfl|⟨rfl,Fj⟩<;>cases e;exact .inl trivial
   ·rw[cj _ _ mB] at e;exact hM.own b' B' l' e m
  ·intro c i v e
   have e2:(match μ.fz c i with|some v=>some v|none=>if c=l.c then arr[i]? else none)=some v:=e
   clear e
   cases hz:μ.fz c i with
   |some u=>rw[hz] at e2;cases e2;exact hM.UQ _ _ _ hz
   |none=>
    rw[hz] at e2
    by_cases K4:c=l.c
    ·subst K4;simp only[if_true] at e2;exact⟨arr,elem,f,h2,e2⟩
    ·simp only[K4,if_false] at e2;cases e2
  ·intro b' B' l' n e m ta i hi
   by_cases mB:b'=b
   ·subst mB;rw[fR] at e;rcases hX with rfl|⟨rfl,Fj⟩<;>cases e;cases ta
   ·rw[cj _ _ mB] at e
    have bU:l'.c≠l.c:=hM.sep b' b B' _ l' l e hg m h1 mB
    have:=hM.fzf b' B' l' n e m ta i hi
    show(match μ.fz l'.c i with|some v=>some v|none=>if l'.c=l.c then arr[i]? else none)=none
    rw[this];simp[bU]
  ·intro c i v e
   have e2:(match μ.fz c i with|some v=>some v|none=>if c=l.c then arr[i]? else none)=some v:=e
   clear e
   cases hz:μ.fz c i with
   |some u=>rw[hz] at e2;cases e2;exact hM.fzo c i v hz
   |none=>
    rw[hz] at e2
    by_cases K4:c=l.c
    ·subst K4
     simp only[if_true] at e2
     cases ck with
     |fix=>exact .inl ((hM.own b _ l hg h1).resolve_left (by simp[ag.ro]))
     |part=>exact .inl ((hM.own b _ l hg h1).resolve_left (by simp[ag.ro]))
     |ro=>
      rcases hM.rof b L l hg h1 with h'|h'
      ·exact .inl h'
      ·have:=h' arr elem f i v h2 e2
       rw[hz] at this;cases this
    ·simp only[K4,if_false] at e2;cases e2
  ·intro b' L' l' e m
   by_cases mB:b'=b
   ·subst mB
    have m:μ b'=some l':=m
    rw[h1] at m;cases m
    refine .inr fun Fh ee ff i v ha hv=>?_
    rw[h2] at ha;cases ha
    exact LX i v hv
   ·rw[cj _ _ mB] at e
    rcases hM.rof b' L' l' e m with h'|h'
    ·exact .inl h'
    ·exact .inr fun Fh ee ff i v ha hv=>hle.f _ _ _ (h' Fh ee ff i v ha hv)
 ·exact hH.set b _
 ·intro b' fL
  have bU:b'≠b:=by intro e;subst e;rw[hb] at fL;cases fL
  exact⟨cj _ _ bU,by rw[bG _ _ _ _ bU];exact fL⟩
 ·obtain⟨v,hv,hr⟩:=hc i a ha
  exact⟨v,hv,hr.mono hle⟩
def aqd(P:Program)(ρ:Nat→Int)(w0:W0)(w:World)(nx:Key)(g:AV→T ag→AV×T ag):Prop:=∀ (v:AV) (u:Value) (μ:Mu) (G:Key→Option ag) (H:T ag),aP P ρ w0 μ G nx.toNat w→HSub H G→aD ρ μ v u→
 ∃ μ' G',hN P ρ w0 w nx μ G H μ' G' (g v H).2∧aD ρ μ' (g v H).1 u
theorem mS{g:AV→T ag→AV×T ag}(hg:aqd P ρ w0 w nx g):∀ (l:List AV) (us:List Value) (μ:Mu) (G:Key→Option ag) (H:T ag),aP P ρ w0 μ G nx.toNat w→HSub H G→an ρ μ l us→
  ∃ μ' G',hN P ρ w0 w nx μ G H μ' G' (bY g l H).2∧an ρ μ' (bY g l H).1 us
 | [],us,μ,G,H,hM,hH,h=>by cases h;exact⟨μ,G,hN.refl hM hH,.nil⟩
 |v ::l,us,μ,G,H,hM,hH,h=>by
  cases h with|cons _ _ u us h1 h2=>
  obtain⟨μ1,G1,f1,r1⟩:=hg v u μ G H hM hH h1
  obtain⟨μ2,G2,f2,r2⟩:=mS hg l us μ1 G1 _ f1.M f1.hs (h2.mono f1.le)
  exact⟨μ2,G2,f1.trans f2,.cons _ _ _ _ (r1.mono f2.le) r2⟩
theorem ajz{ih:AV→T ag→AV×T ag}(hi:aqd P ρ w0 w nx ih):aqd P ρ w0 w nx (J8 ih):=by
 intro v u μ G H hM hH hv
 unfold J8
 split
 ·rename_i b off len sz
  have go:∀ (L:List AV) (ck:CK) (X:Option ag),(X=none∨(X=some (.cells L .ro)∧ck≠.part))→aa b H=some (.cells L ck)→len*sz≤(L.drop off).length→∃ μ1 G1 vs,hN P ρ w0 w nx μ G H μ1 G1 (au b X H)∧an ρ μ1 ((L.drop off).take (len*sz)) vs∧
    ∃ cap c o a,u=.slice (some a) len cap∧len≤cap∧(cap=0∨a=⟨c,o,none⟩)∧(∀ i v,vs[i]?=some v→μ1.fz c (o+i)=some v):=by
   intro L ck X hX hb hle
   obtain⟨l,arr,elem,f,μ',h1,h2,h3,h4,h5,h6,h7⟩:=avb hM hH hb X hX
   cases hv with|slice _ _ _ _ cap l' a hm BD hlen ha=>
   rw[h1] at hm;cases hm
   by_cases h0:len*sz=0
   ·refine⟨μ',_,[],h3,by rw[h0];simp;exact .nil,cap,l.c,l.base+off,a,rfl,hlen,ha,?_⟩
    intro i v hv;simp at hv
   ·refine⟨μ',_,(arr.toList.drop (l.base+off)).take (len*sz),h3,ua h5 (by omega) (by simp at hle;omega),cap,l.c,l.base+off,a,rfl,hlen,ha,?_⟩
    intro i v hv
    have hi:i<len*sz:=by
     rcases Dr i (len*sz) with h'|h'
     ·exact h'
     ·rw[zqo (by simp;omega)] at hv;cases hv
    rw[List.getElem?_take_of_lt hi,List.getElem?_drop] at hv
    exact h4 _ _ (by simpa using hv)
  have fin:∀ (L:List AV) (ck:CK) (H1:T ag) (μ1:Mu) (G1:Key→Option ag) (vs:List Value),len*sz≤(L.drop off).length→hN P ρ w0 w nx μ G H μ1 G1 H1→an ρ μ1 ((L.drop off).take (len*sz)) vs→
    (∃ cap c o a,u=.slice (some a) len cap∧len≤cap∧(cap=0∨a=⟨c,o,none⟩)∧(∀ i v,vs[i]?=some v→μ1.fz c (o+i)=some v))→
    ∃ μ' G',hN P ρ w0 w nx μ G H μ' G' (bY ih ((L.drop off).take (len*sz)) H1).2∧aD ρ μ' (.sl (bY ih ((L.drop off).take (len*sz)) H1).1 len sz .any) u:=by
   intro L ck H1 μ1 G1 vs hle f1 r1 hx
   obtain⟨cap,c,o,a,rfl,hlen,ha,hf⟩:=hx
   obtain⟨μ2,G2,f2,r2⟩:=mS hi _ _ μ1 G1 H1 f1.M f1.hs r1
   refine⟨μ2,G2,f1.trans f2,.sl _ len sz .any cap c o a vs r2 ?_ hlen ha (fun i v hv=>f2.le.f _ _ _ (hf i v hv)) trivial⟩
   rw[r2.length,← r1.length,zqy]
   omega
  split
  ·rename_i L hb
   split
   ·rename_i hle
    obtain⟨μ1,G1,vs,f1,r1,hx⟩:=go L .fix _ (.inr ⟨rfl,by simp⟩) hb hle
    exact fin L .fix _ μ1 G1 vs hle f1 r1 hx
   ·exact⟨μ,G,hN.refl hM hH,hv⟩
  ·rename_i L hb
   split
   ·rename_i hle
    obtain⟨μ1,G1,vs,f1,r1,hx⟩:=go L .ro _ (.inr ⟨rfl,by simp⟩) hb hle
    -- the row was only read before: the heap stays as it was
    have f1':hN P ρ w0 w nx μ G H μ1 G1 H:=⟨f1.le,f1.m,f1.M,fun b' B' e=>by
      refine f1.hs b' B' ?_
      by_cases mB:b'=b
      ·subst mB;rw[hb] at e;cases e;rw[gTSm]
      ·rw[bG _ _ _ _ mB];exact e,fun b' fL=>⟨(f1.g b' fL).1,fL⟩⟩
    exact fin L .ro _ μ1 G1 vs hle f1' r1 hx
   ·exact⟨μ,G,hN.refl hM hH,hv⟩
  ·rename_i L hb
   split
   ·rename_i hle
    obtain⟨μ1,G1,vs,f1,r1,hx⟩:=go L .part none (.inl rfl) hb hle
    exact fin L .part _ μ1 G1 vs hle f1 r1 hx
   ·exact⟨μ,G,hN.refl hM hH,hv⟩
  ·exact⟨μ,G,hN.refl hM hH,hv⟩
 ·rename_i l len sz fl
  cases hv with|sl _ _ _ _ cap c o a vs hr hn hl ha hf hg=>
  exact⟨μ,G,hN.refl hM hH,.sl _ _ _ _ cap c o a vs hr hn hl ha hf trivial⟩
 ·rename_i cs
  cases hv with|agg _ vs hr=>
  obtain⟨μ1,G1,f1,r1⟩:=mS hi _ _ μ G H hM hH hr
  exact⟨μ1,G1,f1,.agg _ _ r1⟩
 ·exact⟨μ,G,hN.refl hM hH,hv⟩
theorem zp:∀ (n:Nat),aqd P ρ w0 w nx (aO n)
 |0=>fun v u μ G H hM hH hv=>⟨μ,G,hN.refl hM hH,hv⟩
 |n+1=>ajz (zp n)
theorem zB(g:AV→T ag→AV×T ag):∀ (l:List AV) (H:T ag),(bY g l H).1.length=l.length
 | [],H=>rfl
 |v ::l,H=>by simp[bY,zB g l]
end
end Go.Sx
/-
 SX: append. No condition.
-/
namespace Go.Sx
open Go.RowKit
theorem Q6(sb:Nat):∀ (r c:Nat),c<sb→Builtin.growBy sb r c≤sb+(sb+768) / 4
 |0,c,h=>by simp[Builtin.growBy];omega
 |r+1,c,h=>by
  simp only[Builtin.growBy]
  rw[if_neg (by omega)]
  by_cases h':c+(c+768) / 4<sb
  ·exact Q6 sb r _ h'
  ·have:Builtin.growBy sb r (c+(c+768) / 4)=c+(c+768) / 4:=by
    cases r with
    |zero=>rfl
    |succ r=>simp only[Builtin.growBy];rw[if_pos (by omega)]
   rw[this]
   omega
theorem akj{sb cap:Nat}(h:cap<sb):Builtin.nextslicecap sb cap≤2*sb+1000:=by
 unfold Builtin.nextslicecap
 split
 ·omega
 ·split
  ·omega
  ·have:=Q6 sb 4 cap h
   omega
section
variable{P:Program}{ρ:Nat→Int}{w0:W0}{w:World}{μ:Mu}{G:Key→Option ag}{nx:Key}{orc:hU}{nt:Nat}{tm:T AV}{H:T ag}{ev:Operand→Value}
structure aqw(P:Program)(t u e:TypeId)(i:TypeInfo)(z:Value):Prop where
 ht:P.underlying t=some (.slice e)
 hu:(∃ e',P.underlying u=some (.slice e'))∨P.underlying u=some .string
 hi:P.info? e=some i
 hz:i.zero=some z
 pos:0<i.size
 zs:z.cells.size=i.size
 by_:i.bytes≤65536
theorem gX{t u e:TypeId}{i:TypeInfo}{z:Value}(hT:aqw P t u e i z)(ty:TypeId){base:Option Addr}{sLen sCap n:Nat}{x:Value}{us:Array Value}(hn:(Builtin.lenOf x).run P w=.ok n w)
  (hle:sLen+n≤sCap) (hc:(Builtin.firstCells i.size n x).run P w=.ok us w) :
  (Builtin.append_ #[t,u] ty #[.slice base sLen sCap,x]).run P w =
   (match base with|some a=>(storeCells (a.add (sLen*i.size)) us.toList).run P w|none=>.ok () w).andThen fun _ w'=>.ok (.slice base (sLen+n) sCap) w':=by
 rcases hT.hu with⟨e',h⟩|h
 all_goals
  simp only[Builtin.append_,List.getElem?_toArray,List.getElem?_cons_zero,List.getElem?_cons_succ,mA,ah hT.ht,jH,aT hT.hi,ah h,ra,Ps,if_false,hn,hle,if_true,Bool.not_false,hc]
  cases base<;>simp
theorem run_append_grow{t u e:TypeId}{i:TypeInfo}{z:Value}(hT:aqw P t u e i z)(ty:TypeId){base:Option Addr}{sLen sCap n:Nat}{x:Value}{us os:Array Value}(hn:(Builtin.lenOf x).run P w=.ok n w)
  (Vg:sCap<sLen+n) (hsm:sLen+n≤1048576) (hc:∀ d,(Builtin.firstCells i.size n x).run P {w with drawn:=d}=.ok us {w with drawn:=d})
  (ho:∀ d,(Builtin.firstCells i.size sLen (.slice base sLen sCap)).run P {w with drawn:=d}=.ok os {w with drawn:=d}) :
  ∃ cap,sLen+n≤cap∧(Builtin.append_ #[t,u] ty #[.slice base sLen sCap,x]).run P w =
   .ok (.slice (some ⟨w.heap.size,0,none⟩) (sLen+n) cap) ({w with drawn:=w.drawn+1}.alloc (.cells (os++us++Builtin.zeroCells z.cells (cap-(sLen+n))) e)):=by
 refine⟨(sLen+n)+w.tape w.drawn (.appendCap (sLen+n) sCap e)%(2^63-(sLen+n)),by omega,?_⟩
 have h1:¬ (sLen+n≤sCap):=by omega
 have h2:¬ (((sLen+n:Nat):Int)>IntKind.i64.max∧(False∨i.bytes=0)):=by
  have:IntKind.i64.max=9223372036854775807:=by decide
  rw[this]
  omega
 have h3:¬ (Builtin.nextslicecap (sLen+n) sCap*i.bytes>2^48):=by
  have a:=akj Vg
  have:Builtin.nextslicecap (sLen+n) sCap*i.bytes≤2098152*65536:=Nat.mul_le_mul (by omega) hT.by_
  omega
 have hch:(choose (.appendCap (sLen+n) sCap e)).run P w=.ok ((sLen+n)+w.tape w.drawn (.appendCap (sLen+n) sCap e)%(2^63-(sLen+n))) {w with drawn:=w.drawn+1}:=by
  simp[Question.forced,Question.cut]
 have KN:=ho (w.drawn+1)
 have Hr:=hc (w.drawn+1)
 rcases hT.hu with⟨e',h⟩|h
 all_goals
  simp only[Builtin.append_,List.getElem?_toArray,List.getElem?_cons_zero,List.getElem?_cons_succ,mA,ah hT.ht,jH,aT hT.hi,ah h,ra,Ps,if_false,hn,h1,Bool.not_false,jG hT.hi]
  rw[if_neg h2]
  simp only[mA,jG hT.hi,jH]
  rw[if_neg h3]
  simp only[mA,hch,jH,jG hT.hi,run_askRoom,KN,if_true,Hr,mW hT.hi hT.hz,kq,ra]
structure Np(P:Program)(ρ:Nat→Int)(μ:Mu)(w:World)(sz:Nat)(x:Value)(new:List AV)(m:Nat)(us:Array Value):Prop where
 hn:(Builtin.lenOf x).run P w=.ok m w
 hc:∀ d,(Builtin.firstCells sz m x).run P {w with drawn:=d}=.ok us {w with drawn:=d}
 hr:an ρ μ new us.toList
 hl:new.length=m*sz
theorem Np.now{sz:Nat}{x:Value}{new:List AV}{m:Nat}{us:Array Value}(h:Np P ρ μ w sz x new m us):(Builtin.firstCells sz m x).run P w=.ok us w:=h.hc w.drawn
theorem Cp(z:Array Value)(n:Nat):(Builtin.zeroCells z n).size=n*z.size:=by simp[Builtin.zeroCells]
def Mu.mark(μ:Mu)(k:Key)(c base ext:Nat)(arr:Array Value):Mu:=⟨mz μ.loc k (some ⟨c,base,ext⟩),fun c' i=>match μ.fz c' i with|some v=>some v|none=>if c'=c∧i<base then arr[i]? else none⟩
theorem Mu.jK(μ:Mu)(k:Key)(c base ext:Nat)(arr:Array Value):(μ.mark k c base ext arr) k=some ⟨c,base,ext⟩:=fR _ _ _
theorem Mu.kS(μ:Mu){k b:Key}(c base ext:Nat)(arr:Array Value)(h:b≠k):(μ.mark k c base ext arr) b=μ b:=cj _ _ h
theorem aP.mark{w':World}{n n':Nat}(h:aP P ρ w0 μ G n w)(k:Key)(c base ext:Nat){arr:Array Value}{elem:TypeId}(hk:μ k=none)(hw:Touch w w' c)(ho:w'.heap[c]?=some (.cells arr elem (0,0)))
  (hs:base+ext≤arr.size) (Eh:∀ b B' l',G b=some B'→μ b=some l'→l'.c≠c) (hold:∀ i v,μ.fz c i=some v→arr[i]?=some v∧i<base) (oU:w0.heap.size≤c) (hn:n≤n') (Nq:k.toNat<n') :
  μ.le (μ.mark k c base ext arr)∧aP P ρ w0 (μ.mark k c base ext arr) (mz G k (some .tok)) n' w'∧(∀ i v,i<base→arr[i]?=some v→(μ.mark k c base ext arr).fz c i=some v):=by
 have asN:∀ c' i,(μ.mark k c base ext arr).fz c' i=(match μ.fz c' i with|some v=>some v|none=>if c'=c∧i<base then arr[i]? else none):=fun _ _=>rfl
 have hle:μ.le (μ.mark k c base ext arr):=by
  refine⟨fun b l e=>?_,fun c' i v e=>by rw[asN,e]⟩
  by_cases hb:b=k
  ·subst hb;rw[hk] at e;cases e
  ·rw[Mu.kS _ _ _ _ _ hb];exact e
 have hlc:c<w'.heap.size:=by
  rcases Dr c w'.heap.size with h'|h'
  ·exact h'
  ·rw[Uv h'] at ho;cases ho
 refine⟨hle,⟨?_,?_,?_,?_,?_,?_,hw.below h.below h.below.size oU,?_,?_,fun c' i v e=>hle.f _ _ _ (h.zle c' i v e),?_,?_,Nat.le_trans h.dr hw.dr⟩,?_⟩
 ·intro b B' e
  by_cases hb:b=k
  ·subst hb
   rw[fR] at e
   cases e
   exact⟨_,_,Mu.jK _ _ _ _ _ _,ho,.tok _ arr elem hs⟩
  ·rw[cj _ _ hb] at e
   obtain⟨l',o',h1,h2,h3⟩:=h.oR b B' e
   refine⟨l',o',by rw[Mu.kS _ _ _ _ _ hb];exact h1,?_,h3.mono hle⟩
   rw[hw.other l'.c (Eh b B' l' e h1) (h.wR b l' h1)]
   exact h2
 ·intro b b' B1 B2 l1 l2 e1 e2 m1 m2 bU
  by_cases hb:b=k
  ·subst hb
   rw[Mu.jK] at m1;cases m1
   have fL:b'≠b:=fun e=>bU e.symm
   rw[cj _ _ fL] at e2
   rw[Mu.kS _ _ _ _ _ fL] at m2
   exact fun e=>Eh b' B2 l2 e2 m2 e.symm
  ·rw[cj _ _ hb] at e1
   rw[Mu.kS _ _ _ _ _ hb] at m1
   by_cases fL:b'=k
   ·subst fL
    rw[Mu.jK] at m2;cases m2
    exact Eh b B1 l1 e1 m1
   ·rw[cj _ _ fL] at e2
    rw[Mu.kS _ _ _ _ _ fL] at m2
    exact h.sep b b' B1 B2 l1 l2 e1 e2 m1 m2 bU
 ·intro b l' e
  by_cases hb:b=k
  ·subst hb;rw[Mu.jK] at e;cases e;exact hlc
  ·rw[Mu.kS _ _ _ _ _ hb] at e;exact JJ (h.wR b l' e) hw.size
 ·intro b B' l' e m
  by_cases hb:b=k
  ·subst hb;rw[Mu.jK] at m;cases m;exact .inr oU
  ·rw[cj _ _ hb] at e;rw[Mu.kS _ _ _ _ _ hb] at m;exact h.own b B' l' e m
 ·intro b hb
  obtain⟨ext,he⟩:=h.Nr b hb
  exact⟨ext,hle.l _ _ he⟩
 ·intro b l' e
  by_cases hb:b=k
  ·subst hb;exact Nq
  ·rw[Mu.kS _ _ _ _ _ hb] at e;exact JJ (h.new b l' e) hn
 ·intro c' i v e
  rw[asN] at e
  cases hz:μ.fz c' i with
  |some u=>
   rw[hz] at e;cases e
   by_cases hc:c'=c
   ·subst hc;exact⟨arr,elem,(0,0),ho,(hold i v hz).1⟩
   ·obtain⟨Fh,QW,f',h1,h2⟩:=h.UQ c' i v hz
    have bO:c'<w.heap.size:=by
     rcases Dr c' w.heap.size with h'|h'
     ·exact h'
     ·rw[Uv h'] at h1;cases h1
    exact⟨Fh,QW,f',by rw[hw.other c' hc bO];exact h1,h2⟩
  |none=>
   rw[hz] at e
   simp only at e
   by_cases hc:c'=c∧i<base
   ·rw[if_pos hc] at e;rw[hc.1];exact⟨arr,elem,(0,0),ho,e⟩
   ·rw[if_neg hc] at e;cases e
 ·intro b B' l' n e m ta i hi
  rw[asN]
  by_cases hb:b=k
  ·subst hb
   rw[fR] at e;cases e
   rw[Mu.jK] at m;cases m
   simp only[ag.lo,cT] at ta;subst ta
   cases hz:μ.fz c i with
   |some u=>exact absurd (hold i u hz).2 (by show ¬ i<base;exact Nat.not_lt.2 hi)
   |none=>
    have:¬ (c=c∧i<base):=fun h=>absurd h.2 (Nat.not_lt.2 hi)
    show(if c=c∧i<base then arr[i]? else none)=none
    rw[if_neg this]
  ·rw[cj _ _ hb] at e;rw[Mu.kS _ _ _ _ _ hb] at m
   have bU:=Eh b B' l' e m
   rw[h.fzf b B' l' n e m ta i hi]
   simp[bU]
 ·intro c' i v e
  rw[asN] at e
  cases hz:μ.fz c' i with
  |some u=>rw[hz] at e;cases e;exact h.fzo c' i v hz
  |none=>
   rw[hz] at e
   simp only at e
   by_cases hc:c'=c∧i<base
   ·rw[hc.1];exact .inl oU
   ·rw[if_neg hc] at e;cases e
 ·intro b L l' e m
  by_cases hb:b=k
  ·subst hb;rw[Mu.jK] at m;cases m;exact .inl oU
  ·rw[cj _ _ hb] at e;rw[Mu.kS _ _ _ _ _ hb] at m
   rcases h.rof b L l' e m with h1|h1
   ·exact .inl h1
   ·refine .inr fun Fh ee f i v ha hv=>hle.f _ _ _ (h1 Fh ee f i v ?_ hv)
    rw[← hw.other l'.c (Eh b _ l' e m) (h.wR b l' m)];exact ha
 ·intro i v hi hv
  rw[asN]
  cases hz:μ.fz c i with
  |some u=>have:=(hold i u hz).1;rw[hv] at this;cases this;rfl
  |none=>simp[hi,hv]
theorem akk(c base ext:Nat)(arr:Array Value)(B B':Option ag):Kept H (au nx B' H) nx nx.succ μ (μ.mark nx c base ext arr) G (mz G nx B):=by
 have hs:=kTSu nx
 exact⟨fun b _ hl=>cj _ _ (ne_of_lt hl),fun b hl=>Mu.kS _ _ _ _ _ (ne_of_lt hl),fun b hb hl=>by rw[bG _ _ _ _ (ne_of_lt hl)];exact hb,by omega⟩
theorem Vh(hM:aP P ρ w0 μ G nx.toNat w){t u e:TypeId}{i:TypeInfo}{z:Value}(hT:aqw P t u e i z){L:List AV}{vs:Array Value}(hL:an ρ μ L vs.toList){len cap:Nat}(hlen:vs.size=len*i.size)(BD:len≤cap) :
  ∃ μ',μ.le μ'∧aP P ρ w0 μ' (mz G nx (some .tok)) nx.succ.toNat ({w with drawn:=w.drawn+1}.alloc (.cells (vs++Builtin.zeroCells z.cells (cap-len)) e))∧
   aD ρ μ' (.sl L len i.size (.tok nx)) (.slice (some ⟨w.heap.size,0,none⟩) len cap)∧(∀ (B B':Option ag) (H:T ag) (G:Key→Option ag),Kept H (au nx B' H) nx nx.succ μ μ' G (mz G nx B)):=by
 have hs:=kTSu nx
 have hk:=hM.nE
 have hzs:(Builtin.zeroCells z.cells (cap-len)).size=(cap-len)*i.size:=by rw[Cp,hT.zs]
 obtain⟨h1,h2,h3⟩:=(hM.drawn (w.drawn+1) (Nat.le_succ _)).mark (w':={w with drawn:=w.drawn+1}.alloc (.cells (vs++Builtin.zeroCells z.cells (cap-len)) e)) nx w.heap.size (len*i.size) ((cap-len)*i.size) (arr:=vs++Builtin.zeroCells z.cells (cap-len)) (elem:=e) hk
  (Touch.alloc _ _) (by show(w.heap.push _)[w.heap.size]?=_;simp) (by rw[Array.size_append,hzs,hlen];exact fh _)
  (fun b B' l' _ m=>Nat.ne_of_lt (hM.wR b l' m)) (fun j v hv=>by rw[hM.akl j] at hv;cases hv) hM.below.size (n':=nx.succ.toNat) (by omega) (by omega)
 refine⟨_,h1,h2,?_,fun B B' H G=>akk _ _ _ _ B B'⟩
 refine .sl L len i.size _ cap w.heap.size 0 _ vs.toList (hL.mono h1) ?_ BD (.inr rfl) ?_ ?_
 ·rw[hL.length];simpa using hlen
 ·intro j v hv
  have hj:j<vs.size:=by
   rcases Dr j vs.size with h'|h'
   ·exact h'
   ·rw[zqo (by simpa using h')] at hv;cases hv
  rw[Nat.zero_add]
  refine h3 j v (by omega) ?_
  rw[Array.getElem?_append_left hj]
  simpa using hv
 ·show _=some (⟨w.heap.size,0+len*i.size,(cap-len)*i.size⟩:Loc)
  rw[Nat.zero_add]
  exact Mu.jK _ _ _ _ _ _
theorem IQ(hM:aP P ρ w0 μ G nx.toNat w){t u e:TypeId}{i:TypeInfo}{z:Value}(hT:aqw P t u e i z){L:List AV}{vs:Array Value}(hL:an ρ μ L vs.toList){len cap:Nat}(hlen:vs.size=len*i.size)(BD:len≤cap) :
  ∃ μ',μ.le μ'∧aP P ρ w0 μ' (mz G nx (some (.cells L .part))) nx.succ.toNat ({w with drawn:=w.drawn+1}.alloc (.cells (vs++Builtin.zeroCells z.cells (cap-len)) e))∧
   aD ρ μ' (.slice nx 0 len i.size) (.slice (some ⟨w.heap.size,0,none⟩) len cap)∧(∀ (B B':Option ag) (H:T ag) (G:Key→Option ag),Kept H (au nx B' H) nx nx.succ μ μ' G (mz G nx B)):=by
 have hs:=kTSu nx
 have hk:=hM.nE
 have hzs:(Builtin.zeroCells z.cells (cap-len)).size=(cap-len)*i.size:=by rw[Cp,hT.zs]
 have uv:(vs++Builtin.zeroCells z.cells (cap-len)).size=cap*i.size:=by
  rw[Array.size_append,hzs,hlen,← Nat.add_mul];congr 1;omega
 have hLl:L.length=len*i.size:=by rw[hL.length];simpa using hlen
 have hll:len*i.size≤cap*i.size:=Nat.mul_le_mul_right _ BD
 have hle:μ.le (μ.put nx ⟨w.heap.size,0,cap*i.size⟩):=Mu.uw (.inl hk)
 have hb:DK P ρ (μ.put nx ⟨w.heap.size,0,cap*i.size⟩) (.cells L .part) ⟨w.heap.size,0,cap*i.size⟩ (.cells (vs++Builtin.zeroCells z.cells (cap-len)) e (0,0)):=by
  refine .cells L .part _ _ e (0,0) ?_ (by rw[uv];simp) (by show L.length≤cap*i.size;omega) (fun _=>rfl) (fun h=>absurd rfl h)
  intro j a ha
  obtain⟨v,hv,hr⟩:=hL.get j a ha
  refine⟨v,?_,hr.mono hle⟩
  have hj:j<vs.size:=by
   rcases Dr j vs.size with h'|h'
   ·exact h'
   ·rw[zqo (by simpa using h')] at hv;cases hv
  show(vs++_)[0+j]?=some v
  rw[Nat.zero_add,Array.getElem?_append_left hj]
  simpa using hv
 obtain⟨g1,g2⟩:=(hM.drawn (w.drawn+1) (Nat.le_succ _)).alloc nx (.cells L .part) (.cells (vs++Builtin.zeroCells z.cells (cap-len)) e) (cap*i.size) hk hb (nx':=nx.succ.toNat) (by omega) (by omega)
 refine⟨_,g1,g2,?_,fun B B' H G=>xQ _ _ _⟩
 exact .slice nx 0 len i.size cap _ _ (Mu.dG _ _ _) (by simp) BD (.inr (by simp))
theorem Ns(hM:aP P ρ w0 μ G nx.toNat w)(hH:HSub H G){t u e:TypeId}{i:TypeInfo}{z:Value}(hT:aqw P t u e i z)(ty:TypeId){s:AV}{sv xv:Value}(hs:aD ρ μ s sv){new:List AV}{m:Nat}{us:Array Value}
  (hx:Np P ρ μ w i.size xv new m us) {a:AV} {H':T ag} {nx':Key} (h:appendTo i.size s new m H nx=.val a H' nx') :
  ∃ v w' μ' G',(Builtin.append_ #[t,u] ty #[sv,xv]).run P w=.ok v w'∧aD ρ μ' a v∧μ.le μ'∧aP P ρ w0 μ' G' nx'.toNat w'∧HSub H' G'∧Kept H H' nx nx' μ μ' G G':=by
 have hss:=kTSu nx
 have KX:us.size=m*i.size:=by have:=hx.hr.length;rw[hx.hl] at this;simpa using this.symm
 have xR:=hT.pos
 unfold appendTo at h
 split at h
 ·-- nothing there
  cases hs
  cases LW:Nat.beq m 0 with
  |true=>
   rw[LW] at h
   simp only[cond_true,OR.val.injEq] at h
   obtain⟨rfl,rfl,rfl⟩:=h
   have hm:=mU LW
   subst hm
   refine⟨.slice none 0 0,w,μ,G,?_,.nils,μ.le_refl,hM,hH,Kept.refl _ _ _ _⟩
   rw[gX hT ty (base:=none) (sLen:=0) (sCap:=0) hx.hn (fh _) hx.now]
   rfl
  |false=>
   rw[LW] at h
   simp only[cond_false] at h
   have aD1:m≠0:=by intro e;subst e;cases LW
   cases hms:Nat.ble m 1048576 with
   |false=>rw[hms] at h;cases h
   |true=>
    rw[hms] at h
    rw[Nat.ble_eq] at hms
    simp only[cond_true,sTCe,OR.val.injEq] at h
    obtain⟨rfl,rfl,rfl⟩:=h
    obtain⟨cap,BD,dP⟩:=run_append_grow (P:=P) (w:=w) hT ty (base:=none) (sLen:=0) (sCap:=0) (os:=#[]) hx.hn (by omega) (by omega) hx.hc (by intro d;rfl)
    simp only[Nat.zero_add] at BD dP
    obtain⟨μ',g1,g2,g3,g4⟩:=IQ hM hT hx.hr KX BD
    refine⟨_,_,_,_,dP,g3,g1,?_,hH.set nx _,g4 _ _ _ _⟩
    have:(#[]:Array Value)++us=us:=by simp
    rw[this]
    exact g2
 ·-- a row aH2 is not written any more
  rename_i L len Gc fl
  cases LW:Nat.beq m 0 with
  |true=>
   rw[LW] at h
   simp only[cond_true,OR.val.injEq] at h
   obtain⟨rfl,rfl,rfl⟩:=h
   have hm:=mU LW
   subst hm
   have hus:us=#[]:=by apply Array.eq_empty_of_size_eq_zero;simpa using KX
   subst hus
   have hs0:=hs
   cases hs with|sl _ _ _ _ cap c o ad vs tP hn hle lU hf hg=>
   refine⟨.slice (some ad) len cap,w,μ,G,?_,hs0,μ.le_refl,hM,hH,Kept.refl _ _ _ _⟩
   rw[gX hT ty (base:=some ad) (sLen:=len) (sCap:=cap) hx.hn (by omega) hx.now]
   simp[storeCells]
  |false=>
   rw[LW] at h
   simp only[cond_false] at h
   have aD1:m≠0:=by intro e;subst e;cases LW
   cases Af:(Nat.beq i.size Gc&&Nat.ble (len+m) 1048576&&new.all AV.aN) with
   |false=>rw[Af] at h;cases h
   |true=>
    rw[Af] at h
    simp only[cond_true] at h
    simp only[jj,Nat.ble_eq] at Af
    obtain⟨⟨Nt,hsm⟩,akm⟩:=Af
    have Nt:=mU Nt
    subst Nt
    split at h
    ·cases h
    ·rename_i b
     split at h
     ·rename_i aD4
      simp only[appC_eq,sTCe,OR.val.injEq] at h
      obtain⟨rfl,rfl,rfl⟩:=h
      cases hs with|sl _ _ _ _ cap c o ad vs tP hn hle lU hf hg=>
      have hg:μ b=some ⟨c,o+len*i.size,(cap-len)*i.size⟩:=hg
      have hgb:=hH _ _ aD4
      have hvl:=tP.length
      obtain⟨lb,ob,q1,q2,q3⟩:=hM.oR b _ hgb
      rw[hg] at q1;cases q1
      cases q3 with|tok _ arr elem hsb=>
      have hsb:o+len*i.size+(cap-len)*i.size≤arr.size:=hsb
      have q2:w.heap[c]?=some (.cells arr elem (0,0)):=q2
      have hM1:aP P ρ w0 μ (mz G b none) nx.toNat w:=hM.sub (fun b' B' e'=>by
       by_cases hb:b'=b
       ·subst hb;rw[fR] at e';cases e'
       ·rw[cj _ _ hb] at e';exact e')
      have ne:∀ b',aa b' H=none→b'≠b:=fun b' h0 e0=>by rw[e0,aD4] at h0;cases h0
      have Nu:∀ (μ':Mu) x y,(∀ b':Key,b'.toNat<nx.toNat→μ' b'=μ b')→Kept H (au nx y (au b none H)) nx nx.succ μ μ' G (mz (mz G b none) nx x):=by
       intro μ' x y iP
       exact⟨fun b' fL bO=>by rw[cj _ _ (ne_of_lt bO),cj _ _ (ne b' fL)],iP,
        fun b' fL bO=>by rw[bG _ _ _ _ (ne_of_lt bO),bG _ _ _ _ (ne b' fL)];exact fL,by omega⟩
      have Q7:an ρ μ (L++new) (vs++us.toList):=tP.append hx.hr
      by_cases hlm:len+m≤cap
      ·-- in place, behind sZ end
       have lU:ad=⟨c,o,none⟩:=lU.resolve_left (by omega)
       subst lU
       have awh:=Fp hx.hr akm
       have aQR:(cap-len)*i.size=cap*i.size-len*i.size:=Nat.mul_sub_right_distrib _ _ _
       have hmul:(len+m)*i.size≤cap*i.size:=Nat.mul_le_mul_right _ hlm
       have Ca:(len+m)*i.size=len*i.size+m*i.size:=Nat.add_mul _ _ _
       have hlc:len*i.size≤cap*i.size:=Nat.mul_le_mul_right _ hle
       obtain⟨w',e1,e2,e3,e4⟩:=nG P c (o+len*i.size) elem us.toList 0 w arr q2 (by simp[KX];omega) awh
       have oU:w0.heap.size≤c:=(hM.own b _ _ hgb hg).resolve_left (by simp[ag.ro])
       have asQ:∀ j v,μ.fz c j=some v→arr[j]?=some v∧j<o+len*i.size:=by
        intro j v hj
        constructor
        ·obtain⟨Fh,QW,f',x1,x2⟩:=hM.UQ _ _ _ hj
         rw[q2] at x1;cases x1;exact x2
        ·rcases Dr j (o+len*i.size) with h'|h'
         ·exact h'
         ·have:=hM.fzf b _ _ (o+len*i.size) hgb hg rfl j h'
          rw[this] at hj;cases hj
       have aD5:(cap-(len+m))*i.size=cap*i.size-(len+m)*i.size:=Nat.mul_sub_right_distrib _ _ _
       obtain⟨g1,g2,g3⟩:=hM1.mark (w':=w') nx c (o+(len+m)*i.size) ((cap-(len+m))*i.size) hM.nE e2 e4 (by rw[me];omega)
        (fun b' B' l' gg mm=>by
         by_cases mB:b'=b
         ·subst mB;rw[fR] at gg;cases gg
         ·rw[cj _ _ mB] at gg
          exact hM.sep b' b B' _ l' _ gg hgb mm hg mB)
        (fun j v hj=>by
         obtain⟨y1,y2⟩:=asQ j v hj
         refine⟨?_,by omega⟩
         rw[iR _ _ _ _ (by simp[KX];omega),if_neg (by omega)]
         exact y1) oU (n':=nx.succ.toNat) (by omega) (by omega)
       refine⟨.slice (some ⟨c,o,none⟩) (len+m) cap,w',_,_,?_,?_,g1,g2,(hH.set b none).set nx _,Nu _ _ _ (fun b' bO=>Mu.kS _ _ _ _ _ (ne_of_lt bO))⟩
       ·rw[gX hT ty (base:=some ⟨c,o,none⟩) hx.hn hlm hx.now]
        simp only[nH,e1,jH]
       ·refine .sl _ _ _ _ cap c o _ (vs++us.toList) (Q7.mono g1) ?_ hlm (.inr rfl) ?_ ?_
        ·rw[zqf,hn,hx.hl,Ca]
        ·intro j v hj
         by_cases hj1:j<vs.length
         ·rw[List.getElem?_append_left hj1] at hj
          exact g1.f _ _ _ (hf j v hj)
         ·rw[List.getElem?_append_right (by omega)] at hj
          have bz:j-vs.length<us.size:=by
           rcases Dr (j-vs.length) us.size with h'|h'
           ·exact h'
           ·rw[zqo (by simpa using h')] at hj;cases hj
          refine g3 _ _ (by omega) ?_
          rw[iR _ _ _ _ (by simp[KX];omega),if_pos (by simp;omega)]
          rw[← hj];congr 1;omega
        ·exact Mu.jK _ _ _ _ _ _
      ·-- a new row
       have Cq:∀ d,(Builtin.firstCells i.size len (.slice (some ad) len cap)).run P {w with drawn:=d}=.ok vs.toArray {w with drawn:=d}:=by
        intro d
        simp only[Builtin.firstCells]
        by_cases h0:len=0
        ·subst h0
         have:vs=[]:=zqr (by omega)
         subst this
         simp[loadCells,loadCellsFrom]
        ·have lU:ad=⟨c,o,none⟩:=lU.resolve_left (by omega)
         subst lU
         rw[LN (hM.asR d) hf (by omega),Pu (by omega)]
       obtain⟨azS,Q8,dP⟩:=run_append_grow (P:=P) (w:=w) hT ty (base:=some ad) hx.hn (by omega) hsm hx.hc Cq
       have Pk:an ρ μ (L++new) (vs.toArray++us).toList:=by simpa using Q7
       have aqx:(vs.toArray++us).size=(len+m)*i.size:=by
        rw[Array.size_append,KX,Nat.add_mul];simp;omega
       obtain⟨μ',g1,g2,g3,g4⟩:=Vh hM1 hT Pk aqx Q8
       refine⟨_,_,_,_,dP,g3,g1,g2,(hH.set b none).set nx _,Nu _ _ _ (fun b' bO=>(g4 none none H G).m b' bO)⟩
     ·cases h
 ·rename_i b off len Gc
  cases Af:(Nat.beq i.size Gc&&Nat.ble (len+m) 1048576&&new.all AV.aN) with
  |false=>rw[Af] at h;cases h
  |true=>
   rw[Af] at h
   simp only[cond_true] at h
   simp only[jj,Nat.ble_eq] at Af
   obtain⟨⟨Nt,hsm⟩,akm⟩:=Af
   have Nt:=mU Nt
   subst Nt
   have hs0:=hs
   cases hs with|slice _ _ _ _ cap l ad iP BD hlen lU=>
   have awh:=Fp hx.hr akm
   -- a new row
   have aH5:∀ (L:List AV) (ck:CK),aa b H=some (.cells L ck)→cap<len+m→len*i.size≤(L.drop off).length→
     ∃ v w' μ' G',(Builtin.append_ #[t,u] ty #[.slice (some ad) len cap,xv]).run P w=.ok v w'∧aD ρ μ' (.slice nx 0 (len+m) i.size) v∧μ.le μ'∧
      aP P ρ w0 μ' G' nx.succ.toNat w'∧HSub (au nx (some (.cells ((bY (aO 9999) ((L.drop off).take (len*i.size)) H).1++new) .part)) (bY (aO 9999) ((L.drop off).take (len*i.size)) H).2) G'∧Kept H (au nx (some (.cells ((bY (aO 9999) ((L.drop off).take (len*i.size)) H).1++new) .part)) (bY (aO 9999) ((L.drop off).take (len*i.size)) H).2) nx nx.succ μ μ' G G':=by
    intro L ck hL Vg hle
    have hg:=hH _ _ hL
    obtain⟨l',arr,elem,fz,k1,k2,k3,k4,k5,k7⟩:=hM.cells hg
    rw[iP] at k1;cases k1
    have Cq:∀ d,(Builtin.firstCells i.size len (.slice (some ad) len cap)).run P {w with drawn:=d}=.ok ((arr.toList.drop (l.base+off)).take (len*i.size)).toArray {w with drawn:=d}:=by
     intro d
     simp only[Builtin.firstCells]
     by_cases h0:len=0
     ·subst h0;simp[loadCells,loadCellsFrom]
     ·have lU:ad=⟨l.c,l.base+off,none⟩:=lU.resolve_left (by omega)
      subst lU
      refine jI P {w with drawn:=d} l.c (l.base+off) arr elem fz k2 (len*i.size) ?_
      simp at hle
      have:0<len*i.size:=Nat.mul_pos (by omega) xR
      omega
    have tP:an ρ μ ((L.drop off).take (len*i.size)) ((arr.toList.drop (l.base+off)).take (len*i.size)):=by
     by_cases h0:len=0
     ·subst h0;simp;exact .nil
     ·have:0<len*i.size:=Nat.mul_pos (by omega) xR
      simp at hle
      exact ua k3 (by omega) (by omega)
    obtain⟨μ1,G1,f1,r1⟩:=mS (zp 9999) _ _ μ G H hM hH tP
    obtain⟨azS,Q8,dP⟩:=run_append_grow (P:=P) (w:=w) hT ty (base:=some ad) hx.hn Vg hsm hx.hc Cq
    have Pk:an ρ μ1 ((bY (aO 9999) ((L.drop off).take (len*i.size)) H).1++new) (((arr.toList.drop (l.base+off)).take (len*i.size)).toArray++us).toList:=by
     simpa using r1.append (hx.hr.mono f1.le)
    have aqx:(((arr.toList.drop (l.base+off)).take (len*i.size)).toArray++us).size=(len+m)*i.size:=by
     have:=Pk.length
     rw[zqf,zB,zqy,hx.hl] at this
     have e:min (len*i.size) (L.drop off).length=len*i.size:=by omega
     rw[e,← Nat.add_mul] at this
     simpa using this.symm
    obtain⟨μ',g1,g2,g3,g4⟩:=IQ f1.M hT Pk aqx Q8
    exact⟨_,_,μ',_,dP,g3,Mu.le_trans f1.le g1,g2,f1.hs.set nx _,f1.kept.trans (g4 _ _ _ _)⟩
   have aD6:∀ (L:List AV) (ck:CK),ck≠.part→aa b H=some (.cells L ck)→¬ (off+(len+m)*i.size≤L.length)→cap<len+m:=by
    intro L ck Fj hL hle
    obtain⟨l',arr,elem,fz,k1,k2,k3,k4,k5,k7,k8⟩:=hM.cells (hH _ _ hL)
    rw[iP] at k1;cases k1
    have k8:=k8 Fj
    rcases Dr cap (len+m) with h'|h'
    ·exact h'
    ·have:(len+m)*i.size≤cap*i.size:=Nat.mul_le_mul_right _ h'
     omega
   have ayF:∀ (L:List AV) (ck:CK),ck≠.part→aa b H=some (.cells L ck)→¬ (off+(len+m)*i.size≤L.length)→
     (vY (len*i.size) (td off L) (OR.bad 14) (fun old=>It (frz 9999) old H fun old h=>Pv old new (fun r=>sY nx (some (.cells r .part)) h fun h=>.val (.slice nx 0 (len+m) i.size) h nx.succ)))=.val a H' nx'→
     ∃ v w' μ' G',(Builtin.append_ #[t,u] ty #[.slice (some ad) len cap,xv]).run P w=.ok v w'∧aD ρ μ' a v∧μ.le μ'∧aP P ρ w0 μ' G' nx'.toNat w'∧HSub H' G'∧Kept H H' nx nx' μ μ' G G':=by
    intro L ck Fj hL hle h
    simp only[takeC_eq,dropL_eq,tL (BV 9999),appC_eq,sTCe] at h
    split at h
    ·rename_i Hs
     simp only[OR.val.injEq] at h
     obtain⟨rfl,rfl,rfl⟩:=h
     exact aH5 L ck hL (aD6 L ck Fj hL hle) Hs
    ·cases h
   split at h
   ·rename_i L hL
    cases hle:Nat.ble (off+(len+m)*i.size) (lenL L) with
    |true=>
     rw[hle] at h
     rw[lenL_eq,Nat.ble_eq] at hle
     simp only[cond_true] at h
     rw[putC_eq] at h
     split at h
     ·rename_i aH6
      rw[sTCe] at h
      simp only[OR.val.injEq] at h
      obtain⟨rfl,rfl,rfl⟩:=h
      have hg:=hH _ _ hL
      obtain⟨l',arr,elem,fz,k1,k2,k3,k4,k5,k7,k8⟩:=hM.cells hg
      rw[iP] at k1;cases k1
      have k8:=k8 (by simp)
      have hlm:len+m≤cap:=by
       have:(len+m)*i.size≤cap*i.size:=by omega
       exact Nat.le_of_mul_le_mul_right this xR
      obtain⟨w',e1,e2,e3⟩:=anp hM hg (by simp) iP hx.hr awh (off:=off+len*i.size) aH6
      have dL:(storeCells (ad.add (len*i.size)) us.toList).run P w=.ok () w':=by
       rcases lU with h0|h0
       ·have LW:m=0:=by omega
        subst LW
        have:us=#[]:=by apply Array.eq_empty_of_size_eq_zero;simpa using KX
        subst this
        exact e1
       ·subst h0;rw[nH,Nat.add_assoc];exact e1
      refine⟨.slice (some ad) (len+m) cap,w',_,_,?_,.slice b off _ _ cap l ad (Mu.dG _ _ _) BD hlm lU,e2,e3,hH.set b _,mV hL iP _ _⟩
      rw[gX hT ty (base:=some ad) hx.hn hlm hx.now]
      simp only[dL,jH]
     ·cases h
    |false=>
     rw[hle] at h
     have hle:¬ (off+(len+m)*i.size≤L.length):=by rw[← Nat.ble_eq,← lenL_eq,hle];simp
     exact ayF L .fix (by simp) hL hle h
   ·rename_i L hL
    cases hle:Nat.ble (off+(len+m)*i.size) (lenL L) with
    |true=>rw[hle] at h;cases h
    |false=>
     rw[hle] at h
     have hle:¬ (off+(len+m)*i.size≤L.length):=by rw[← Nat.ble_eq,← lenL_eq,hle];simp
     exact ayF L .ro (by simp) hL hle h
   ·-- a row of more cells aQS are known
    rename_i L hL
    have hg:=hH _ _ hL
    obtain⟨l',arr,elem,fz,k1,k2,k3,k4,k5,k7,k8⟩:=hM.cells hg
    rw[iP] at k1;cases k1
    have k7:=k7 (by simp)
    subst k7
    cases LW:Nat.beq m 0 with
    |true=>
     rw[LW] at h
     simp only[cond_true,OR.val.injEq] at h
     obtain⟨rfl,rfl,rfl⟩:=h
     have hm:=mU LW
     subst hm
     have hus:us=#[]:=by apply Array.eq_empty_of_size_eq_zero;simpa using KX
     subst hus
     refine⟨.slice (some ad) len cap,w,μ,G,?_,hs0,μ.le_refl,hM,hH,Kept.refl _ _ _ _⟩
     rw[gX hT ty (base:=some ad) (sLen:=len) (sCap:=cap) hx.hn (by omega) hx.now]
     simp[storeCells]
    |false=>
     rw[LW] at h
     simp only[cond_false] at h
     have aD1:m≠0:=by intro e;subst e;cases LW
     cases hc1:((Nat.beq off 0 || !Cd i.size)&&Nat.beq (off+len*i.size) (lenL L)) with
     |false=>rw[hc1] at h;cases h
     |true=>
      rw[hc1] at h
      simp only[cond_true] at h
      simp only[jj] at hc1
      have Q9:=hc1.1
      have hLl:=mU hc1.2
      rw[lenL_eq] at hLl
      have hM1:aP P ρ w0 μ (mz G b none) nx.toNat w:=hM.sub (fun b' B' e'=>by
       by_cases hb:b'=b
       ·subst hb;rw[fR] at e';cases e'
       ·rw[cj _ _ hb] at e';exact e')
      have ne:∀ b',aa b' H=none→b'≠b:=fun b' h0 e0=>by rw[e0,hL] at h0;cases h0
      have Nu:∀ (μ':Mu) x y,(∀ b':Key,b'.toNat<nx.toNat→μ' b'=μ b')→Kept H (au nx y (au b none H)) nx nx.succ μ μ' G (mz (mz G b none) nx x):=by
       intro μ' x y iP
       exact⟨fun b' fL bO=>by rw[cj _ _ (ne_of_lt bO),cj _ _ (ne b' fL)],iP,
        fun b' fL bO=>by rw[bG _ _ _ _ (ne_of_lt bO),bG _ _ _ _ (ne b' fL)];exact fL,by omega⟩
      have ayG:an ρ μ (L.drop off) ((arr.toList.drop (l.base+off)).take (len*i.size)):=by
       have:=ua k3 (off:=off) (n:=len*i.size) (by omega) (by omega)
       rw[Pu (by simp;omega)] at this
       exact this
      have Q7:an ρ μ (L.drop off++new) ((arr.toList.drop (l.base+off)).take (len*i.size)++us.toList):=ayG.append hx.hr
      have hvl:=ayG.length
      rw[List.length_drop] at hvl
      by_cases hlm:len+m≤cap
      ·-- in place, behind sZ end
       have lU:ad=⟨l.c,l.base+off,none⟩:=lU.resolve_left (by omega)
       subst lU
       have hmul:(len+m)*i.size≤cap*i.size:=Nat.mul_le_mul_right _ hlm
       have Ca:(len+m)*i.size=len*i.size+m*i.size:=Nat.add_mul _ _ _
       obtain⟨w',e1,e2,e3,e4⟩:=nG P l.c (l.base+off+len*i.size) elem us.toList 0 w arr k2 (by simp[KX];omega) awh
       have oU:w0.heap.size≤l.c:=(hM.own b _ _ hg iP).resolve_left (by simp[ag.ro])
       have ayH:∀ j,μ.fz l.c j=none:=hM.lo0 hg iP rfl
       cases hkw:Cd i.size with
       |true=>
        rw[hkw] at h Q9
        simp only[Bool.not_true,Bool.or_false] at Q9
        have azT:=mU Q9
        subst azT
        simp only[Nat.add_zero,Nat.zero_add,List.drop_zero] at *
        simp only[cond_true,appC_eq,sTCe,OR.val.injEq] at h
        obtain⟨rfl,rfl,rfl⟩:=h
        have DF:μ.le (μ.put nx l):=Mu.uw (.inl hM.nE)
        have aQT:L.length=len*i.size:=hLl.symm
        have hB:DK P ρ (μ.put nx l) (.cells (L++new) .part) l (.cells (kr arr (l.base+len*i.size) us.toList) elem (0,0)):=by
         refine .cells _ .part _ _ elem (0,0) ?_ (by rw[me];omega) (by rw[zqf,hx.hl];omega) (fun _=>rfl) (fun h=>absurd rfl h)
         intro j a ha
         obtain⟨v,hv,hr⟩:=Q7.get j a ha
         refine⟨v,?_,hr.mono DF⟩
         have bz:j<len*i.size+us.size:=by
          rcases Dr j (len*i.size+us.size) with h'|h'
          ·exact h'
          ·rw[zqo (by simp;omega)] at hv;cases hv
         rw[iR _ _ _ _ (by simp[KX];omega)]
         by_cases hj1:j<len*i.size
         ·rw[if_neg (by omega)]
          rw[List.getElem?_append_left (by omega),List.getElem?_take_of_lt hj1,List.getElem?_drop] at hv
          simpa using hv
         ·rw[if_pos (by simp;omega)]
          rw[List.getElem?_append_right (by omega)] at hv
          rw[← hv];congr 1;omega
        obtain⟨g1,g2⟩:=hM1.put (w':=w') nx (.cells (L++new) .part) l _ (.inl hM.nE) e2 e4 hB
         (fun b' B' l' gg mm _=>by
          by_cases mB:b'=b
          ·subst mB;rw[fR] at gg;cases gg
          ·rw[cj _ _ mB] at gg
           exact hM.sep b' b B' _ l' _ gg hg mm iP mB) oU (nx':=nx.succ.toNat) (by omega) (by omega) ayH
        refine⟨.slice (some ⟨l.c,l.base,none⟩) (len+m) cap,w',_,_,?_,?_,g1,g2,(hH.set b none).set nx _,Nu _ _ _ (fun b' bO=>Mu.pI _ _ (ne_of_lt bO))⟩
        ·rw[gX hT ty (base:=some ⟨l.c,l.base,none⟩) hx.hn hlm hx.now]
         simp only[nH,e1,jH]
        ·exact .slice nx 0 _ _ cap l _ (Mu.dG _ _ _) (by simpa using BD) hlm (.inr rfl)
       |false=>
        rw[hkw] at h
        simp only[cond_false,appC_eq,dropL_eq,sTCe,OR.val.injEq] at h
        obtain⟨rfl,rfl,rfl⟩:=h
        have aD5:(cap-(len+m))*i.size=cap*i.size-(len+m)*i.size:=Nat.mul_sub_right_distrib _ _ _
        obtain⟨g1,g2,g3⟩:=hM1.mark (w':=w') nx l.c ((l.base+off)+(len+m)*i.size) ((cap-(len+m))*i.size) hM.nE e2 e4 (by rw[me];omega)
         (fun b' B' l' gg mm=>by
          by_cases mB:b'=b
          ·subst mB;rw[fR] at gg;cases gg
          ·rw[cj _ _ mB] at gg
           exact hM.sep b' b B' _ l' _ gg hg mm iP mB)
         (fun j v hj=>by rw[ayH j] at hj;cases hj) oU (n':=nx.succ.toNat) (by omega) (by omega)
        refine⟨.slice (some ⟨l.c,l.base+off,none⟩) (len+m) cap,w',_,_,?_,?_,g1,g2,(hH.set b none).set nx _,Nu _ _ _ (fun b' bO=>Mu.kS _ _ _ _ _ (ne_of_lt bO))⟩
        ·rw[gX hT ty (base:=some ⟨l.c,l.base+off,none⟩) hx.hn hlm hx.now]
         simp only[nH,e1,jH]
        ·refine .sl _ _ _ _ cap l.c (l.base+off) _ ((arr.toList.drop (l.base+off)).take (len*i.size)++us.toList) (Q7.mono g1) ?_ hlm (.inr rfl) ?_ ?_
         ·rw[zqf,List.length_drop,← hLl,hx.hl,Ca];omega
         ·intro j v hj
          have bz:j<len*i.size+us.size:=by
           rcases Dr j (len*i.size+us.size) with h'|h'
           ·exact h'
           ·rw[zqo (by simp;omega)] at hj;cases hj
          refine g3 _ _ (by omega) ?_
          rw[iR _ _ _ _ (by simp[KX];omega)]
          by_cases hj1:j<len*i.size
          ·rw[if_neg (by omega)]
           rw[List.getElem?_append_left (by omega),List.getElem?_take_of_lt hj1,List.getElem?_drop] at hj
           simpa using hj
          ·rw[if_pos (by simp;omega)]
           rw[List.getElem?_append_right (by omega)] at hj
           rw[← hj];congr 1;omega
         ·exact Mu.jK _ _ _ _ _ _
      ·-- a new row
       have Cq:∀ d,(Builtin.firstCells i.size len (.slice (some ad) len cap)).run P {w with drawn:=d}=.ok ((arr.toList.drop (l.base+off)).take (len*i.size)).toArray {w with drawn:=d}:=by
        intro d
        simp only[Builtin.firstCells]
        by_cases h0:len=0
        ·subst h0;simp[loadCells,loadCellsFrom]
        ·have lU:ad=⟨l.c,l.base+off,none⟩:=lU.resolve_left (by omega)
         subst lU
         refine jI P {w with drawn:=d} l.c (l.base+off) arr elem (0,0) k2 (len*i.size) ?_
         omega
       obtain⟨azS,Q8,dP⟩:=run_append_grow (P:=P) (w:=w) hT ty (base:=some ad) hx.hn (by omega) hsm hx.hc Cq
       have Pk:an ρ μ (L.drop off++new) (((arr.toList.drop (l.base+off)).take (len*i.size)).toArray++us).toList:=by simpa using Q7
       have aqx:(((arr.toList.drop (l.base+off)).take (len*i.size)).toArray++us).size=(len+m)*i.size:=by
        rw[Array.size_append,KX,Nat.add_mul];simp at hvl ⊢;omega
       cases hkw:Cd i.size with
       |true=>
        rw[hkw] at h Q9
        simp only[Bool.not_true,Bool.or_false] at Q9
        have azT:=mU Q9
        subst azT
        rw[List.drop_zero] at Pk
        simp only[cond_true,appC_eq,sTCe,OR.val.injEq] at h
        obtain⟨rfl,rfl,rfl⟩:=h
        obtain⟨μ',g1,g2,g3,g4⟩:=IQ hM1 hT Pk aqx Q8
        exact⟨_,_,_,_,dP,g3,g1,g2,(hH.set b none).set nx _,Nu _ _ _ (fun b' bO=>(g4 none none H G).m b' bO)⟩
       |false=>
        rw[hkw] at h
        simp only[cond_false,appC_eq,dropL_eq,sTCe,OR.val.injEq] at h
        obtain⟨rfl,rfl,rfl⟩:=h
        obtain⟨μ',g1,g2,g3,g4⟩:=Vh hM1 hT Pk aqx Q8
        refine⟨_,_,_,_,dP,g3,g1,g2,(hH.set b none).set nx _,Nu _ _ _ (fun b' bO=>(g4 none none H G).m b' bO)⟩
   ·cases h
 ·cases h
end
end Go.Sx
/-
 SX: maps whose keys have several cells, entries that are deleted, ranges over maps, a string's bytes. No condition.
-/
namespace Go.Sx
open Go.RowKit
section
variable{P:Program}{ρ:Nat→Int}{w0:W0}{w:World}{μ:Mu}{G:Key→Option ag}{nx:Key}{orc:hU}{nt:Nat}{tm:T AV}{H:T ag}{ev:Operand→Value}
def wH(em:Bool)(d:Nat)(xs:Array Value):List Field→Sem Unit
 | []=>pure ()
 | f :: fs => if f.name ≠ "_" then do
   let a ← part f.type xs f.offset
   Instr.checkKey em d f.type a
   wH em d xs fs
  else wH em d xs fs
theorem tJ(em:Bool)(d:Nat){t:TypeId}{fs:Array Field}(hu:P.underlying t=some (.struct fs))(xs:Array Value) :
  (Instr.checkKey em (d+1) t (.agg xs)).run P w=(wH em d xs fs.toList).run P w:=by
 simp only[Instr.checkKey,mA,ah hu,jH]
 rw[← Array.forIn_toList]
 generalize fs.toList=l
 clear hu
 induction l generalizing w with
 |nil=>simp[wH]
 |cons f l ih=>
  simp only[List.forIn_cons,wH,mA,Sem.run_ite]
  split
  ·generalize (part f.type xs f.offset).run P w=r1
   cases r1 with
   |ok a w1=>
    simp only[jH]
    generalize (Instr.checkKey em d f.type a).run P w1=r2
    cases r2 with
    |ok b w2=>simp only[jH,ra];exact ih
    |halt x w2=>simp[Result.andThen]
   |halt x w1=>simp[Result.andThen]
  ·simp only[ra,jH]
   exact ih
def DD(em:Bool)(d:Nat)(e:TypeId)(c:Nat)(xs:Array Value):List Nat→Sem Unit
 | []=>pure ()
 |i ::is=>do
  let a ← part e xs (i*c)
  Instr.checkKey em d e a
  DD em d e c xs is
theorem FW(em:Bool)(d:Nat){t e:TypeId}{n:Nat}{i:TypeInfo}(hu:P.underlying t=some (.array n e))(hi:P.info? e=some i)(xs:Array Value) :
  (Instr.checkKey em (d+1) t (.agg xs)).run P w=(DD em d e i.size xs (List.range n)).run P w:=by
 simp only[Instr.checkKey,mA,ah hu,jH]
 simp only[Std.Legacy.Range.forIn_eq_forIn_range',Std.Legacy.Range.size,Nat.sub_zero,Nat.add_one_sub_one,Nat.div_one,List.range_eq_range']
 generalize List.range' 0 n=is
 induction is generalizing w with
 |nil=>simp[DD]
 |cons j is ih=>
  simp only[List.forIn_cons,DD,mA,aT hi,jH]
  generalize (part e xs (j*i.size)).run P w=r1
  cases r1 with
  |ok a w1=>
   simp only[jH]
   generalize (Instr.checkKey em d e a).run P w1=r2
   cases r2 with
   |ok b w2=>simp only[jH,ra];exact ih
   |halt x w2=>simp[Result.andThen]
  |halt x w1=>simp[Result.andThen]
theorem OG{a:List AV}:∀ {l:List (Nat×tK)},Q3 a l=true→∀ x∈l,∃ u,a[x.1]?=some u
 | [],_,x,hx=>by cases hx
 |(o,p) ::l,h,x,hx=>by
  simp only[Q3,nth_eq] at h
  split at h
  ·rename_i u hu
   rcases Ga.1 hx with rfl|hx
   ·exact⟨u,hu⟩
   ·exact OG h x hx
  ·cases h
theorem FX(em:Bool){xs:Array Value}(d:Nat):∀ (n:Nat) (fs:List Field) (l:List (Nat×tK)),eqFields P n fs=some l→(∀ x∈l,∃ v,xs[x.1]?=some v)→(wH em (d+1) xs fs).run P w=.ok () w
 |n,[],l,_,_=>rfl
 |0,f ::fs,l,hf,_=>by simp[eqFields] at hf
 |n+1,f ::fs,l,hf,hp=>by
  simp only[eqFields] at hf
  cases hn : (f.name == "_") with
  |true=>rw[hn] at hf;cases hf
  |false=>
   rw[hn] at hf
   simp only[cond_false] at hf
   have bU : f.name ≠ "_" := by simpa using hn
   have key:∀ (q:tK) (l':List (Nat×tK)) (d':TypeDesc),P.underlying f.type=some d'→(d'=.bool∨(∃ k,d'=.int k)∨d'=.string)→eqFields P n fs=some l'→l=(f.offset,q) ::l'→(wH em (d+1) xs (f ::fs)).run P w=.ok () w:=by
    intro q l' d' DY hk Vl hl
    subst hl
    obtain⟨v,hv⟩:=hp (f.offset,q) (by simp)
    have aB6:Mj d'=false:=by rcases hk with rfl|⟨k,rfl⟩|rfl<;>rfl
    have ap6:(part f.type xs f.offset).run P w=.ok v w:=by
     have hv:xs[f.offset]?=some v:=hv
     simp[part,pD DY,aB6,hv]
    have Fj:(Instr.checkKey em (d+1) f.type v).run P w=.ok () w:=by
     rcases hk with rfl|⟨k,rfl⟩|rfl<;>simp[Instr.checkKey,ah DY]
    simp only[wH,ne_eq,bU,not_false_eq_true,if_true,mA,ap6,jH,Fj]
    exact FX em d n fs l' Vl fun x hx=>hp x (by simp[hx])
   split at hf
   ·rename_i h1 h2
    simp only[cT] at hf
    have mD:P.underlying f.type=some .bool:=nS h1
    exact key _ _ _ mD (.inl rfl) h2 hf.symm
   ·rename_i h1 h2
    simp only[cT] at hf
    obtain⟨k,mD⟩:=nS h1
    exact key _ _ _ mD (.inr (.inl ⟨k,rfl⟩)) h2 hf.symm
   ·rename_i h1 h2
    simp only[cT] at hf
    have mD:P.underlying f.type=some .string:=nS h1
    exact key _ _ _ mD (.inr (.inr rfl)) h2 hf.symm
   ·cases hf
theorem OH{l:List (Nat×tK)}{sz:Nat}:∀ (n off:Nat) (x:Nat×tK),x∈l→∀ i,i<n→(off+i*sz+x.1,x.2)∈BI l sz n off
 |0,_,_,_,i,hi=>absurd hi (Nat.not_lt_zero _)
 |n+1,off,x,hx,i,hi=>by
  simp only[BI,List.mem_append]
  cases i with
  |zero=>exact .inl (Fa.2 ⟨x,hx,by simp⟩)
  |succ i=>
   right
   have:=OH (sz:=sz) n (off+sz) x hx i (by omega)
   have e:off+sz+i*sz=off+(i+1)*sz:=by rw[Nat.add_mul,Nat.one_mul];omega
   rwa [e] at this
theorem OI(em:Bool){e:TypeId}{i:TypeInfo}{fs:Array Field}{n:Nat}{l:List (Nat×tK)}(hi:P.info? e=some i)(hu:P.underlying e=some (.struct fs))(hf:eqFields P n fs.toList=some l)(bO:∀ x∈l,x.1<i.size){xs:Array Value}(d:Nat) :
  ∀ (is:List Nat),(∀ j∈is,∀ x∈l,∃ v,xs[j*i.size+x.1]?=some v)→(DD em (d+2) e i.size xs is).run P w=.ok () w
 | [],_=>rfl
 |j ::is,h=>by
  simp only[DD,mA,Kv hi hu,jH]
  rw[show d+2=d+1+1 from rfl,tJ em (d+1) hu,FX em d n fs.toList l hf]
  ·simp only[jH]
   exact OI em hi hu hf bO d is fun k hk=>h k (by simp[hk])
  ·intro x hx
   obtain⟨v,hv⟩:=h j (by simp) x hx
   refine⟨v,?_⟩
   have:=bO x hx
   have h2:j*i.size+x.1<xs.size:=by
    rcases Dr (j*i.size+x.1) xs.size with h'|h'
    ·exact h'
    ·rw[Uv h'] at hv;cases hv
   rw[Array.getElem?_extract_of_lt (by omega),← hv,Array.getElem?_eq_getElem h2]
theorem EX(em:Bool){t:TypeId}{l:List (Nat×tK)}(hp:wY P t (.parts l)){A:List AV}{xs:Array Value}(hx:an ρ μ A xs.toList)(x4:Q3 A l=true)(d:Nat) :
  (Instr.checkKey em (d+3) t (.agg xs)).run P w=.ok () w:=by
 have nv:∀ x∈l,∃ v,xs[x.1]?=some v:=by
  intro x Pf
  obtain⟨u,hu⟩:=OG x4 x Pf
  obtain⟨v,hv,_⟩:=hx.get _ _ hu
  exact⟨v,by simpa using hv⟩
 rcases hp with⟨fs,n,hu,dL,hf⟩|⟨len,e,i,fs,n,l',hu,hi,hue,dL,hf,bO,rfl⟩
 ·rw[show d+3=d+2+1 from rfl,tJ em (d+2) hu]
  exact FX em (d+1) n fs.toList l hf nv
 ·rw[show d+3=d+2+1 from rfl,FW em (d+2) hu hi]
  refine OI em hi hue hf bO d _ fun j hj x Pf=>?_
  have:=OH (sz:=i.size) len 0 x Pf j (by simpa using hj)
  simpa using nv _ this
theorem aD.flat{a:AV}{x y:Value}(h:ig a=true)(hx:aD ρ μ a x)(hy:aD ρ μ a y):x=y:=by
 cases hx<;>first|(cases h;done)|skip
 ·cases hy;rfl
 ·rename_i k s n e
  cases hy with|int _ _ n' e'=>rw[← e,← e']
 ·rename_i n c s e e'
  cases hy with|str _ _ s' f f'=>
  subst e e'
  have:(Nat.beq s.data.toList.length s'.data.toList.length&&Nat.beq (enc s.data.toList) (enc s'.data.toList))=true:=by
   rw[f,f'];simp
  rw[L6] at this
  have:=eq_of_beq this
  congr 1
  apply ByteArray.ext
  exact Array.ext' this
theorem an.flat:∀ {l:List AV} {xs ys:List Value},Cc l=true→an ρ μ l xs→an ρ μ l ys→xs=ys
 | [],_,_,_,hx,hy=>by cases hx;cases hy;rfl
 |a ::l,_,_,h,hx,hy=>by
  simp only[Cc,jj] at h
  cases hx with|cons _ _ v vs h1 h2=>cases hy with|cons _ _ u us k1 k2=>
  rw[aD.flat h.1 h1 k1,an.flat h.2 h2 k2]
theorem arx{a:AV}{x:Value}(h:ig a=true)(hx:aD ρ μ a x)(n:Nat):Instr.sameBits n x x=true:=by
 cases hx<;>first|(cases h;done)|skip
 ·cases n<;>simp[Instr.sameBits]
 ·cases n<;>simp[Instr.sameBits]
 ·cases n<;>simp[Instr.sameBits,beq_toListBytes]
theorem OJ:∀ {l:List AV} {xs:List Value},Cc l=true→an ρ μ l xs→∀ (n:Nat),((xs.zip xs).all fun(x,y)=>Instr.sameBits n x y)=true
 | [],_,_,hx,n=>by cases hx;rfl
 |a ::l,_,h,hx,n=>by
  simp only[Cc,jj] at h
  cases hx with|cons _ _ v vs h1 h2=>
  simp only[List.zip_cons_cons,List.all_cons,jj]
  exact⟨arx h.1 h1 n,OJ h.2 h2 n⟩
theorem au5{l:List AV}{xs:Array Value}(h:Cc l=true)(hx:an ρ μ l xs.toList):Instr.sameBits 10000 (.agg xs) (.agg xs)=true:=by
 simp only[Instr.sameBits,beq_self_eq_true,Bool.true_and]
 exact OJ h hx 9999
theorem OK{p:tK}{k:AV}(h:Q4 p k=true):∃ l A,p=.parts l∧k=.agg A∧Cc A=true∧Q3 A l=true:=by
 cases p<;>first|(simp[Q4] at h;done)|skip
 cases k<;>first|(simp[Q4] at h;done)|skip
 simp only[Q4,jj] at h
 exact⟨_,_,rfl,rfl,h.1,h.2⟩
theorem Ab(ho:dq ρ orc){kt:TypeId}{l:List (Nat×tK)}(hp:wY P kt (.parts l)){A:List AV}(HN:Cc A=true){a:AV}{x y:Value}(hx:aD ρ μ (.agg A) x)(hy:aD ρ μ a y){b:Bool}
  (hb:av7 orc (.parts l) (.agg A) a=some b):(Op.equal kt x y).run P w=.ok b w∧(b=true→x=y):=by
 have hq:hZ orc (.parts l) (.agg A) a=some b∧(b=true→AV.beq (.agg A) a=true):=by
  unfold av7 at hb
  split at hb
  ·rename_i h1
   cases hc:AV.beq (.agg A) a with
   |false=>rw[hc] at hb;cases hb
   |true=>rw[hc] at hb;simp only[cond_true,cT] at hb;subst hb;exact⟨h1,fun _=>rfl⟩
  ·rename_i h1
   refine⟨hb,fun e=>?_⟩
   subst e
   exact absurd hb h1
 obtain⟨h1,h2⟩:=hq
 cases a<;>first|(simp[hZ] at h1;done)|skip
 rename_i B
 cases hx with|agg _ xs hx=>cases hy with|agg _ ys hy=>
 simp only[hZ] at h1
 refine⟨J9 ho hp hx hy h1 9997,fun e=>?_⟩
 have:=AV.eq_of_beq _ _ (h2 e)
 cases this
 have:=an.flat HN hx hy
 rw[Array.ext' this]
theorem OL{b:Bool}{x:OR}{m:Nat}{a:AV}{H':T ag}{nx':Key}(h:(bif b then x else .bad m)=.val a H' nx'):b=true∧x=.val a H' nx':=by
 cases b with
 |true=>exact⟨rfl,h⟩
 |false=>cases h
theorem Kz(ho:dq ρ orc){kt:TypeId}{pl:List (Nat×tK)}(hp:wY P kt (.parts pl)){A:List AV}(HN:Cc A=true){u:AV}{x v:Value}(hx:aD ρ μ (.agg A) x)(hv:aD ρ μ u v) :
  ∀ {l r:List (AV×AV)} {es:List MapEntry} (i:Nat),lL ρ μ l es→U7 orc (.parts pl) (.agg A) u l=some r→
   ((Instr.findAsking kt x es i).run P w=.ok none w∧∀ b,lL ρ μ r (es ++ [⟨x,v,b⟩]))∨
   (∃ j e,(Instr.findAsking kt x es i).run P w=.ok (some (i+j,e.val)) w∧es[j]?=some e∧e.key=x∧lL ρ μ r (es.set j {e with key:=x,val:=v}))
 | [],r,[],i,HL,h=>by
  simp only[U7,cT] at h;subst h
  exact .inl ⟨rfl,fun b=>⟨hx,hv,trivial⟩⟩
 | [],_,_ ::_,i,HL,h=>HL.elim
 |(_,_) ::_,_,[],i,HL,h=>HL.elim
 |(a,c) ::l,r,e ::es,i,HL,h=>by
  obtain⟨h1,h2,h3⟩:=HL
  simp only[U7] at h
  split at h
  ·rename_i hk
   cases h
   obtain⟨q1,q2⟩:=Ab (w:=w) ho hp HN hx h1 hk
   exact .inr ⟨0,e,by simp[Instr.findAsking,q1],by simp,(q2 rfl).symm,⟨hx,hv,h3⟩⟩
  ·rename_i hk
   obtain⟨q1,q2⟩:=Ab (w:=w) ho hp HN hx h1 hk
   split at h
   ·rename_i r' hr'
    cases h
    rcases Kz ho hp HN hx hv (i+1) h3 hr' with⟨f,g⟩|⟨j,e',f,g1,g2,g3⟩
    ·exact .inl ⟨by simp[Instr.findAsking,q1,f],fun b=>⟨h1,h2,g b⟩⟩
    ·refine .inr ⟨j+1,e',?_,by simpa using g1,g2,?_⟩
     ·simp[Instr.findAsking,q1,f];omega
     ·simp only[List.set_cons_succ];exact⟨h1,h2,g3⟩
   ·cases h
  ·cases h
theorem KA(ho:dq ρ orc){kt:TypeId}{pl:List (Nat×tK)}(hp:wY P kt (.parts pl)){A:List AV}(HN:Cc A=true){x:Value}(hx:aD ρ μ (.agg A) x) :
  ∀ {l r:List (Nat×AV×AV)} {es:List MapEntry} (i:Nat),gV ρ μ l es→U8 orc (.parts pl) (.agg A) l=some r→
   ((Instr.findAsking kt x es i).run P w=.ok none w∧gV ρ μ r es)∨
   (∃ j e,(Instr.findAsking kt x es i).run P w=.ok (some (i+j,e)) w∧j<es.length∧gV ρ μ r (es.eraseIdx j))
 | [],r,[],i,HL,h=>by
  simp only[U8,cT] at h;subst h
  exact .inl ⟨rfl,trivial⟩
 | [],_,_ ::_,i,HL,h=>HL.elim
 |(_,_,_) ::_,_,[],i,HL,h=>HL.elim
 |(s,a,c) ::l,r,e ::es,i,HL,h=>by
  obtain⟨h0,h1,h2,h3⟩:=HL
  simp only[U8] at h
  split at h
  ·rename_i hk
   cases h
   obtain⟨q1,q2⟩:=Ab (w:=w) ho hp HN hx h1 hk
   exact .inr ⟨0,e.val,by simp[Instr.findAsking,q1],by simp,by simpa using h3⟩
  ·rename_i hk
   obtain⟨q1,q2⟩:=Ab (w:=w) ho hp HN hx h1 hk
   split at h
   ·rename_i r' hr'
    cases h
    rcases KA ho hp HN hx (i+1) h3 hr' with⟨f,g⟩|⟨j,e',f,g1,g2⟩
    ·exact .inl ⟨by simp[Instr.findAsking,q1,f],⟨h0,h1,h2,g⟩⟩
    ·refine .inr ⟨j+1,e',?_,by simpa using g1,?_⟩
     ·simp[Instr.findAsking,q1,f];omega
     ·simp only[List.eraseIdx_cons_succ];exact⟨h0,h1,h2,g2⟩
   ·cases h
  ·cases h
theorem tW{kt:TypeId}(hk:L3 P kt)(x:Value)(es:List MapEntry):(Instr.findKey kt x es).run P w=(Instr.findAsking kt x es).run P w:=by
 have key:∀ (kd:TypeDesc),P.underlying kt=some kd→(∀ a b,Instr.sameNow kd a b=none)→(Instr.findKey kt x es).run P w=(Instr.findAsking kt x es).run P w:=by
  intro kd hu hs
  simp only[Instr.findKey,mA,ah hu,jH]
  cases es with
  |nil=>rfl
  |cons e es=>simp[Instr.findNow,hs]
 rcases hk with⟨fs,hu⟩|⟨n,e,hu⟩
 ·exact key _ hu (by intro a b;cases a<;>cases b<;>rfl)
 ·exact key _ hu (by intro a b;cases a<;>cases b<;>rfl)
theorem ajs{kt:TypeId}{p:tK}(hk:L3 P kt)(hp:QF P 100 kt=some p):wY P kt p:=nS hp
theorem zu(hM:aP P ρ w0 μ G nx.toNat w)(hH:HSub H G){b:Key}{L:List (Nat×AV×AV)}{c:Nat}(h:stamped b H=some (L,c)) :
  ∃ B l es,aa b H=some B∧μ b=some l∧w.heap[l.c]?=some (.map es c)∧gV ρ μ L es.toList∧w0.heap.size≤l.c∧B.lo l=some 0:=by
 unfold stamped at h
 split at h
 ·rename_i L' hL
  simp only[cT,Prod.mk.injEq] at h
  obtain⟨rfl,rfl⟩:=h
  have hg:=hH _ _ hL
  obtain⟨l,o,h1,h2,h3⟩:=hM.oR b _ hg
  cases h3 with|map _ _ es clock dM CM Tq=>
  subst Tq
  rw[lenL_eq]
  exact⟨_,l,es,hL,h1,h2,dM.stamps 0 (by simpa using CM),(hM.own b _ l hg h1).resolve_left (by simp[ag.ro]),rfl⟩
 ·rename_i L' c' hL
  simp only[cT,Prod.mk.injEq] at h
  obtain⟨rfl,rfl⟩:=h
  have hg:=hH _ _ hL
  obtain⟨l,o,h1,h2,h3⟩:=hM.oR b _ hg
  cases h3 with|mapD _ _ es clock dM=>
  exact⟨_,l,es,hL,h1,h2,dM,(hM.own b _ l hg h1).resolve_left (by simp[ag.ro]),rfl⟩
 ·cases h
theorem Qo(hM:aP P ρ w0 μ G nx.toNat w)(hH:HSub H G)(ho:dq ρ orc){o:Oper}{p:tK}{pm pk pv:PX}(hp:gP P nt o=some (.mapupdP p pm pk pv))(hE:tM P ρ μ nt o.op.operands.toList tm ev)
  {a:AV} {H':T ag} {nx':Key} (h:aOp orc (.mapupdP p pm pk pv) tm H nx=.val a H' nx'):BF P ρ w0 μ G H nx w (Go.execOp ev o) a H' nx':=by
 obtain⟨dst,tZ,ty,pos,after,guard⟩:=o
 obtain⟨t,m,k,v,kt,e,e0,hu,amS,rK,hm,hk,hv⟩:=eN hp
 simp only at e0
 have hex:Go.execOp ev ⟨dst,tZ,ty,pos,after,guard⟩=(do Instr.mapUpdate t (ev m) (ev k) (ev v);pure .skip):=by
  rcases e0 with e0|e0<;>subst e0<;>rfl
 have ej:m∈tZ.operands.toList∧k∈tZ.operands.toList∧v∈tZ.operands.toList:=by
  rcases e0 with e0|e0<;>subst e0<;>simp[Op.operands]
 simp only[aOp] at h
 split at h
 ·rename_i b ka va hb hka hva
  split at h
  ·rename_i L hL
   replace h:=OL h
   obtain⟨x4,h⟩:=h
   obtain⟨pl,A,rfl,rfl,HN,aCg⟩:=OK x4
   split at h
   ·rename_i L' hL'
    rw[sTCe] at h
    simp only[OR.val.injEq] at h
    obtain⟨rfl,rfl,rfl⟩:=h
    have ajt:=ajs amS rK
    have hrm:=hE m ej.1 pm _ hm hb
    have hrk:=hE k ej.2.1 pk _ hk hka
    have hrv:=hE v ej.2.2 pv _ hv hva
    generalize Pg:ev m=mm at hrm
    cases hrm with|map _ l r iP hr=>
    subst hr
    generalize rq:ev k=kk at hrk
    have aCh:=hrk
    cases hrk with|agg _ xs hxs=>
    have hg:=hH _ _ hL
    obtain⟨l',o',h1,h2,h3⟩:=hM.oR b _ hg
    rw[iP] at h1;cases h1
    cases h3 with|map _ _ es clock dM CM Tq=>
    have nv:(getObj l.c).run P w=.ok (.map es clock) w:=by simp[getObj,Sem.run,h2]
    have Kr:∀ o2,(setObj l.c o2).run P w=.ok () {w with heap:=w.heap.setIfInBounds l.c o2}:=by
     intro o2;simp[setObj,Sem.run,h2]
    have Im:l.c<w.heap.size:=hM.wR b l iP
    have oU:w0.heap.size≤l.c:=(hM.own b _ l hg iP).resolve_left (by simp[ag.ro])
    have DF:μ.le (μ.put b l):=Mu.uw (.inr iP)
    have Fj:(Instr.checkKey false 10000 kt (.agg xs)).run P w=.ok () w:=EX false ajt hxs aCg 9997
    have fin:∀ (T3:Array MapEntry) (vm:Nat),lL ρ μ L' T3.toList→(∀ (i:Nat) (e:MapEntry),T3.toList[i]?=some e→e.born=i)→vm=L'.length→(Instr.mapUpdate t (ev m) (ev k) (ev v)).run P w=.ok () {w with heap:=w.heap.setIfInBounds l.c (.map T3 vm)}→
      BF P ρ w0 μ G H nx w (Go.execOp ev ⟨dst,tZ,ty,pos,after,guard⟩) (.tuple []) (au b (some (.map L')) H) nx:=by
     intro T3 vm HL fL Hr dP
     obtain⟨g1,g2⟩:=hM.put (w':={w with heap:=w.heap.setIfInBounds l.c (.map T3 vm)}) b (.map L') l (.map T3 vm) (.inr iP)
      ⟨rfl,rfl,rfl,by simp,fun j hj _=>by show(w.heap.setIfInBounds l.c _)[j]?=_;rw[zqn (Ne.symm hj)],fh _⟩
      (by show(w.heap.setIfInBounds l.c _)[l.c]?=_;simp[Im]) (.map _ _ _ _ (HL.mono DF) fL Hr) (fun b' B' l' g m' ne=>hM.sep b' b B' _ l' l g hg m' iP ne) oU (fh _) (hM.new b l iP) (hM.lo0 hg iP rfl)
     refine⟨.skip,_,_,_,?_,rfl,g1,g2,hH.set b _,mV hL iP _ _⟩
     rw[hex]
     simp[dP]
    rcases Kz (w:=w) ho ajt HN aCh hrv 0 dM hL' with⟨f,g⟩|⟨j,e1,f,g1,g2,g3⟩
    ·have hlen:=dM.length
     have Fq:=(g clock).length
     refine fin (es.push {key:=ev k,val:=ev v,born:=clock}) (clock+1) (by rw[rq];simpa using g clock) (RL CM (by rw[Tq,hlen])) (by simp at Fq hlen ⊢;omega) ?_
     simp[Pg,rq,Instr.mapUpdate,ah hu,nv,Fj,tW amS,f,Kr]
    ·have qL:es[j]?=some e1:=by simpa using g1
     have bz:j<es.size:=by
      rcases Dr j es.size with h'|h'
      ·exact h'
      ·rw[Uv h'] at qL;cases qL
     have hlen:=dM.length
     have Fq:=g3.length
     have UA:(es.modify j fun e=>{e with key:=ev k,val:=ev v}).toList=es.toList.set j {e1 with key:=ev k,val:=ev v}:=by
      apply List.ext_getElem?
      intro q
      rw[Array.getElem?_toList,Array.getElem?_modify]
      by_cases hq:j=q
      ·subst hq;rw[if_pos rfl,qL,List.getElem?_set_self (by simpa using bz)];rfl
      ·rw[if_neg hq,List.getElem?_set_ne hq];simp
     refine fin (es.modify j fun e=>{e with key:=ev k,val:=ev v}) clock ?_ (by rw[UA];exact ajn CM g1 rfl) (by simp at Fq hlen ⊢;omega) ?_
     ·rw[UA,rq];exact g3
     ·have hs:=au5 HN hxs
      simp[Pg,rq,Instr.mapUpdate,ah hu,nv,Fj,tW amS,f,Kr,Instr.keyThatStays,qL,g2,hs]
   ·cases h
  ·cases h
 ·cases h
theorem amL(hM:aP P ρ w0 μ G nx.toNat w)(hH:HSub H G)(ho:dq ρ orc){o:Oper}{p:tK}{pm pk:PX}(hp:gP P nt o=some (.delP p pm pk))(hE:tM P ρ μ nt o.op.operands.toList tm ev)
  {a:AV} {H':T ag} {nx':Key} (h:aOp orc (.delP p pm pk) tm H nx=.val a H' nx'):BF P ρ w0 μ G H nx w (Go.execOp ev o) a H' nx':=by
 obtain⟨dst,tZ,ty,pos,after,guard⟩:=o
 obtain⟨c,t,tl,m,k,kt,e,e0,auV,cG,hty,hu,amS,rK,hm,hk⟩:=eN hp
 obtain⟨callee,args,argTypes⟩:=c
 simp only at e0 auV cG hty
 subst e0 auV cG
 have aFU:argTypes[0]?=some t:=by rw[← Array.getElem?_toList,hty];rfl
 have hex:Go.execOp ev ⟨dst,.call ⟨.builtin .delete,#[m,k],argTypes⟩,ty,pos,after,guard⟩=(do pure (.value (← Builtin.delete_ argTypes ty (#[m,k].map ev)))):=rfl
 have aMh:m∈(Op.call ⟨.builtin .delete,#[m,k],argTypes⟩).operands.toList:=by simp[Op.operands,Call.operands]
 have aMi:k∈(Op.call ⟨.builtin .delete,#[m,k],argTypes⟩).operands.toList:=by simp[Op.operands,Call.operands]
 simp only[aOp] at h
 split at h
 ·rename_i b ka hb hka
  split at h
  ·rename_i L c0 hL
   replace h:=OL h
   obtain⟨x4,h⟩:=h
   obtain⟨pl,A,rfl,rfl,HN,aCg⟩:=OK x4
   split at h
   ·rename_i L' hL'
    rw[sTCe] at h
    simp only[OR.val.injEq] at h
    obtain⟨rfl,rfl,rfl⟩:=h
    have ajt:=ajs amS rK
    have hrm:=hE m aMh pm _ hm hb
    have hrk:=hE k aMi pk _ hk hka
    generalize Pg:ev m=mm at hrm
    cases hrm with|map _ l r iP hr=>
    subst hr
    generalize rq:ev k=kk at hrk
    have aCh:=hrk
    cases hrk with|agg _ xs hxs=>
    obtain⟨B,l',es,hB,h1,h2,dM,oU,ta⟩:=zu hM hH hL
    rw[iP] at h1;cases h1
    have hg:=hH _ _ hB
    have nv:(getObj l.c).run P w=.ok (.map es c0) w:=by simp[getObj,Sem.run,h2]
    have Kr:∀ o2,(setObj l.c o2).run P w=.ok () {w with heap:=w.heap.setIfInBounds l.c o2}:=by
     intro o2;simp[setObj,Sem.run,h2]
    have Im:l.c<w.heap.size:=hM.wR b l iP
    have DF:μ.le (μ.put b l):=Mu.uw (.inr iP)
    have Fj:(Instr.checkKey es.isEmpty 10000 kt (.agg xs)).run P w=.ok () w:=EX _ ajt hxs aCg 9997
    have fin:∀ (T3:Array MapEntry),gV ρ μ L' T3.toList→(Builtin.delete_ argTypes ty #[ev m,ev k]).run P w=.ok (.tuple #[]) {w with heap:=w.heap.setIfInBounds l.c (.map T3 c0)}→
      BF P ρ w0 μ G H nx w (Go.execOp ev ⟨dst,.call ⟨.builtin .delete,#[m,k],argTypes⟩,ty,pos,after,guard⟩) (.tuple []) (au b (some (.mapD L' c0)) H) nx:=by
     intro T3 HL dP
     obtain⟨g1,g2⟩:=hM.put (w':={w with heap:=w.heap.setIfInBounds l.c (.map T3 c0)}) b (.mapD L' c0) l (.map T3 c0) (.inr iP)
      ⟨rfl,rfl,rfl,by simp,fun j hj _=>by show(w.heap.setIfInBounds l.c _)[j]?=_;rw[zqn (Ne.symm hj)],fh _⟩
      (by show(w.heap.setIfInBounds l.c _)[l.c]?=_;simp[Im]) (.mapD _ _ _ _ (HL.mono DF)) (fun b' B' l' g m' ne=>hM.sep b' b B' _ l' l g hg m' iP ne) oU (fh _) (hM.new b l iP) (hM.lo0 hg iP ta)
     refine⟨.value (.tuple #[]),_,_,_,?_,.tuple _ _ .nil,g1,g2,hH.set b _,mV hB iP _ _⟩
     rw[hex]
     have e2:#[m,k].map ev=#[ev m,ev k]:=by simp
     rw[e2]
     exact cS dP
    rcases KA (w:=w) ho ajt HN aCh 0 dM hL' with⟨f,g⟩|⟨j,e1,f,g1,g2⟩
    ·refine fin es g ?_
     simp[Pg,rq,Builtin.delete_,aFU,ah hu,nv,Fj,tW amS,f,Kr]
    ·refine fin (es.eraseIdxIfInBounds j) (by simpa using g2) ?_
     simp[Pg,rq,Builtin.delete_,aFU,ah hu,nv,Fj,tW amS,f,Kr]
   ·cases h
  ·cases h
 ·cases h
theorem Ub(hM:aP P ρ w0 μ G nx.toNat w)(hH:HSub H G){o:Oper}{px:PX}(hp:gP P nt o=some (.rangeM px))(hE:tM P ρ μ nt o.op.operands.toList tm ev)
  {a:AV} {H':T ag} {nx':Key} (h:aOp orc (.rangeM px) tm H nx=.val a H' nx'):BF P ρ w0 μ G H nx w (Go.execOp ev o) a H' nx':=by
 obtain⟨dst,tZ,ty,pos,after,guard⟩:=o
 obtain⟨t,x,kt,e,e0,hu,hx⟩:=eN hp
 simp only at e0
 subst e0
 simp only[aOp] at h
 split at h
 ·rename_i m hm
  split at h
  ·rename_i L n hL
   obtain⟨rfl,rfl,rfl⟩:=aos h
   have hs:=kTSu nx
   have hrm:=hE x (by simp[Op.operands]) px _ hx hm
   generalize Pg:ev x=mm at hrm
   cases hrm with|map _ l r iP hr=>
   subst hr
   obtain⟨B,l',es,hB,h1,h2,dM,oU,ta⟩:=zu hM hH hL
   rw[iP] at h1;cases h1
   have hk:=hM.nE
   have bU:m≠nx:=by intro e;subst e;rw[hk] at iP;cases iP
   obtain⟨g1,g2⟩:=hM.alloc (nx':=nx.succ.toNat) nx (.iter m n []) (.mapIter (some l.c) n #[] n) 0 hk
    (.iter m n [] _ l #[] (by rw[Mu.pI _ _ bU];exact iP) rfl rfl) (by omega) (by omega)
   refine⟨.value (.pointer (some ⟨w.heap.size,0,none⟩)),w.alloc (.mapIter (some l.c) n #[] n),_,_,?_,?_,g1,g2,hH.set nx _,xQ _ _ _⟩
   ·have nv:(getObj l.c).run P w=.ok (.map es n) w:=by simp[getObj,Sem.run,h2]
    have au6:∀ ob,(newObj ob).run P w=.ok w.heap.size (w.alloc ob):=fun _=>rfl
    show(do pure (Next.value (← Instr.range t (ev x))):Sem Next).run P w=_
    refine cS ?_
    simp[Pg,Instr.range,ah hu,nv,au6]
   ·exact .ptr nx 0 ⟨w.heap.size,0,0⟩ _ (Mu.dG _ _ _) rfl
  ·cases h
 ·cases h
theorem aP.ax9(hM:aP P ρ w0 μ G nx.toNat w){w':World}(hT:Touch w w' w.heap.size){arr:Array Value}{elem:TypeId}{f:Nat×Nat}(au6:w'.heap[w.heap.size]?=some (.cells arr elem f)) :
  μ.le ⟨μ.loc,fun c i=>if c=w.heap.size then arr[i]? else μ.fz c i⟩∧aP P ρ w0 ⟨μ.loc,fun c i=>if c=w.heap.size then arr[i]? else μ.fz c i⟩ G nx.toNat w':=by
 have hold:∀ c i v,μ.fz c i=some v→c≠w.heap.size:=by
  intro c i v h e
  subst e
  rw[hM.akl] at h;cases h
 have hle:μ.le ⟨μ.loc,fun c i=>if c=w.heap.size then arr[i]? else μ.fz c i⟩:=
  ⟨fun _ _ h=>h,fun c i v h=>by show(if c=w.heap.size then arr[i]? else μ.fz c i)=some v;rw[if_neg (hold c i v h)];exact h⟩
 have uv:w0.heap.size≤w.heap.size:=hM.below.size
 refine⟨hle,?_,hM.sep,?_,hM.own,hM.Nr,hM.new,hT.below hM.below uv uv,?_,?_,?_,?_,?_,Nat.le_trans hM.dr hT.dr⟩
 ·intro b B hg
  obtain⟨l,o,h1,h2,h3⟩:=hM.oR b B hg
  have:=hM.wR b l h1
  exact⟨l,o,h1,by rw[hT.other l.c (by omega) this];exact h2,h3.mono hle⟩
 ·intro b l h
  exact JJ (hM.wR b l h) hT.size
 ·intro c i v h
  have h:(if c=w.heap.size then arr[i]? else μ.fz c i)=some v:=h
  by_cases hc:c=w.heap.size
  ·subst hc
   rw[if_pos rfl] at h
   exact⟨arr,elem,f,au6,h⟩
  ·rw[if_neg hc] at h
   obtain⟨Fh,QW,f',h1,h2⟩:=hM.UQ c i v h
   have bO:c<w.heap.size:=by
    rcases Dr c w.heap.size with h'|h'
    ·exact h'
    ·rw[Uv h'] at h1;cases h1
   exact⟨Fh,QW,f',by rw[hT.other c hc bO];exact h1,h2⟩
 ·intro b B l n hg hm ta i hi
  have:=hM.wR b l hm
  show(if l.c=w.heap.size then arr[i]? else μ.fz l.c i)=none
  rw[if_neg (by omega)]
  exact hM.fzf b B l n hg hm ta i hi
 ·intro c i v h
  exact hle.f c i v (hM.zle c i v h)
 ·intro c i v h
  have h:(if c=w.heap.size then arr[i]? else μ.fz c i)=some v:=h
  by_cases hc:c=w.heap.size
  ·exact .inl (by omega)
  ·rw[if_neg hc] at h
   exact hM.fzo c i v h
 ·intro b L l hg hm
  rcases hM.rof b L l hg hm with h|h
  ·exact .inl h
  ·refine .inr fun Fh e ff i v ha hv=>hle.f _ _ _ (h Fh e ff i v ?_ hv)
   have:=hM.wR b l hm
   rwa [hT.other l.c (by omega) this] at ha
theorem aju(w:World)(e:TypeId)(s:ByteArray):Touch w (Lib.bytesWorld w e s) w.heap.size:=by
 refine⟨?_,?_,?_,?_,fun k hk hs=>Lib.bytesWorld_at_old w e s k hs,?_⟩
 ·simp[Lib.bytesWorld,World.freeze,World.alloc,World.drew,-World.alloc_eq,-World.drew_eq]
 ·simp[Lib.bytesWorld,World.freeze,World.alloc,World.drew,-World.alloc_eq,-World.drew_eq]
 ·simp[Lib.bytesWorld,World.freeze,World.alloc,World.drew,-World.alloc_eq,-World.drew_eq]
 ·rw[Lib.bytesWorld_size];omega
 ·simp[Lib.bytesWorld,World.freeze,World.alloc,World.drew,-World.alloc_eq,-World.drew_eq]
theorem H5:∀ (n c:Nat),(bytesOf n c).length=n
 |0,_=>rfl
 |n+1,c=>by simp[bytesOf,H5 n]
theorem H6:∀ (l:List UInt8),an ρ μ (bytesOf l.length (enc l)) (l.map fun b=>Value.int .u8 ((b.toNat:Nat):Int))
 | []=>.nil
 |b ::l=>by
  have hb:b.toNat<256:=b.toNat_lt
  have h1:(b.toNat+256*enc l)%256=b.toNat:=by omega
  have h2:(b.toNat+256*enc l) / 256=enc l:=by omega
  simp only[zqi,bytesOf,enc,h1,h2,zqx]
  exact .cons _ _ _ _ (.int _ _ _ rfl) (H6 l)
theorem amM(hM:aP P ρ w0 μ G nx.toNat w)(hH:HSub H G){o:Oper}{px:PX}(hp:gP P nt o=some (.strb px))(hE:tM P ρ μ nt o.op.operands.toList tm ev)
  {a:AV} {H':T ag} {nx':Key} (h:aOp orc (.strb px) tm H nx=.val a H' nx'):BF P ρ w0 μ G H nx w (Go.execOp ev o) a H' nx':=by
 obtain⟨dst,tZ,ty,pos,after,guard⟩:=o
 obtain⟨src,dt,x,e,e0,hs,hd,he,hx⟩:=eN hp
 simp only at e0
 subst e0
 simp only[aOp] at h
 split at h
 ·rename_i n c hc
  simp only[OR.val.injEq] at h
  obtain⟨rfl,rfl,rfl⟩:=h
  have hr:=hE x (by simp[Op.operands]) px _ hx hc
  generalize iL:ev x=xx at hr
  cases hr with|str _ _ s e1 e2=>
  subst e1 e2
  have dP:=Lib.run_convert_string_bytes (P:=P) w src dt e s hs hd he
  have au6:=Lib.bytesWorld_at_new w e s
  obtain⟨g1,g2⟩:=hM.ax9 (aju w e s) au6
  have uv:s.size=s.data.toList.length:=Array.length_toList.symm
  refine⟨.value (.slice (some ⟨w.heap.size,0,none⟩) s.size (grownCap w s.size 0 e)),Lib.bytesWorld w e s,_,G,?_,?_,g1,g2,hH,⟨fun _ _ _=>rfl,fun _ _=>rfl,fun _ h _=>h,fh _⟩⟩
  ·show(do pure (Next.value (← convert src dt (ev x))):Sem Next).run P w=_
   rw[iL]
   exact cS dP
  ·rw[uv]
   refine .sl _ _ _ _ _ w.heap.size 0 _ (s.data.toList.map fun b=>Value.int .u8 ((b.toNat:Nat):Int)) (H6 _) (by rw[H5,Nat.mul_one]) ?_ (.inr rfl) ?_ trivial
   ·simp only[grownCap,Question.cut];omega
   ·intro i v hv
    show(if w.heap.size=w.heap.size then(Lib.bytesCells w e s)[0+i]? else _)=some v
    rw[if_pos rfl,Nat.zero_add]
    have hi:i<s.data.toList.length:=by
     rcases Dr i s.data.toList.length with h'|h'
     ·exact h'
     ·rw[zqo (by simpa using h')] at hv;cases hv
    rw[← hv]
    unfold Lib.bytesCells
    rw[Array.getElem?_append_left (by simpa using hi)]
    simp
 ·cases h
end
end Go.Sx
/-
 SX: every operation that has a value. No condition.
-/
namespace Go.Sx
open Go.RowKit
section
variable{P:Program}{ρ:Nat→Int}{w0:W0}{w:World}{μ:Mu}{G:Key→Option ag}{nx:Key}{orc:hU}{nt:Nat}{tm:T AV}{H:T ag}{ev:Operand→Value}
theorem Kx:∀ (l:List UInt8),an ρ μ (bytesOf l.length (enc l)) (l.map fun b=>Value.int .u8 ((b.toNat:Nat):Int))
 | []=>.nil
 |b ::l=>by
  have hb:b.toNat<256:=b.toNat_lt
  have h1:(b.toNat+256*enc l)%256=b.toNat:=by omega
  have h2:(b.toNat+256*enc l) / 256=enc l:=by omega
  simp only[zqi,bytesOf,enc,h1,h2,zqx]
  exact .cons _ _ _ _ (.int _ _ _ rfl) (Kx l)
theorem Ky:∀ (n c:Nat),(bytesOf n c).length=n
 |0,_=>rfl
 |n+1,c=>by simp[bytesOf,Ky n]
theorem Ua(hM:aP P ρ w0 μ G nx.toNat w)(hH:HSub H G){o:Oper}{sz:Nat}{ps px:PX}(hp:gP P nt o=some (.append sz ps px))(hE:tM P ρ μ nt o.op.operands.toList tm ev)
  {a:AV} {H':T ag} {nx':Key} (h:aOp orc (.append sz ps px) tm H nx=.val a H' nx'):BF P ρ w0 μ G H nx w (Go.execOp ev o) a H' nx':=by
 obtain⟨dst,tZ,ty,pos,after,guard⟩:=o
 obtain⟨c,s,x,t,u,e,i,ie,e0,auV,cG,hty,hu,hu',K5,hi,uv,xR,hzl,hby,hs,hx⟩:=eN hp
 obtain⟨callee,args,argTypes⟩:=c
 simp only at e0 auV cG hty
 subst e0 auV cG hty
 obtain⟨i',d,z,Ts,hd,hz,Tr,aL4,Mk⟩:=jr K5
 rw[hi] at Ts;cases Ts
 have hzr:an ρ μ ie.zero.cells z.cells.toList:=(gw rU z ie.zero Tr).cells
 have hzs:z.cells.size=i.size:=by rw[← aL4,← hzl,hzr.length];simp
 have hT:aqw P t u e i z:=⟨hu,hu',hi,hz,by omega,hzs,hby⟩
 have Nt:sz=i.size:=by omega
 subst Nt
 have hms:s∈(Op.call ⟨.builtin .append,#[s,x],#[t,u]⟩).operands.toList:=by simp[Op.operands,Call.operands]
 have hmx:x∈(Op.call ⟨.builtin .append,#[s,x],#[t,u]⟩).operands.toList:=by simp[Op.operands,Call.operands]
 have aB8:∀ (sa:AV) (new:List AV) (m:Nat) (us:Array Value) (μ1:Mu) (G1:Key→Option ag) (H1:T ag),hN P ρ w0 w nx μ G H μ1 G1 H1→ps.at tm=some sa→Np P ρ μ1 w i.size (ev x) new m us→appendTo i.size sa new m H1 nx=.val a H' nx'→
   BF P ρ w0 μ G H nx w (Go.execOp ev ⟨dst,.call ⟨.builtin .append,#[s,x],#[t,u]⟩,ty,pos,after,guard⟩) a H' nx':=by
  intro sa new m us μ1 G1 H1 f1 hsa aB9 hap
  obtain⟨v,w',μ',G',r1,r2,r3,r4,r5,r6⟩:=Ns f1.M f1.hs hT ty ((hE s hms ps sa hs hsa).mono f1.le) aB9 hap
  refine⟨.value v,w',μ',G',?_,r2,Mu.le_trans f1.le r3,r4,r5,f1.kept.trans r6⟩
  have:Go.execOp ev ⟨dst,.call ⟨.builtin .append,#[s,x],#[t,u]⟩,ty,pos,after,guard⟩=(do pure (.value (← Builtin.append_ #[t,u] ty (#[s,x].map ev)))):=rfl
  have e2:#[s,x].map ev=#[ev s,ev x]:=by simp
  rw[this,e2]
  exact cS r1
 have fin:∀ (sa:AV) (new:List AV) (m:Nat) (us:Array Value),ps.at tm=some sa→Np P ρ μ w i.size (ev x) new m us→appendTo i.size sa new m H nx=.val a H' nx'→
   BF P ρ w0 μ G H nx w (Go.execOp ev ⟨dst,.call ⟨.builtin .append,#[s,x],#[t,u]⟩,ty,pos,after,guard⟩) a H' nx':=
  fun sa new m us hsa aB9 hap=>aB8 sa new m us μ G H (hN.refl hM hH) hsa aB9 hap
 simp only[aOp] at h
 split at h
 ·rename_i sa hsa hxa
  have hv:=hE x hmx px _ hx hxa
  generalize iL:ev x=xx at hv fin
  cases hv
  exact fin sa [] 0 #[] hsa ⟨rfl,fun _=>rfl,.nil,by simp⟩ h
 ·rename_i sa b off len Gc hsa hxa
  replace h:=(show Nat.beq i.size Gc=true∧_ from by
   cases hb:Nat.beq i.size Gc with
   |false=>rw[hb] at h;cases h
   |true=>rw[hb] at h;exact⟨rfl,h⟩)
  obtain⟨auX,h⟩:=h
  have auX:=mU auX
  subst auX
  simp only[cond_true] at h
  split at h
  ·rename_i L ck hL
   rw[takeC_eq,dropL_eq] at h
   split at h
   ·rename_i hle
    have hv:=hE x hmx px _ hx hxa
    generalize iL:ev x=xx at hv aB8
    cases hv with|slice _ _ _ _ cap l ad iP BD hlen lU=>
    obtain⟨l',arr,elem,fz,k1,k2,k3,k4,k5,k7⟩:=hM.cells (hH _ _ hL)
    rw[iP] at k1;cases k1
    rw[tL (BV 9999)] at h
    have tP:an ρ μ ((L.drop off).take (len*i.size)) ((arr.toList.drop (l.base+off)).take (len*i.size)):=by
     by_cases h0:len=0
     ·subst h0;simp;exact .nil
     ·have:0<len*i.size:=Nat.mul_pos (by omega) (by omega)
      simp at hle
      simpa using ua k3 (by omega) (by omega)
    obtain⟨μ1,G1,f1,r1⟩:=mS (zp 9999) _ _ μ G H hM hH tP
    refine aB8 sa _ len ((arr.toList.drop (l.base+off)).take (len*i.size)).toArray μ1 G1 _ f1 hsa ⟨rfl,?_,r1,?_⟩ h
    ·intro d
     simp only[Builtin.firstCells]
     by_cases h0:len=0
     ·subst h0;simp[loadCells,loadCellsFrom]
     ·have lU:ad=⟨l.c,l.base+off,none⟩:=lU.resolve_left (by omega)
      subst lU
      refine jI P {w with drawn:=d} l.c (l.base+off) arr elem fz k2 (len*i.size) ?_
      simp at hle
      have:0<len*i.size:=Nat.mul_pos (by omega) (by omega)
      omega
    ·rw[zB,zqy];omega
   ·cases h
  ·cases h
 ·rename_i sa L len Gc fl hsa hxa
  cases hb:Nat.beq i.size Gc with
  |false=>rw[hb] at h;cases h
  |true=>
   rw[hb] at h
   simp only[cond_true] at h
   have auX:=mU hb
   subst auX
   have hv:=hE x hmx px _ hx hxa
   generalize iL:ev x=xx at hv fin
   cases hv with|sl _ _ _ _ cap c o ad vs tP hn hle lU hf hg=>
   have hvl:=tP.length
   refine fin sa L len vs.toArray hsa ⟨rfl,?_,by simpa using tP,hn⟩ h
   intro d
   simp only[Builtin.firstCells]
   by_cases h0:len=0
   ·subst h0
    have:vs=[]:=zqr (by omega)
    subst this
    simp[loadCells,loadCellsFrom]
   ·have lU:ad=⟨c,o,none⟩:=lU.resolve_left (by omega)
    subst lU
    rw[LN (hM.asR d) hf (by omega),Pu (by omega)]
 ·rename_i sa n c hsa hxa
  cases hb:Nat.beq i.size 1 with
  |false=>rw[hb] at h;cases h
  |true=>
   rw[hb] at h
   simp only[cond_true] at h
   have h1:=mU hb
   have hv:=hE x hmx px _ hx hxa
   generalize iL:ev x=xx at hv fin
   cases hv with|str _ _ st dL ax2=>
   subst dL ax2
   refine fin sa _ _ (st.data.map fun b=>Value.int .u8 ((b.toNat:Nat):Int)) hsa ⟨?_,?_,?_,?_⟩ h
   ·simp only[Builtin.lenOf,ra,Lib.size_eq]
   ·intro d
    simp only[Builtin.firstCells,ra]
    have:(st.extract 0 st.data.toList.length)=st:=by
     apply ByteArray.ext
     apply Array.ext'
     rw[Lib.extract_data]
     simp only[List.drop_zero,Nat.sub_zero,List.take_length]
    rw[this]
   ·simpa using Kx (ρ:=ρ) (μ:=μ) st.data.toList
   ·rw[Ky,h1,Nat.mul_one]
 ·cases h
theorem aCa{x:Option AV}{a:AV}{H':T ag}{nx':Key}(h:okV H nx x=.val a H' nx'):x=some a∧H'=H∧nx'=nx:=by
 cases x with
 |none=>cases h
 |some v=>simp only[okV,OR.val.injEq] at h;exact⟨by rw[h.1],h.2.1.symm,h.2.2.symm⟩
theorem Rv(hM:aP P ρ w0 μ G nx.toNat w)(hH:HSub H G)(ho:dq ρ orc){o:Oper}{op:F9}(hp:gP P nt o=some op)(hE:tM P ρ μ nt o.op.operands.toList tm ev)
  {a:AV} {H':T ag} {nx':Key} (h:aOp orc op tm H nx=.val a H' nx'):BF P ρ w0 μ G H nx w (Go.execOp ev o) a H' nx':=by
 have aL6:okV H nx (lightOp orc op tm H)=.val a H' nx'→BF P ρ w0 μ G H nx w (Go.execOp ev o) a H' nx':=by
  intro h
  obtain⟨h1,rfl,rfl⟩:=aCa h
  obtain⟨v,h2,h3⟩:=Kf hM hH ho hp hE h1
  exact akR hM hH h2 h3
 have auY:(match allocOp op tm with|some (v,b)=>newB v b H nx|none=>.bad 2)=.val a H' nx'→BF P ρ w0 μ G H nx w (Go.execOp ev o) a H' nx':=by
  intro h
  split at h
  ·rename_i f B hl
   obtain⟨rfl,rfl,rfl⟩:=aos h
   exact akS hM hH hp hE hl
  ·cases h
 cases op with
 |store n pa pv=>exact Ws hM hH hp hE h
 |mapupd sk pm pk pv=>exact T1 hM hH ho hp hE h
 |mapupdP p pm pk pv=>exact Qo hM hH ho hp hE h
 |delP p pm pk=>exact amL hM hH ho hp hE h
 |rangeM px=>exact Ub hM hH hp hE h
 |strb px=>exact amM hM hH hp hE h
 |nextM px=>
  exfalso
  simp only[aOp] at h
  repeat' (first|(cases h;done)|split at h)
  all_goals (rw[show ∀ (b:Bool) (x y:OR),(bif b then x else y)=if b=true then x else y from fun b x y=>by cases b<;>rfl] at h;repeat' (first|(cases h;done)|split at h))
 |append sz ps px=>exact Ua hM hH hp hE h
 |new zs=>exact auY h
 |box x=>exact auY h
 |bslice sz len zs ps=>exact auY h
 |mkmap=>exact auY h
 |mkslice sz zs l c=>exact auY h
 |callF f l=>simp only[aOp] at h;split at h<;>cases h
 |callV v l=>simp only[aOp] at h;split at h<;>cases h
 |dfr v l=>simp only[aOp] at h;split at h<;>cases h
 |panic x=>simp only[aOp] at h;split at h<;>cases h
 |recover=>cases h
 |_=>exact aL6 h
end
end Go.Sx
/-
 SX: operations that enter a function, panic, defer, recover. No condition.
-/
namespace Go.Sx
open Go.RowKit
section
variable{P:Program}{ρ:Nat→Int}{w0:W0}{w:World}{μ:Mu}{G:Key→Option ag}{nx:Key}{orc:hU}{nt:Nat}{tm:T AV}{H:T ag}{ev:Operand→Value}
theorem PT{op:F9}{r:OR}(h:aOp orc op tm H nx=r)(hl:aOp orc op tm H nx=okV H nx (lightOp orc op tm H)):(∃ a H' nx',r=.val a H' nx')∨∃ n,r=.bad n:=by
 rw[hl] at h
 subst h
 cases lightOp orc op tm H with
 |none=>exact .inr ⟨_,rfl⟩
 |some v=>exact .inl ⟨_,_,_,rfl⟩
def zr(r:OR):Prop:=(∃ a H' nx',r=.val a H' nx')∨∃ n,r=.bad n
def az1:F9→Bool
 |.callF _ _|.callV _ _|.dfr _ _|.panic _|.recover|.nextM _=>true
 |_=>false
theorem anx{α:Type}{vs:List α}{off:Nat}{l:List α}{bad:OR}{c:List α→OR}(hb:zr bad)(hc:∀ l,zr (c l)):zr (U6 vs off l bad c):=by
 rw[putC_eq];split
 ·exact hc _
 ·exact hb
theorem NA{α:Type}{n:Nat}{l:List α}{bad:OR}{c:List α→OR}(hb:zr bad)(hc:∀ l,zr (c l)):zr (vY n l bad c):=by
 rw[takeC_eq];split
 ·exact hc _
 ·exact hb
theorem bV(n:Nat):zr (.bad n):=.inr ⟨n,rfl⟩
theorem lR(a:AV)(H:T ag)(nx:Key):zr (.val a H nx):=.inl ⟨_,_,_,rfl⟩
theorem IV(f:Key→AV)(B:ag):zr (newB f B H nx):=by simp only[newB,sTCe];exact lR _ _ _
theorem ia{b:Bool}{x y:OR}(hx:zr x)(hy:zr y):zr (bif b then x else y):=by cases b<;>assumption
theorem tR(sz:Nat)(s:AV)(new:List AV)(m:Nat):zr (appendTo sz s new m H nx):=by
 unfold appendTo
 split
 ·refine ia (lR _ _ _) (ia ?_ (bV _))
  rw[sTCe];exact lR _ _ _
 ·refine ia (lR _ _ _) (ia ?_ (bV _))
  split
  ·exact bV _
  ·split
   ·rw[appC_eq,sTCe,sTCe];exact lR _ _ _
   ·exact bV _
 ·refine ia ?_ (bV _)
  split
  ·refine ia (anx (bV _) fun _=>by rw[sTCe];exact lR _ _ _) (NA (bV _) fun _=>?_)
   rw[tL (BV 9999),appC_eq,sTCe];exact lR _ _ _
  ·refine ia (bV _) (NA (bV _) fun _=>?_)
   rw[tL (BV 9999),appC_eq,sTCe];exact lR _ _ _
  ·refine ia (lR _ _ _) (ia (ia ?_ ?_) (bV _))<;>(rw[appC_eq,sTCe,sTCe];exact lR _ _ _)
  ·exact bV _
 ·exact bV _
theorem az2{op:F9}(he:az1 op=false):zr (aOp orc op tm H nx):=by
 cases op with
 |callF f' ps=>cases he
 |callV pv ps=>cases he
 |dfr v l=>cases he
 |panic x=>cases he
 |recover=>cases he
 |nextM x=>cases he
 |mapupdP p pm pk pv=>
  simp only[aOp]
  split
  ·split
   ·refine ia ?_ (bV _)
    split
    ·rw[sTCe];exact lR _ _ _
    ·exact bV _
   ·exact bV _
  ·exact bV _
 |delP p pm pk=>
  simp only[aOp]
  split
  ·split
   ·refine ia ?_ (bV _)
    split
    ·rw[sTCe];exact lR _ _ _
    ·exact bV _
   ·exact bV _
  ·exact bV _
 |rangeM x=>
  simp only[aOp]
  split
  ·split
   ·exact IV _ _
   ·exact bV _
  ·exact bV _
 |strb x=>
  simp only[aOp]
  split
  ·exact lR _ _ _
  ·exact bV _
 |store n pa pv=>
  simp only[aOp]
  split
  ·refine ia ?_ (bV _)
   split
   ·exact bV _
   ·exact anx (bV _) fun _=>by rw[sTCe];exact lR _ _ _
   ·exact bV _
  ·exact bV _
 |mapupd sk pm pk pv=>
  simp only[aOp]
  split
  ·split
   ·split
    ·rw[sTCe];exact lR _ _ _
    ·exact bV _
   ·exact bV _
  ·exact bV _
 |append sz ps px=>
  simp only[aOp]
  split
  ·exact tR _ _ _ _
  ·refine ia ?_ (bV _)
   split
   ·exact NA (bV _) fun _=>by rw[tL (BV 9999)];exact tR _ _ _ _
   ·exact bV _
  ·exact ia (tR _ _ _ _) (bV _)
  ·exact ia (tR _ _ _ _) (bV _)
  ·exact bV _
 |new zs=>simp only[aOp];split;exact IV _ _;exact bV _
 |box x=>simp only[aOp];split;exact IV _ _;exact bV _
 |bslice sz len zs ps=>simp only[aOp];split;exact IV _ _;exact bV _
 |mkmap=>simp only[aOp];split;exact IV _ _;exact bV _
 |mkslice sz zs l c=>simp only[aOp];split;exact IV _ _;exact bV _
 |_=>exact PT rfl rfl
theorem Hw{x:PX}{r:OR}(h:aOp orc (.nextM x) tm H nx=r):(∃ l,r=.alt l)∨∃ n,r=.bad n:=by
 simp only[aOp] at h
 split at h
 ·split at h
  ·split at h
   ·rename_i m n seen _ _ L c _
    cases hb:(Nat.beq c n&&Iv n L) with
    |false=>rw[hb] at h;exact .inr ⟨_,h.symm⟩
    |true=>
     rw[hb] at h
     simp only[cond_true] at h
     split at h
     ·exact .inl ⟨_,h.symm⟩
     ·exact .inl ⟨_,h.symm⟩
   ·exact .inr ⟨_,h.symm⟩
  ·exact .inr ⟨_,h.symm⟩
 ·exact .inr ⟨_,h.symm⟩
theorem Dq{op:F9}{r:OR}(h:aOp orc op tm H nx=r)(hr:¬ zr r):az1 op=true:=by
 cases he:az1 op with
 |true=>rfl
 |false=>exact absurd (h ▸ az2 (orc:=orc) (tm:=tm) (H:=H) (nx:=nx) he) hr
theorem anz{f:Nat}{first cap:List AV}{v:Value}(h:aD ρ μ (.fn f first cap) v):∃ vs ws,v=.func (.func f) vs ws∧an ρ μ first vs.toList∧an ρ μ cap ws.toList:=by
 cases h with|fn _ _ _ vs ws h h'=>exact⟨vs,ws,rfl,h,h'⟩
theorem tS {f : Nat} {fn : Func} (hf : P.funcs[f]? = some fn) (hb : fn.body.isSome = true) (hn : fn.name ≠ "runtime.NumGoroutine") (args : Array Value) : (callFunc f args).run P w = .ok (.enter f args) w := by
 have h1:fn.body.isNone=false:=by cases h:fn.body<;>simp_all
 have h2 : (fn.name == "runtime.NumGoroutine") = false := by simpa using hn
 simp only[callFunc,mA,run_program,jH,hf,h2,h1,Ps,if_false,ra]
theorem aj1{o:Oper}{op:F9}(hp:gP P nt o=some op)(hE:tM P ρ μ nt o.op.operands.toList tm ev){f:Nat}{l:List AV}(h:aOp orc op tm H nx=.call f l)
  {fn : Func} (hf : P.funcs[f]? = some fn) (hb : fn.body.isSome = true) (hn : fn.name ≠ "runtime.NumGoroutine") :
  ∃ args,(Go.execOp ev o).run P w=.ok (.enter f args) w∧an ρ μ l args.toList:=by
 have he:=Dq h (by rintro(⟨_,_,_,e⟩|⟨_,e⟩)<;>cases e)
 obtain⟨dst,tZ,ty,pos,after,guard⟩:=o
 cases op<;>first|(cases he;done)|skip
 ·rcases Hw h with⟨_,e⟩|⟨_,e⟩<;>cases e
 ·rename_i f' ps
  obtain⟨c,fn',e0,hc,cG,_⟩:=eN hp
  obtain⟨callee,args,argTypes⟩:=c
  simp only at e0 hc cG
  subst e0 hc
  simp only[aOp] at h
  split at h
  ·rename_i l' Vl
   simp only[OR.call.injEq] at h
   obtain⟨rfl,rfl⟩:=h
   have hv:aD ρ μ (.fn f' [] []) (ev (.func f')):=hE (.func f') (by simp[Op.operands,Call.operands]) _ _ rfl rfl
   obtain⟨vs,ws,e1,h1,h2⟩:=anz hv
   have hvs:vs=#[]:=by apply Array.ext';generalize vs.toList=x at h1;cases h1;rfl
   have hws:ws=#[]:=by apply Array.ext';generalize ws.toList=x at h2;cases h2;rfl
   subst hvs hws
   refine⟨args.map ev,?_,?_⟩
   ·simp[Go.execOp,resolve,e1,Deferred.ofValue,invoke,tS hf hb hn]
   ·have:=kv (ev:=ev) cG Vl (hE.sub fun y hy=>by simp[Op.operands,Call.operands] at hy ⊢;exact .inr hy)
    simpa using this
  ·cases h
 ·rename_i pv ps
  obtain⟨c,x,e0,hc,hx,cG⟩:=eN hp
  obtain⟨callee,args,argTypes⟩:=c
  simp only at e0 hc cG
  subst e0 hc
  simp only[aOp] at h
  split at h
  ·rename_i f' first cap l' Sd Vl
   simp only[OR.call.injEq] at h
   obtain⟨rfl,rfl⟩:=h
   have hv:=hE x (by simp[Op.operands,Call.operands]) pv _ hx Sd
   obtain⟨vs,ws,e1,h1,h2⟩:=anz hv
   refine⟨vs++args.map ev++ws,?_,?_⟩
   ·simp[Go.execOp,resolve,e1,Deferred.ofValue,invoke,tS hf hb hn]
   ·have:=kv (ev:=ev) cG Vl (hE.sub fun y hy=>by simp[Op.operands,Call.operands] at hy ⊢;exact .inr hy)
    have h3:an ρ μ l' (args.map ev).toList:=by simpa using this
    simpa using(h1.append h3).append h2
  ·cases h
  ·cases h
 ·rename_i v l';simp only[aOp] at h;split at h<;>cases h
 ·rename_i x;simp only[aOp] at h;split at h<;>cases h
 ·cases h
theorem aqi{o:Oper}{op:F9}(hp:gP P nt o=some op)(hE:tM P ρ μ nt o.op.operands.toList tm ev){k:Key}{l:List AV}(h:aOp orc op tm H nx=.yld k l) :
  ∃ args lc,μ k=some lc∧(Go.execOp ev o).run P w=(Instr.yield lc.c args).run P w∧an ρ μ l args.toList:=by
 have he:=Dq h (by rintro(⟨_,_,_,e⟩|⟨_,e⟩)<;>cases e)
 obtain⟨dst,tZ,ty,pos,after,guard⟩:=o
 cases op<;>first|(cases he;done)|skip
 ·rcases Hw h with⟨_,e⟩|⟨_,e⟩<;>cases e
 ·simp only[aOp] at h;split at h<;>cases h
 ·rename_i pv ps
  obtain⟨c,x,e0,hc,hx,cG⟩:=eN hp
  obtain⟨callee,args,argTypes⟩:=c
  simp only at e0 hc cG
  subst e0 hc
  simp only[aOp] at h
  split at h
  ·cases h
  ·rename_i k' l' Sd Vl
   simp only[OR.yld.injEq] at h
   obtain⟨rfl,rfl⟩:=h
   have hv:=hE x (by simp[Op.operands,Call.operands]) pv _ hx Sd
   generalize iL:ev x=xx at hv
   cases hv with|yld _ lc r hm hr=>
   subst hr
   refine⟨args.map ev,lc,hm,?_,?_⟩
   ·simp[Go.execOp,resolve,iL,Deferred.ofValue,invoke]
   ·have:=kv (ev:=ev) cG Vl (hE.sub fun y hy=>by simp[Op.operands,Call.operands] at hy ⊢;exact .inr hy)
    simpa using this
  ·cases h
 ·simp only[aOp] at h;split at h<;>cases h
 ·simp only[aOp] at h;split at h<;>cases h
 ·cases h
theorem aqk{o:Oper}{op:F9}(hp:gP P nt o=some op)(hE:tM P ρ μ nt o.op.operands.toList tm ev){a:AV}(h:aOp orc op tm H nx=.pan a) :
  ∃ v,(Go.execOp ev o).run P w=.halt (.panic v) w∧aD ρ μ a v:=by
 have he:=Dq h (by rintro(⟨_,_,_,e⟩|⟨_,e⟩)<;>cases e)
 obtain⟨dst,tZ,ty,pos,after,guard⟩:=o
 cases op<;>first|(cases he;done)|skip
 ·rcases Hw h with⟨_,e⟩|⟨_,e⟩<;>cases e
 ·simp only[aOp] at h;split at h<;>cases h
 ·simp only[aOp] at h;split at h<;>cases h
 ·simp only[aOp] at h;split at h<;>cases h
 ·rename_i px
  obtain⟨x,e0,hx⟩:=eN hp
  simp only at e0
  subst e0
  simp only[aOp] at h
  split at h
  ·rename_i t u hu
   simp only[OR.pan.injEq] at h;subst h
   have hv:=hE x (by simp[Op.operands]) px _ hx hu
   refine⟨ev x,?_,hv⟩
   generalize iL:ev x=xx at hv
   cases hv
   simp[Go.execOp,iL,Instr.panic]
  ·cases h
 ·cases h
theorem aql{o:Oper}{op:F9}(hp:gP P nt o=some op)(hE:tM P ρ μ nt o.op.operands.toList tm ev){f:Nat}{l:List AV}(h:aOp orc op tm H nx=.dfr f l) :
  ∃ c ws vs,o.op=.defer c∧(resolve ev c o.type).run P w=.ok ⟨.fn (.func f) ws,vs⟩ w∧(Go.execOp ev o).run P w=.ok (.defer ⟨.fn (.func f) ws,vs⟩) w∧an ρ μ l (vs++ws).toList:=by
 have he:=Dq h (by rintro(⟨_,_,_,e⟩|⟨_,e⟩)<;>cases e)
 obtain⟨dst,tZ,ty,pos,after,guard⟩:=o
 cases op<;>first|(cases he;done)|skip
 ·rcases Hw h with⟨_,e⟩|⟨_,e⟩<;>cases e
 ·simp only[aOp] at h;split at h<;>cases h
 ·simp only[aOp] at h;split at h<;>cases h
 ·rename_i pv ps
  obtain⟨c,x,e0,hc,hx,cG⟩:=eN hp
  obtain⟨callee,args,argTypes⟩:=c
  simp only at e0 hc cG
  subst e0 hc
  simp only[aOp] at h
  split at h
  ·rename_i f' first cap l' Sd Vl
   simp only[OR.dfr.injEq] at h
   obtain⟨rfl,rfl⟩:=h
   have hv:=hE x (by simp[Op.operands,Call.operands]) pv _ hx Sd
   obtain⟨vs,ws,e1,h1,h2⟩:=anz hv
   refine⟨_,ws,vs++args.map ev,rfl,?_,?_,?_⟩
   ·simp[resolve,e1,Deferred.ofValue]
   ·simp[Go.execOp,resolve,e1,Deferred.ofValue]
   ·have:=kv (ev:=ev) cG Vl (hE.sub fun y hy=>by simp[Op.operands,Call.operands] at hy ⊢;exact .inr hy)
    have h3:an ρ μ l' (args.map ev).toList:=by simpa using this
    simpa using(h1.append h3).append h2
  ·cases h
 ·simp only[aOp] at h;split at h<;>cases h
 ·cases h
theorem Pp{o:Oper}{op:F9}(hp:gP P nt o=some op)(h:aOp orc op tm H nx=.recover):(Go.execOp ev o).run P w=.ok .recover w:=by
 have he:=Dq h (by rintro(⟨_,_,_,e⟩|⟨_,e⟩)<;>cases e)
 obtain⟨dst,tZ,ty,pos,after,guard⟩:=o
 cases op<;>first|(cases he;done)|skip
 ·rcases Hw h with⟨_,e⟩|⟨_,e⟩<;>cases e
 ·simp only[aOp] at h;split at h<;>cases h
 ·simp only[aOp] at h;split at h<;>cases h
 ·simp only[aOp] at h;split at h<;>cases h
 ·simp only[aOp] at h;split at h<;>cases h
 ·obtain⟨c,e0,hc,cG⟩:=eN hp
  obtain⟨callee,args,argTypes⟩:=c
  simp only at e0 hc cG
  subst e0 hc cG
  simp[Go.execOp,resolve,invoke,Go.builtin]
end
end Go.Sx
