/- A part of the proof. No condition. -/
import Derived.Test.YtecbfpngkfdkoaaGreatP3
import Derived.ChangeKeysEq
import Derived.Lib.ConvBytes
set_option linter.unusedSimpArgs false
set_option linter.unusedVariables false
set_option linter.unusedSectionVars false
namespace Go.Sx
open Go.RowKit
noncomputable def cn(g:AV→T ah→AV×T ah):List AV→T ah→List AV×T ah
 | [],h=>([],h)
 |v ::l,h=>((g v h).1 ::(cn g l (g v h).2).1,(cn g l (g v h).2).2)
noncomputable def Jp(ih:AV→T ah→AV×T ah)(v:AV)(h:T ah):AV×T ah:=
 match v with
 |.slice b off len sz=>match aa b h with
  |some (.cells l .fix)=>if len*sz≤(l.drop off).length then(.sl (cn ih ((l.drop off).take (len*sz)) (av b (some (.cells l .ro)) h)).1 len sz .any,(cn ih ((l.drop off).take (len*sz)) (av b (some (.cells l .ro)) h)).2) else(v,h)
  |some (.cells l .ro)=>if len*sz≤(l.drop off).length then(.sl (cn ih ((l.drop off).take (len*sz)) h).1 len sz .any,(cn ih ((l.drop off).take (len*sz)) h).2) else(v,h)
  |some (.cells l .part)=>if len*sz≤(l.drop off).length then(.sl (cn ih ((l.drop off).take (len*sz)) (av b none h)).1 len sz .any,(cn ih ((l.drop off).take (len*sz)) (av b none h)).2) else(v,h)
  |_=>(v,h)
 |.sl l len sz _=>(.sl l len sz .any,h)
 |.agg cs=>(.agg (cn ih cs h).1,(cn ih cs h).2)
 |v=>(v,h)
noncomputable def aY:Nat→AV→T ah→AV×T ah
 |0,v,h=>(v,h)
 |n+1,v,h=>Jp (aY n) v h
section
variable{R:Type}
theorem sX{g:AV→T ah→(AV→T ah→R)→R}{ga:AV→T ah→AV×T ah}(hg:∀ v h c,g v h c=c (ga v h).1 (ga v h).2):∀ (l:List AV) (h:T ah) (c:List AV→T ah→R),HE g l h c=c (cn ga l h).1 (cn ga l h).2
 | [],h,c=>rfl
 |v ::l,h,c=>by
  show g v h (fun v h=>HE g l h fun r h=>c (v ::r) h)=_
  rw[hg,sX hg l]
  rfl
theorem Bq:∀ (n:Nat) (v:AV) (h:T ah) (c:AV→T ah→R),frz n v h c=c (aY n v h).1 (aY n v h).2
 |0,v,h,c=>rfl
 |n+1,v,h,c=>by
  show C8 (frz n) v h c=_
  have hL:=sX (R:=R) (Bq n)
  cases v with
  |slice b off len sz=>
   simp only[aY,Jp,C8]
   cases hb:aa b h with
   |none=>rfl
   |some B=>
    cases B with
    |cells l ck=>
     cases ck<;>simp only[takeC_eq,dropL_eq,sTCe,hL]<;>split<;>rfl
    |_=>rfl
  |agg cs=>simp only[aY,Jp,C8,hL]
  |_=>rfl
end
section
variable{P:Program}{ρ:Nat→Int}{w0:W0}{w:World}{nx:Key}
structure gC(P:Program)(ρ:Nat→Int)(w0:W0)(w:World)(nx:Key)(μ:Mu)(G:Key→Option ah)(H:T ah)(μ':Mu)(G':Key→Option ah)(H':T ah):Prop where
 le:μ.le μ'
 m:∀ b,μ' b=μ b
 M:aP P ρ w0 μ' G' nx.toNat w
 hs:HSub H' G'
 g:∀ b,aa b H=none→G' b=G b∧aa b H'=none
theorem gC.refl{μ:Mu}{G:Key→Option ah}{H:T ah}(hM:aP P ρ w0 μ G nx.toNat w)(hH:HSub H G):gC P ρ w0 w nx μ G H μ G H:=⟨μ.le_refl,fun _=>rfl,hM,hH,fun _ h=>⟨rfl,h⟩⟩
theorem gC.trans{μ μ1 μ2:Mu}{G G1 G2:Key→Option ah}{H H1 H2:T ah}(a:gC P ρ w0 w nx μ G H μ1 G1 H1)(b:gC P ρ w0 w nx μ1 G1 H1 μ2 G2 H2):gC P ρ w0 w nx μ G H μ2 G2 H2:=
 ⟨Mu.le_trans a.le b.le,fun k=>(b.m k).trans (a.m k),b.M,b.hs,fun k hk=>⟨((b.g k (a.g k hk).2).1).trans (a.g k hk).1,(b.g k (a.g k hk).2).2⟩⟩
theorem gC.kept{μ μ':Mu}{G G':Key→Option ah}{H H':T ah}(h:gC P ρ w0 w nx μ G H μ' G' H'):Kept H H' nx nx μ μ' G G':=
 ⟨fun b hb _=>(h.g b hb).1,fun b _=>h.m b,fun b hb _=>(h.g b hb).2,fe _⟩
def Mu.ajV(μ:Mu)(c:Nat)(arr:Array Value):Mu:=⟨μ.loc,fun c' i=>match μ.fz c' i with|some v=>some v|none=>if c'=c then arr[i]? else none⟩
theorem auq{μ:Mu}{G:Key→Option ah}{H:T ah}(hM:aP P ρ w0 μ G nx.toNat w)(hH:HSub H G){b:Key}{L:List AV}{ck:CK}(hb:aa b H=some (.cells L ck))(X:Option ah)(hX:X=none∨(X=some (.cells L .ro)∧ck≠.part)) :
  ∃ l arr elem f μ',μ b=some l∧w.heap[l.c]?=some (.cells arr elem f)∧gC P ρ w0 w nx μ G H μ' (nN G b X) (av b X H)∧(∀ i v,arr[i]?=some v→μ'.fz l.c i=some v)∧
   (∀ i a,L[i]?=some a→∃ v,arr[l.base+i]?=some v∧aC ρ μ' a v)∧l.base+l.ext≤arr.size∧L.length≤l.ext:=by
 have hg:=hH _ _ hb
 obtain⟨l,arr,elem,f,h1,h2,hc,hs,hl,hf,he⟩:=hM.cells hg
 have hle:μ.le (μ.ajV l.c arr):=by
  refine⟨fun _ _ h=>h,fun c i v h=>?_⟩
  show(match μ.fz c i with|some v=>some v|none=>if c=l.c then arr[i]? else none)=some v
  rw[h]
 have hold:∀ i v,μ.fz l.c i=some v→arr[i]?=some v:=by
  intro i v h
  obtain⟨EC,P2,f',e1,e2⟩:=hM.TV _ _ _ h
  rw[h2] at e1;cases e1
  exact e2
 have Ol:∀ i v,arr[i]?=some v→(μ.ajV l.c arr).fz l.c i=some v:=by
  intro i v h
  show(match μ.fz l.c i with|some v=>some v|none=>if l.c=l.c then arr[i]? else none)=some v
  cases hz:μ.fz l.c i with
  |none=>simp[h]
  |some u=>have:=hold i u hz;rw[h] at this;cases this;rfl
 refine⟨l,arr,elem,f,μ.ajV l.c arr,h1,h2,⟨hle,fun _=>rfl,?_,?_,?_⟩,Ol,fun i a ha=>?_,hs,hl⟩
 ·refine⟨?_,?_,hM.wb,?_,hM.MJ,hM.new,hM.below,?_,?_,fun c i v e=>hle.f _ _ _ (hM.zle c i v e),?_,?_,hM.dr⟩
  ·intro b' B' e
   by_cases vj:b'=b
   ·subst vj
    rw[fk] at e
    rcases hX with rfl|⟨rfl,wj⟩<;>cases e
    exact⟨l,_,h1,h2,.cells L .ro l arr elem f (fun i a ha=>let ⟨v,hv,hr⟩:=hc i a ha;⟨v,hv,hr.mono hle⟩) hs hl (fun h=>absurd rfl h) (fun _=>he wj)⟩
   ·rw[bR _ _ vj] at e
    obtain⟨l',o',e1,e2,e3⟩:=hM.nM b' B' e
    exact⟨l',o',e1,e2,e3.mono hle⟩
  ·intro b1 b2 B1 B2 l1 l2 e1 e2 m1 m2 bI
   have:∀ x B,nN G b X x=some B→∃ B',G x=some B':=by
    intro x B e
    by_cases vj:x=b
    ·subst vj;exact⟨_,hg⟩
    ·rw[bR _ _ vj] at e;exact⟨_,e⟩
   obtain⟨B1',H0⟩:=this _ _ e1
   obtain⟨B2',e2'⟩:=this _ _ e2
   exact hM.sep b1 b2 B1' B2' l1 l2 H0 e2' m1 m2 bI
  ·intro b' B' l' e m
   by_cases vj:b'=b
   ·subst vj;rw[fk] at e;rcases hX with rfl|⟨rfl,wj⟩<;>cases e;exact .inl trivial
   ·rw[bR _ _ vj] at e;exact hM.own b' B' l' e m
  ·intro c i v e
   have e2:(match μ.fz c i with|some v=>some v|none=>if c=l.c then arr[i]? else none)=some v:=e
   clear e
   cases hz:μ.fz c i with
   |some u=>rw[hz] at e2;cases e2;exact hM.TV _ _ _ hz
   |none=>
    rw[hz] at e2
    by_cases Ki:c=l.c
    ·subst Ki;simp only[if_true] at e2;exact⟨arr,elem,f,h2,e2⟩
    ·simp only[Ki,if_false] at e2;cases e2
  ·intro b' B' l' n e m u6 i hi
   by_cases vj:b'=b
   ·subst vj;rw[fk] at e;rcases hX with rfl|⟨rfl,wj⟩<;>cases e;cases u6
   ·rw[bR _ _ vj] at e
    have bI:l'.c≠l.c:=hM.sep b' b B' _ l' l e hg m h1 vj
    have:=hM.fzf b' B' l' n e m u6 i hi
    show(match μ.fz l'.c i with|some v=>some v|none=>if l'.c=l.c then arr[i]? else none)=none
    rw[this];simp[bI]
  ·intro c i v e
   have e2:(match μ.fz c i with|some v=>some v|none=>if c=l.c then arr[i]? else none)=some v:=e
   clear e
   cases hz:μ.fz c i with
   |some u=>rw[hz] at e2;cases e2;exact hM.fzo c i v hz
   |none=>
    rw[hz] at e2
    by_cases Ki:c=l.c
    ·subst Ki
     simp only[if_true] at e2
     cases ck with
     |fix=>exact .inl ((hM.own b _ l hg h1).resolve_left (by simp[ah.ro]))
     |part=>exact .inl ((hM.own b _ l hg h1).resolve_left (by simp[ah.ro]))
     |ro=>
      rcases hM.rof b L l hg h1 with h'|h'
      ·exact .inl h'
      ·have:=h' arr elem f i v h2 e2
       rw[hz] at this;cases this
    ·simp only[Ki,if_false] at e2;cases e2
  ·intro b' L' l' e m
   by_cases vj:b'=b
   ·subst vj
    have m:μ b'=some l':=m
    rw[h1] at m;cases m
    refine .inr fun EC ee ff i v ha hv=>?_
    rw[h2] at ha;cases ha
    exact Ol i v hv
   ·rw[bR _ _ vj] at e
    rcases hM.rof b' L' l' e m with h'|h'
    ·exact .inl h'
    ·exact .inr fun EC ee ff i v ha hv=>hle.f _ _ _ (h' EC ee ff i v ha hv)
 ·exact hH.set b _
 ·intro b' fb
  have bI:b'≠b:=by intro e;subst e;rw[hb] at fb;cases fb
  exact⟨bR _ _ bI,by rw[bZ _ _ _ _ bI];exact fb⟩
 ·obtain⟨v,hv,hr⟩:=hc i a ha
  exact⟨v,hv,hr.mono hle⟩
def ape(P:Program)(ρ:Nat→Int)(w0:W0)(w:World)(nx:Key)(g:AV→T ah→AV×T ah):Prop:=∀ (v:AV) (u:Value) (μ:Mu) (G:Key→Option ah) (H:T ah),aP P ρ w0 μ G nx.toNat w→HSub H G→aC ρ μ v u→
 ∃ μ' G',gC P ρ w0 w nx μ G H μ' G' (g v H).2∧aC ρ μ' (g v H).1 u
theorem mg{g:AV→T ah→AV×T ah}(hg:ape P ρ w0 w nx g):∀ (l:List AV) (us:List Value) (μ:Mu) (G:Key→Option ah) (H:T ah),aP P ρ w0 μ G nx.toNat w→HSub H G→al ρ μ l us→
  ∃ μ' G',gC P ρ w0 w nx μ G H μ' G' (cn g l H).2∧al ρ μ' (cn g l H).1 us
 | [],us,μ,G,H,hM,hH,h=>by cases h;exact⟨μ,G,gC.refl hM hH,.nil⟩
 |v ::l,us,μ,G,H,hM,hH,h=>by
  cases h with|cons _ _ u us h1 h2=>
  obtain⟨μ1,G1,f1,r1⟩:=hg v u μ G H hM hH h1
  obtain⟨μ2,G2,f2,r2⟩:=mg hg l us μ1 G1 _ f1.M f1.hs (h2.mono f1.le)
  exact⟨μ2,G2,f1.trans f2,.cons _ _ _ _ (r1.mono f2.le) r2⟩
theorem aiL{ih:AV→T ah→AV×T ah}(hi:ape P ρ w0 w nx ih):ape P ρ w0 w nx (Jp ih):=by
 intro v u μ G H hM hH hv
 unfold Jp
 split
 ·rename_i b off len sz
  have go:∀ (L:List AV) (ck:CK) (X:Option ah),(X=none∨(X=some (.cells L .ro)∧ck≠.part))→aa b H=some (.cells L ck)→len*sz≤(L.drop off).length→∃ μ1 G1 vs,gC P ρ w0 w nx μ G H μ1 G1 (av b X H)∧al ρ μ1 ((L.drop off).take (len*sz)) vs∧
    ∃ cap c o a,u=.slice (some a) len cap∧len≤cap∧(cap=0∨a=⟨c,o,none⟩)∧(∀ i v,vs[i]?=some v→μ1.fz c (o+i)=some v):=by
   intro L ck X hX hb hle
   obtain⟨l,arr,elem,f,μ',h1,h2,h3,h4,h5,h6,h7⟩:=auq hM hH hb X hX
   cases hv with|slice _ _ _ _ cap l' a hm AY hlen ha=>
   rw[h1] at hm;cases hm
   by_cases h0:len*sz=0
   ·refine⟨μ',_,[],h3,by rw[h0];simp;exact .nil,cap,l.c,l.base+off,a,rfl,hlen,ha,?_⟩
    intro i v hv;simp at hv
   ·refine⟨μ',_,(arr.toList.drop (l.base+off)).take (len*sz),h3,tD h5 (by omega) (by simp at hle;omega),cap,l.c,l.base+off,a,rfl,hlen,ha,?_⟩
    intro i v hv
    have hi:i<len*sz:=by
     rcases Dp i (len*sz) with h'|h'
     ·exact h'
     ·rw[zqo (by simp;omega)] at hv;cases hv
    rw[List.getElem?_take_of_lt hi,List.getElem?_drop] at hv
    exact h4 _ _ (by simpa using hv)
  have fin:∀ (L:List AV) (ck:CK) (H1:T ah) (μ1:Mu) (G1:Key→Option ah) (vs:List Value),len*sz≤(L.drop off).length→gC P ρ w0 w nx μ G H μ1 G1 H1→al ρ μ1 ((L.drop off).take (len*sz)) vs→
    (∃ cap c o a,u=.slice (some a) len cap∧len≤cap∧(cap=0∨a=⟨c,o,none⟩)∧(∀ i v,vs[i]?=some v→μ1.fz c (o+i)=some v))→
    ∃ μ' G',gC P ρ w0 w nx μ G H μ' G' (cn ih ((L.drop off).take (len*sz)) H1).2∧aC ρ μ' (.sl (cn ih ((L.drop off).take (len*sz)) H1).1 len sz .any) u:=by
   intro L ck H1 μ1 G1 vs hle f1 r1 hx
   obtain⟨cap,c,o,a,rfl,hlen,ha,hf⟩:=hx
   obtain⟨μ2,G2,f2,r2⟩:=mg hi _ _ μ1 G1 H1 f1.M f1.hs r1
   refine⟨μ2,G2,f1.trans f2,.sl _ len sz .any cap c o a vs r2 ?_ hlen ha (fun i v hv=>f2.le.f _ _ _ (hf i v hv)) trivial⟩
   rw[r2.length,← r1.length,zqy]
   omega
  split
  ·rename_i L hb
   split
   ·rename_i hle
    obtain⟨μ1,G1,vs,f1,r1,hx⟩:=go L .fix _ (.inr ⟨rfl,by simp⟩) hb hle
    exact fin L .fix _ μ1 G1 vs hle f1 r1 hx
   ·exact⟨μ,G,gC.refl hM hH,hv⟩
  ·rename_i L hb
   split
   ·rename_i hle
    obtain⟨μ1,G1,vs,f1,r1,hx⟩:=go L .ro _ (.inr ⟨rfl,by simp⟩) hb hle
    -- the row was only read before: the heap stays as it was
    have f1':gC P ρ w0 w nx μ G H μ1 G1 H:=⟨f1.le,f1.m,f1.M,fun b' B' e=>by
      refine f1.hs b' B' ?_
      by_cases vj:b'=b
      ·subst vj;rw[hb] at e;cases e;rw[gTSm]
      ·rw[bZ _ _ _ _ vj];exact e,fun b' fb=>⟨(f1.g b' fb).1,fb⟩⟩
    exact fin L .ro _ μ1 G1 vs hle f1' r1 hx
   ·exact⟨μ,G,gC.refl hM hH,hv⟩
  ·rename_i L hb
   split
   ·rename_i hle
    obtain⟨μ1,G1,vs,f1,r1,hx⟩:=go L .part none (.inl rfl) hb hle
    exact fin L .part _ μ1 G1 vs hle f1 r1 hx
   ·exact⟨μ,G,gC.refl hM hH,hv⟩
  ·exact⟨μ,G,gC.refl hM hH,hv⟩
 ·rename_i l len sz fl
  cases hv with|sl _ _ _ _ cap c o a vs hr hn hl ha hf hg=>
  exact⟨μ,G,gC.refl hM hH,.sl _ _ _ _ cap c o a vs hr hn hl ha hf trivial⟩
 ·rename_i cs
  cases hv with|agg _ vs hr=>
  obtain⟨μ1,G1,f1,r1⟩:=mg hi _ _ μ G H hM hH hr
  exact⟨μ1,G1,f1,.agg _ _ r1⟩
 ·exact⟨μ,G,gC.refl hM hH,hv⟩
theorem yA:∀ (n:Nat),ape P ρ w0 w nx (aY n)
 |0=>fun v u μ G H hM hH hv=>⟨μ,G,gC.refl hM hH,hv⟩
 |n+1=>aiL (yA n)
theorem yK(g:AV→T ah→AV×T ah):∀ (l:List AV) (H:T ah),(cn g l H).1.length=l.length
 | [],H=>rfl
 |v ::l,H=>by simp[cn,yK g l]
end
end Go.Sx
/-
 SX: append. No condition.
-/
namespace Go.Sx
open Go.RowKit
theorem Qc(qO:Nat):∀ (r c:Nat),c<qO→Builtin.growBy qO r c≤qO+(qO+768) / 4
 |0,c,h=>by simp[Builtin.growBy];omega
 |r+1,c,h=>by
  simp only[Builtin.growBy]
  rw[if_neg (by omega)]
  by_cases h':c+(c+768) / 4<qO
  ·exact Qc qO r _ h'
  ·have:Builtin.growBy qO r (c+(c+768) / 4)=c+(c+768) / 4:=by
    cases r with
    |zero=>rfl
    |succ r=>simp only[Builtin.growBy];rw[if_pos (by omega)]
   rw[this]
   omega
theorem ajn{qO cap:Nat}(h:cap<qO):Builtin.nextslicecap qO cap≤2*qO+1000:=by
 unfold Builtin.nextslicecap
 split
 ·omega
 ·split
  ·omega
  ·have:=Qc qO 4 cap h
   omega
section
variable{P:Program}{ρ:Nat→Int}{w0:W0}{w:World}{μ:Mu}{G:Key→Option ah}{nx:Key}{orc:gD}{nt:Nat}{tm:T AV}{H:T ah}{ev:Operand→Value}
structure apC(P:Program)(t u e:TypeId)(i:TypeInfo)(z:Value):Prop where
 ht:P.underlying t=some (.slice e)
 hu:(∃ e',P.underlying u=some (.slice e'))∨P.underlying u=some .string
 hi:P.info? e=some i
 hz:i.zero=some z
 pos:0<i.size
 zs:z.cells.size=i.size
 by_:i.bytes≤65536
theorem gx{t u e:TypeId}{i:TypeInfo}{z:Value}(hT:apC P t u e i z)(ty:TypeId){base:Option Addr}{sLen sCap n:Nat}{x:Value}{us:Array Value}(hn:(Builtin.lenOf x).run P w=.ok n w)
  (hle:sLen+n≤sCap) (hc:(Builtin.firstCells i.size n x).run P w=.ok us w) :
  (Builtin.append_ #[t,u] ty #[.slice base sLen sCap,x]).run P w =
   (match base with|some a=>(storeCells (a.add (sLen*i.size)) us.toList).run P w|none=>.ok () w).andThen fun _ w'=>.ok (.slice base (sLen+n) sCap) w':=by
 rcases hT.hu with⟨e',h⟩|h
 all_goals
  simp only[Builtin.append_,List.getElem?_toArray,List.getElem?_cons_zero,List.getElem?_cons_succ,lF,ab hT.ht,iZ,aT hT.hi,ab h,qi,Ow,if_false,hn,hle,if_true,Bool.not_false,hc]
  cases base<;>simp
theorem run_append_grow{t u e:TypeId}{i:TypeInfo}{z:Value}(hT:apC P t u e i z)(ty:TypeId){base:Option Addr}{sLen sCap n:Nat}{x:Value}{us os:Array Value}(hn:(Builtin.lenOf x).run P w=.ok n w)
  (Uj:sCap<sLen+n) (hsm:sLen+n≤1048576) (hc:∀ d,(Builtin.firstCells i.size n x).run P {w with drawn:=d}=.ok us {w with drawn:=d})
  (ho:∀ d,(Builtin.firstCells i.size sLen (.slice base sLen sCap)).run P {w with drawn:=d}=.ok os {w with drawn:=d}) :
  ∃ cap,sLen+n≤cap∧(Builtin.append_ #[t,u] ty #[.slice base sLen sCap,x]).run P w =
   .ok (.slice (some ⟨w.heap.size,0,none⟩) (sLen+n) cap) ({w with drawn:=w.drawn+1}.alloc (.cells (os++us++Builtin.zeroCells z.cells (cap-(sLen+n))) e)):=by
 refine⟨(sLen+n)+w.tape w.drawn (.appendCap (sLen+n) sCap e)%(2^63-(sLen+n)),by omega,?_⟩
 have h1:¬ (sLen+n≤sCap):=by omega
 have h2:¬ (((sLen+n:Nat):Int)>IntKind.i64.max∧(False∨i.bytes=0)):=by
  have:IntKind.i64.max=9223372036854775807:=by decide
  rw[this]
  omega
 have h3:¬ (Builtin.nextslicecap (sLen+n) sCap*i.bytes>2^48):=by
  have a:=ajn Uj
  have:Builtin.nextslicecap (sLen+n) sCap*i.bytes≤2098152*65536:=Nat.mul_le_mul (by omega) hT.by_
  omega
 have hch:(choose (.appendCap (sLen+n) sCap e)).run P w=.ok ((sLen+n)+w.tape w.drawn (.appendCap (sLen+n) sCap e)%(2^63-(sLen+n))) {w with drawn:=w.drawn+1}:=by
  simp[Question.forced,Question.cut]
 have Rj:=ho (w.drawn+1)
 have hc':=hc (w.drawn+1)
 rcases hT.hu with⟨e',h⟩|h
 all_goals
  simp only[Builtin.append_,List.getElem?_toArray,List.getElem?_cons_zero,List.getElem?_cons_succ,lF,ab hT.ht,iZ,aT hT.hi,ab h,qi,Ow,if_false,hn,h1,Bool.not_false,iY hT.hi]
  rw[if_neg h2]
  simp only[lF,iY hT.hi,iZ]
  rw[if_neg h3]
  simp only[lF,hch,iZ,iY hT.hi,run_askRoom,Rj,if_true,hc',mo hT.hi hT.hz,jH,qi]
structure MH(P:Program)(ρ:Nat→Int)(μ:Mu)(w:World)(sz:Nat)(x:Value)(new:List AV)(m:Nat)(us:Array Value):Prop where
 hn:(Builtin.lenOf x).run P w=.ok m w
 hc:∀ d,(Builtin.firstCells sz m x).run P {w with drawn:=d}=.ok us {w with drawn:=d}
 hr:al ρ μ new us.toList
 hl:new.length=m*sz
theorem MH.now{sz:Nat}{x:Value}{new:List AV}{m:Nat}{us:Array Value}(h:MH P ρ μ w sz x new m us):(Builtin.firstCells sz m x).run P w=.ok us w:=h.hc w.drawn
theorem BN(z:Array Value)(n:Nat):(Builtin.zeroCells z n).size=n*z.size:=by simp[Builtin.zeroCells]
def Mu.mark(μ:Mu)(k:Key)(c base ext:Nat)(arr:Array Value):Mu:=⟨nN μ.loc k (some ⟨c,base,ext⟩),fun c' i=>match μ.fz c' i with|some v=>some v|none=>if c'=c∧i<base then arr[i]? else none⟩
theorem Mu.jd(μ:Mu)(k:Key)(c base ext:Nat)(arr:Array Value):(μ.mark k c base ext arr) k=some ⟨c,base,ext⟩:=fk _ _ _
theorem Mu.j5(μ:Mu){k b:Key}(c base ext:Nat)(arr:Array Value)(h:b≠k):(μ.mark k c base ext arr) b=μ b:=bR _ _ h
theorem aP.mark{w':World}{n n':Nat}(h:aP P ρ w0 μ G n w)(k:Key)(c base ext:Nat){arr:Array Value}{elem:TypeId}(hk:μ k=none)(hw:Touch w w' c)(ho:w'.heap[c]?=some (.cells arr elem (0,0)))
  (hs:base+ext≤arr.size) (DD:∀ b B' l',G b=some B'→μ b=some l'→l'.c≠c) (hold:∀ i v,μ.fz c i=some v→arr[i]?=some v∧i<base) (nP:w0.heap.size≤c) (hn:n≤n') (MI:k.toNat<n') :
  μ.le (μ.mark k c base ext arr)∧aP P ρ w0 (μ.mark k c base ext arr) (nN G k (some .tok)) n' w'∧(∀ i v,i<base→arr[i]?=some v→(μ.mark k c base ext arr).fz c i=some v):=by
 have ar1:∀ c' i,(μ.mark k c base ext arr).fz c' i=(match μ.fz c' i with|some v=>some v|none=>if c'=c∧i<base then arr[i]? else none):=fun _ _=>rfl
 have hle:μ.le (μ.mark k c base ext arr):=by
  refine⟨fun b l e=>?_,fun c' i v e=>by rw[ar1,e]⟩
  by_cases hb:b=k
  ·subst hb;rw[hk] at e;cases e
  ·rw[Mu.j5 _ _ _ _ _ hb];exact e
 have hlc:c<w'.heap.size:=by
  rcases Dp c w'.heap.size with h'|h'
  ·exact h'
  ·rw[Tx h'] at ho;cases ho
 refine⟨hle,⟨?_,?_,?_,?_,?_,?_,hw.below h.below h.below.size nP,?_,?_,fun c' i v e=>hle.f _ _ _ (h.zle c' i v e),?_,?_,Nat.le_trans h.dr hw.dr⟩,?_⟩
 ·intro b B' e
  by_cases hb:b=k
  ·subst hb
   rw[fk] at e
   cases e
   exact⟨_,_,Mu.jd _ _ _ _ _ _,ho,.tok _ arr elem hs⟩
  ·rw[bR _ _ hb] at e
   obtain⟨l',o',h1,h2,h3⟩:=h.nM b B' e
   refine⟨l',o',by rw[Mu.j5 _ _ _ _ _ hb];exact h1,?_,h3.mono hle⟩
   rw[hw.other l'.c (DD b B' l' e h1) (h.wb b l' h1)]
   exact h2
 ·intro b b' B1 B2 l1 l2 e1 e2 m1 m2 bI
  by_cases hb:b=k
  ·subst hb
   rw[Mu.jd] at m1;cases m1
   have fb:b'≠b:=fun e=>bI e.symm
   rw[bR _ _ fb] at e2
   rw[Mu.j5 _ _ _ _ _ fb] at m2
   exact fun e=>DD b' B2 l2 e2 m2 e.symm
  ·rw[bR _ _ hb] at e1
   rw[Mu.j5 _ _ _ _ _ hb] at m1
   by_cases fb:b'=k
   ·subst fb
    rw[Mu.jd] at m2;cases m2
    exact DD b B1 l1 e1 m1
   ·rw[bR _ _ fb] at e2
    rw[Mu.j5 _ _ _ _ _ fb] at m2
    exact h.sep b b' B1 B2 l1 l2 e1 e2 m1 m2 bI
 ·intro b l' e
  by_cases hb:b=k
  ·subst hb;rw[Mu.jd] at e;cases e;exact hlc
  ·rw[Mu.j5 _ _ _ _ _ hb] at e;exact LO (h.wb b l' e) hw.size
 ·intro b B' l' e m
  by_cases hb:b=k
  ·subst hb;rw[Mu.jd] at m;cases m;exact .inr nP
  ·rw[bR _ _ hb] at e;rw[Mu.j5 _ _ _ _ _ hb] at m;exact h.own b B' l' e m
 ·intro b hb
  obtain⟨ext,he⟩:=h.MJ b hb
  exact⟨ext,hle.l _ _ he⟩
 ·intro b l' e
  by_cases hb:b=k
  ·subst hb;exact MI
  ·rw[Mu.j5 _ _ _ _ _ hb] at e;exact LO (h.new b l' e) hn
 ·intro c' i v e
  rw[ar1] at e
  cases hz:μ.fz c' i with
  |some u=>
   rw[hz] at e;cases e
   by_cases hc:c'=c
   ·subst hc;exact⟨arr,elem,(0,0),ho,(hold i v hz).1⟩
   ·obtain⟨EC,P2,f',h1,h2⟩:=h.TV c' i v hz
    have bN:c'<w.heap.size:=by
     rcases Dp c' w.heap.size with h'|h'
     ·exact h'
     ·rw[Tx h'] at h1;cases h1
    exact⟨EC,P2,f',by rw[hw.other c' hc bN];exact h1,h2⟩
  |none=>
   rw[hz] at e
   simp only at e
   by_cases hc:c'=c∧i<base
   ·rw[if_pos hc] at e;rw[hc.1];exact⟨arr,elem,(0,0),ho,e⟩
   ·rw[if_neg hc] at e;cases e
 ·intro b B' l' n e m u6 i hi
  rw[ar1]
  by_cases hb:b=k
  ·subst hb
   rw[fk] at e;cases e
   rw[Mu.jd] at m;cases m
   simp only[ah.lo,cS] at u6;subst u6
   cases hz:μ.fz c i with
   |some u=>exact absurd (hold i u hz).2 (by show ¬ i<base;exact Nat.not_lt.2 hi)
   |none=>
    have:¬ (c=c∧i<base):=fun h=>absurd h.2 (Nat.not_lt.2 hi)
    show(if c=c∧i<base then arr[i]? else none)=none
    rw[if_neg this]
  ·rw[bR _ _ hb] at e;rw[Mu.j5 _ _ _ _ _ hb] at m
   have bI:=DD b B' l' e m
   rw[h.fzf b B' l' n e m u6 i hi]
   simp[bI]
 ·intro c' i v e
  rw[ar1] at e
  cases hz:μ.fz c' i with
  |some u=>rw[hz] at e;cases e;exact h.fzo c' i v hz
  |none=>
   rw[hz] at e
   simp only at e
   by_cases hc:c'=c∧i<base
   ·rw[hc.1];exact .inl nP
   ·rw[if_neg hc] at e;cases e
 ·intro b L l' e m
  by_cases hb:b=k
  ·subst hb;rw[Mu.jd] at m;cases m;exact .inl nP
  ·rw[bR _ _ hb] at e;rw[Mu.j5 _ _ _ _ _ hb] at m
   rcases h.rof b L l' e m with h1|h1
   ·exact .inl h1
   ·refine .inr fun EC ee f i v ha hv=>hle.f _ _ _ (h1 EC ee f i v ?_ hv)
    rw[← hw.other l'.c (DD b _ l' e m) (h.wb b l' m)];exact ha
 ·intro i v hi hv
  rw[ar1]
  cases hz:μ.fz c i with
  |some u=>have:=(hold i u hz).1;rw[hv] at this;cases this;rfl
  |none=>simp[hi,hv]
theorem ajo(c base ext:Nat)(arr:Array Value)(B B':Option ah):Kept H (av nx B' H) nx nx.succ μ (μ.mark nx c base ext arr) G (nN G nx B):=by
 have hs:=kTSu nx
 exact⟨fun b _ hl=>bR _ _ (ne_of_lt hl),fun b hl=>Mu.j5 _ _ _ _ _ (ne_of_lt hl),fun b hb hl=>by rw[bZ _ _ _ _ (ne_of_lt hl)];exact hb,by omega⟩
theorem Uk(hM:aP P ρ w0 μ G nx.toNat w){t u e:TypeId}{i:TypeInfo}{z:Value}(hT:apC P t u e i z){L:List AV}{vs:Array Value}(hL:al ρ μ L vs.toList){len cap:Nat}(hlen:vs.size=len*i.size)(AY:len≤cap) :
  ∃ μ',μ.le μ'∧aP P ρ w0 μ' (nN G nx (some .tok)) nx.succ.toNat ({w with drawn:=w.drawn+1}.alloc (.cells (vs++Builtin.zeroCells z.cells (cap-len)) e))∧
   aC ρ μ' (.sl L len i.size (.tok nx)) (.slice (some ⟨w.heap.size,0,none⟩) len cap)∧(∀ (B B':Option ah) (H:T ah) (G:Key→Option ah),Kept H (av nx B' H) nx nx.succ μ μ' G (nN G nx B)):=by
 have hs:=kTSu nx
 have hk:=hM.mQ
 have hzs:(Builtin.zeroCells z.cells (cap-len)).size=(cap-len)*i.size:=by rw[BN,hT.zs]
 obtain⟨h1,h2,h3⟩:=(hM.drawn (w.drawn+1) (Nat.le_succ _)).mark (w':={w with drawn:=w.drawn+1}.alloc (.cells (vs++Builtin.zeroCells z.cells (cap-len)) e)) nx w.heap.size (len*i.size) ((cap-len)*i.size) (arr:=vs++Builtin.zeroCells z.cells (cap-len)) (elem:=e) hk
  (Touch.alloc _ _) (by show(w.heap.push _)[w.heap.size]?=_;simp) (by rw[Array.size_append,hzs,hlen];exact fe _)
  (fun b B' l' _ m=>Nat.ne_of_lt (hM.wb b l' m)) (fun j v hv=>by rw[hM.ajp j] at hv;cases hv) hM.below.size (n':=nx.succ.toNat) (by omega) (by omega)
 refine⟨_,h1,h2,?_,fun B B' H G=>ajo _ _ _ _ B B'⟩
 refine .sl L len i.size _ cap w.heap.size 0 _ vs.toList (hL.mono h1) ?_ AY (.inr rfl) ?_ ?_
 ·rw[hL.length];simpa using hlen
 ·intro j v hv
  have hj:j<vs.size:=by
   rcases Dp j vs.size with h'|h'
   ·exact h'
   ·rw[zqo (by simpa using h')] at hv;cases hv
  rw[Nat.zero_add]
  refine h3 j v (by omega) ?_
  rw[Array.getElem?_append_left hj]
  simpa using hv
 ·show _=some (⟨w.heap.size,0+len*i.size,(cap-len)*i.size⟩:Loc)
  rw[Nat.zero_add]
  exact Mu.jd _ _ _ _ _ _
theorem HY(hM:aP P ρ w0 μ G nx.toNat w){t u e:TypeId}{i:TypeInfo}{z:Value}(hT:apC P t u e i z){L:List AV}{vs:Array Value}(hL:al ρ μ L vs.toList){len cap:Nat}(hlen:vs.size=len*i.size)(AY:len≤cap) :
  ∃ μ',μ.le μ'∧aP P ρ w0 μ' (nN G nx (some (.cells L .part))) nx.succ.toNat ({w with drawn:=w.drawn+1}.alloc (.cells (vs++Builtin.zeroCells z.cells (cap-len)) e))∧
   aC ρ μ' (.slice nx 0 len i.size) (.slice (some ⟨w.heap.size,0,none⟩) len cap)∧(∀ (B B':Option ah) (H:T ah) (G:Key→Option ah),Kept H (av nx B' H) nx nx.succ μ μ' G (nN G nx B)):=by
 have hs:=kTSu nx
 have hk:=hM.mQ
 have hzs:(Builtin.zeroCells z.cells (cap-len)).size=(cap-len)*i.size:=by rw[BN,hT.zs]
 have tL:(vs++Builtin.zeroCells z.cells (cap-len)).size=cap*i.size:=by
  rw[Array.size_append,hzs,hlen,← Nat.add_mul];congr 1;omega
 have hLl:L.length=len*i.size:=by rw[hL.length];simpa using hlen
 have hll:len*i.size≤cap*i.size:=Nat.mul_le_mul_right _ AY
 have hle:μ.le (μ.put nx ⟨w.heap.size,0,cap*i.size⟩):=Mu.tM (.inl hk)
 have hb:C9 P ρ (μ.put nx ⟨w.heap.size,0,cap*i.size⟩) (.cells L .part) ⟨w.heap.size,0,cap*i.size⟩ (.cells (vs++Builtin.zeroCells z.cells (cap-len)) e (0,0)):=by
  refine .cells L .part _ _ e (0,0) ?_ (by rw[tL];simp) (by show L.length≤cap*i.size;omega) (fun _=>rfl) (fun h=>absurd rfl h)
  intro j a ha
  obtain⟨v,hv,hr⟩:=hL.get j a ha
  refine⟨v,?_,hr.mono hle⟩
  have hj:j<vs.size:=by
   rcases Dp j vs.size with h'|h'
   ·exact h'
   ·rw[zqo (by simpa using h')] at hv;cases hv
  show(vs++_)[0+j]?=some v
  rw[Nat.zero_add,Array.getElem?_append_left hj]
  simpa using hv
 obtain⟨g1,g2⟩:=(hM.drawn (w.drawn+1) (Nat.le_succ _)).alloc nx (.cells L .part) (.cells (vs++Builtin.zeroCells z.cells (cap-len)) e) (cap*i.size) hk hb (nx':=nx.succ.toNat) (by omega) (by omega)
 refine⟨_,g1,g2,?_,fun B B' H G=>w9 _ _ _⟩
 exact .slice nx 0 len i.size cap _ _ (Mu.dq _ _ _) (by simp) AY (.inr (by simp))
theorem MK(hM:aP P ρ w0 μ G nx.toNat w)(hH:HSub H G){t u e:TypeId}{i:TypeInfo}{z:Value}(hT:apC P t u e i z)(ty:TypeId){s:AV}{sv xv:Value}(hs:aC ρ μ s sv){new:List AV}{m:Nat}{us:Array Value}
  (hx:MH P ρ μ w i.size xv new m us) {a:AV} {H':T ah} {nx':Key} (h:appendTo i.size s new m H nx=.val a H' nx') :
  ∃ v w' μ' G',(Builtin.append_ #[t,u] ty #[sv,xv]).run P w=.ok v w'∧aC ρ μ' a v∧μ.le μ'∧aP P ρ w0 μ' G' nx'.toNat w'∧HSub H' G'∧Kept H H' nx nx' μ μ' G G':=by
 have hss:=kTSu nx
 have Ka:us.size=m*i.size:=by have:=hx.hr.length;rw[hx.hl] at this;simpa using this.symm
 have ML:=hT.pos
 unfold appendTo at h
 split at h
 ·-- nothing there
  cases hs
  cases Lc:Nat.beq m 0 with
  |true=>
   rw[Lc] at h
   simp only[cond_true,OR.val.injEq] at h
   obtain⟨rfl,rfl,rfl⟩:=h
   have hm:=ml Lc
   subst hm
   refine⟨.slice none 0 0,w,μ,G,?_,.nils,μ.le_refl,hM,hH,Kept.refl _ _ _ _⟩
   rw[gx hT ty (base:=none) (sLen:=0) (sCap:=0) hx.hn (fe _) hx.now]
   rfl
  |false=>
   rw[Lc] at h
   simp only[cond_false] at h
   have aC9:m≠0:=by intro e;subst e;cases Lc
   cases hms:Nat.ble m 1048576 with
   |false=>rw[hms] at h;cases h
   |true=>
    rw[hms] at h
    rw[Nat.ble_eq] at hms
    simp only[cond_true,sTCe,OR.val.injEq] at h
    obtain⟨rfl,rfl,rfl⟩:=h
    obtain⟨cap,AY,ch⟩:=run_append_grow (P:=P) (w:=w) hT ty (base:=none) (sLen:=0) (sCap:=0) (os:=#[]) hx.hn (by omega) (by omega) hx.hc (by intro d;rfl)
    simp only[Nat.zero_add] at AY ch
    obtain⟨μ',g1,g2,g3,g4⟩:=HY hM hT hx.hr Ka AY
    refine⟨_,_,_,_,ch,g3,g1,?_,hH.set nx _,g4 _ _ _ _⟩
    have:(#[]:Array Value)++us=us:=by simp
    rw[this]
    exact g2
 ·-- a row ay6 is not written any more
  rename_i L len Ff fl
  cases Lc:Nat.beq m 0 with
  |true=>
   rw[Lc] at h
   simp only[cond_true,OR.val.injEq] at h
   obtain⟨rfl,rfl,rfl⟩:=h
   have hm:=ml Lc
   subst hm
   have hus:us=#[]:=by apply Array.eq_empty_of_size_eq_zero;simpa using Ka
   subst hus
   have hs0:=hs
   cases hs with|sl _ _ _ _ cap c o ad vs ta hn hle kP hf hg=>
   refine⟨.slice (some ad) len cap,w,μ,G,?_,hs0,μ.le_refl,hM,hH,Kept.refl _ _ _ _⟩
   rw[gx hT ty (base:=some ad) (sLen:=len) (sCap:=cap) hx.hn (by omega) hx.now]
   simp[storeCells]
  |false=>
   rw[Lc] at h
   simp only[cond_false] at h
   have aC9:m≠0:=by intro e;subst e;cases Lc
   cases kV:(Nat.beq i.size Ff&&Nat.ble (len+m) 1048576&&new.all AV.aK) with
   |false=>rw[kV] at h;cases h
   |true=>
    rw[kV] at h
    simp only[cond_true] at h
    simp only[iE,Nat.ble_eq] at kV
    obtain⟨⟨MM,hsm⟩,ajq⟩:=kV
    have MM:=ml MM
    subst MM
    split at h
    ·cases h
    ·rename_i b
     split at h
     ·rename_i aDc
      simp only[appC_eq,sTCe,OR.val.injEq] at h
      obtain⟨rfl,rfl,rfl⟩:=h
      cases hs with|sl _ _ _ _ cap c o ad vs ta hn hle kP hf hg=>
      have hg:μ b=some ⟨c,o+len*i.size,(cap-len)*i.size⟩:=hg
      have hgb:=hH _ _ aDc
      have hvl:=ta.length
      obtain⟨lb,ob,q1,q2,q3⟩:=hM.nM b _ hgb
      rw[hg] at q1;cases q1
      cases q3 with|tok _ arr elem hsb=>
      have hsb:o+len*i.size+(cap-len)*i.size≤arr.size:=hsb
      have q2:w.heap[c]?=some (.cells arr elem (0,0)):=q2
      have hM1:aP P ρ w0 μ (nN G b none) nx.toNat w:=hM.sub (fun b' B' e'=>by
       by_cases hb:b'=b
       ·subst hb;rw[fk] at e';cases e'
       ·rw[bR _ _ hb] at e';exact e')
      have ne:∀ b',aa b' H=none→b'≠b:=fun b' h0 e0=>by rw[e0,aDc] at h0;cases h0
      have MN:∀ (μ':Mu) x y,(∀ b':Key,b'.toNat<nx.toNat→μ' b'=μ b')→Kept H (av nx y (av b none H)) nx nx.succ μ μ' G (nN (nN G b none) nx x):=by
       intro μ' x y ig
       exact⟨fun b' fb bN=>by rw[bR _ _ (ne_of_lt bN),bR _ _ (ne b' fb)],ig,
        fun b' fb bN=>by rw[bZ _ _ _ _ (ne_of_lt bN),bZ _ _ _ _ (ne b' fb)];exact fb,by omega⟩
      have Qd:al ρ μ (L++new) (vs++us.toList):=ta.append hx.hr
      by_cases hlm:len+m≤cap
      ·-- in place, behind sA end
       have kP:ad=⟨c,o,none⟩:=kP.resolve_left (by omega)
       subst kP
       have avy:=EH hx.hr ajq
       have aPS:(cap-len)*i.size=cap*i.size-len*i.size:=Nat.mul_sub_right_distrib _ _ _
       have hmul:(len+m)*i.size≤cap*i.size:=Nat.mul_le_mul_right _ hlm
       have BA:(len+m)*i.size=len*i.size+m*i.size:=Nat.add_mul _ _ _
       have hlc:len*i.size≤cap*i.size:=Nat.mul_le_mul_right _ hle
       obtain⟨w',e1,e2,e3,e4⟩:=mR P c (o+len*i.size) elem us.toList 0 w arr q2 (by simp[Ka];omega) avy
       have nP:w0.heap.size≤c:=(hM.own b _ _ hgb hg).resolve_left (by simp[ah.ro])
       have ar4:∀ j v,μ.fz c j=some v→arr[j]?=some v∧j<o+len*i.size:=by
        intro j v hj
        constructor
        ·obtain⟨EC,P2,f',x1,x2⟩:=hM.TV _ _ _ hj
         rw[q2] at x1;cases x1;exact x2
        ·rcases Dp j (o+len*i.size) with h'|h'
         ·exact h'
         ·have:=hM.fzf b _ _ (o+len*i.size) hgb hg rfl j h'
          rw[this] at hj;cases hj
       have aDd:(cap-(len+m))*i.size=cap*i.size-(len+m)*i.size:=Nat.mul_sub_right_distrib _ _ _
       obtain⟨g1,g2,g3⟩:=hM1.mark (w':=w') nx c (o+(len+m)*i.size) ((cap-(len+m))*i.size) hM.mQ e2 e4 (by rw[lq];omega)
        (fun b' B' l' gg mm=>by
         by_cases vj:b'=b
         ·subst vj;rw[fk] at gg;cases gg
         ·rw[bR _ _ vj] at gg
          exact hM.sep b' b B' _ l' _ gg hgb mm hg vj)
        (fun j v hj=>by
         obtain⟨y1,y2⟩:=ar4 j v hj
         refine⟨?_,by omega⟩
         rw[il _ _ _ _ (by simp[Ka];omega),if_neg (by omega)]
         exact y1) nP (n':=nx.succ.toNat) (by omega) (by omega)
       refine⟨.slice (some ⟨c,o,none⟩) (len+m) cap,w',_,_,?_,?_,g1,g2,(hH.set b none).set nx _,MN _ _ _ (fun b' bN=>Mu.j5 _ _ _ _ _ (ne_of_lt bN))⟩
       ·rw[gx hT ty (base:=some ⟨c,o,none⟩) hx.hn hlm hx.now]
        simp only[mS,e1,iZ]
       ·refine .sl _ _ _ _ cap c o _ (vs++us.toList) (Qd.mono g1) ?_ hlm (.inr rfl) ?_ ?_
        ·rw[zqf,hn,hx.hl,BA]
        ·intro j v hj
         by_cases hj1:j<vs.length
         ·rw[List.getElem?_append_left hj1] at hj
          exact g1.f _ _ _ (hf j v hj)
         ·rw[List.getElem?_append_right (by omega)] at hj
          have aR:j-vs.length<us.size:=by
           rcases Dp (j-vs.length) us.size with h'|h'
           ·exact h'
           ·rw[zqo (by simpa using h')] at hj;cases hj
          refine g3 _ _ (by omega) ?_
          rw[il _ _ _ _ (by simp[Ka];omega),if_pos (by simp;omega)]
          rw[← hj];congr 1;omega
        ·exact Mu.jd _ _ _ _ _ _
      ·-- a new row
       have BP:∀ d,(Builtin.firstCells i.size len (.slice (some ad) len cap)).run P {w with drawn:=d}=.ok vs.toArray {w with drawn:=d}:=by
        intro d
        simp only[Builtin.firstCells]
        by_cases h0:len=0
        ·subst h0
         have:vs=[]:=TW (by omega)
         subst this
         simp[loadCells,loadCellsFrom]
        ·have kP:ad=⟨c,o,none⟩:=kP.resolve_left (by omega)
         subst kP
         rw[K5 (hM.ar5 d) hf (by omega),P8 (by omega)]
       obtain⟨aza,Qe,ch⟩:=run_append_grow (P:=P) (w:=w) hT ty (base:=some ad) hx.hn (by omega) hsm hx.hc BP
       have RW:al ρ μ (L++new) (vs.toArray++us).toList:=by simpa using Qd
       have apD:(vs.toArray++us).size=(len+m)*i.size:=by
        rw[Array.size_append,Ka,Nat.add_mul];simp;omega
       obtain⟨μ',g1,g2,g3,g4⟩:=Uk hM1 hT RW apD Qe
       refine⟨_,_,_,_,ch,g3,g1,g2,(hH.set b none).set nx _,MN _ _ _ (fun b' bN=>(g4 none none H G).m b' bN)⟩
     ·cases h
 ·rename_i b off len Ff
  cases kV:(Nat.beq i.size Ff&&Nat.ble (len+m) 1048576&&new.all AV.aK) with
  |false=>rw[kV] at h;cases h
  |true=>
   rw[kV] at h
   simp only[cond_true] at h
   simp only[iE,Nat.ble_eq] at kV
   obtain⟨⟨MM,hsm⟩,ajq⟩:=kV
   have MM:=ml MM
   subst MM
   have hs0:=hs
   cases hs with|slice _ _ _ _ cap l ad ig AY hlen kP=>
   have avy:=EH hx.hr ajq
   -- a new row
   have aG4:∀ (L:List AV) (ck:CK),aa b H=some (.cells L ck)→cap<len+m→len*i.size≤(L.drop off).length→
     ∃ v w' μ' G',(Builtin.append_ #[t,u] ty #[.slice (some ad) len cap,xv]).run P w=.ok v w'∧aC ρ μ' (.slice nx 0 (len+m) i.size) v∧μ.le μ'∧
      aP P ρ w0 μ' G' nx.succ.toNat w'∧HSub (av nx (some (.cells ((cn (aY 9999) ((L.drop off).take (len*i.size)) H).1++new) .part)) (cn (aY 9999) ((L.drop off).take (len*i.size)) H).2) G'∧Kept H (av nx (some (.cells ((cn (aY 9999) ((L.drop off).take (len*i.size)) H).1++new) .part)) (cn (aY 9999) ((L.drop off).take (len*i.size)) H).2) nx nx.succ μ μ' G G':=by
    intro L ck hL Uj hle
    have hg:=hH _ _ hL
    obtain⟨l',arr,elem,fz,k1,k2,k3,k4,k5,k7⟩:=hM.cells hg
    rw[ig] at k1;cases k1
    have BP:∀ d,(Builtin.firstCells i.size len (.slice (some ad) len cap)).run P {w with drawn:=d}=.ok ((arr.toList.drop (l.base+off)).take (len*i.size)).toArray {w with drawn:=d}:=by
     intro d
     simp only[Builtin.firstCells]
     by_cases h0:len=0
     ·subst h0;simp[loadCells,loadCellsFrom]
     ·have kP:ad=⟨l.c,l.base+off,none⟩:=kP.resolve_left (by omega)
      subst kP
      refine ja P {w with drawn:=d} l.c (l.base+off) arr elem fz k2 (len*i.size) ?_
      simp at hle
      have:0<len*i.size:=Nat.mul_pos (by omega) ML
      omega
    have ta:al ρ μ ((L.drop off).take (len*i.size)) ((arr.toList.drop (l.base+off)).take (len*i.size)):=by
     by_cases h0:len=0
     ·subst h0;simp;exact .nil
     ·have:0<len*i.size:=Nat.mul_pos (by omega) ML
      simp at hle
      exact tD k3 (by omega) (by omega)
    obtain⟨μ1,G1,f1,r1⟩:=mg (yA 9999) _ _ μ G H hM hH ta
    obtain⟨aza,Qe,ch⟩:=run_append_grow (P:=P) (w:=w) hT ty (base:=some ad) hx.hn Uj hsm hx.hc BP
    have RW:al ρ μ1 ((cn (aY 9999) ((L.drop off).take (len*i.size)) H).1++new) (((arr.toList.drop (l.base+off)).take (len*i.size)).toArray++us).toList:=by
     simpa using r1.append (hx.hr.mono f1.le)
    have apD:(((arr.toList.drop (l.base+off)).take (len*i.size)).toArray++us).size=(len+m)*i.size:=by
     have:=RW.length
     rw[zqf,yK,zqy,hx.hl] at this
     have e:min (len*i.size) (L.drop off).length=len*i.size:=by omega
     rw[e,← Nat.add_mul] at this
     simpa using this.symm
    obtain⟨μ',g1,g2,g3,g4⟩:=HY f1.M hT RW apD Qe
    exact⟨_,_,μ',_,ch,g3,Mu.le_trans f1.le g1,g2,f1.hs.set nx _,f1.kept.trans (g4 _ _ _ _)⟩
   have aDe:∀ (L:List AV) (ck:CK),ck≠.part→aa b H=some (.cells L ck)→¬ (off+(len+m)*i.size≤L.length)→cap<len+m:=by
    intro L ck wj hL hle
    obtain⟨l',arr,elem,fz,k1,k2,k3,k4,k5,k7,k8⟩:=hM.cells (hH _ _ hL)
    rw[ig] at k1;cases k1
    have k8:=k8 wj
    rcases Dp cap (len+m) with h'|h'
    ·exact h'
    ·have:(len+m)*i.size≤cap*i.size:=Nat.mul_le_mul_right _ h'
     omega
   have axS:∀ (L:List AV) (ck:CK),ck≠.part→aa b H=some (.cells L ck)→¬ (off+(len+m)*i.size≤L.length)→
     (vm (len*i.size) (sD off L) (OR.bad 14) (fun old=>HE (frz 9999) old H fun old h=>Oz old new (fun r=>sx nx (some (.cells r .part)) h fun h=>.val (.slice nx 0 (len+m) i.size) h nx.succ)))=.val a H' nx'→
     ∃ v w' μ' G',(Builtin.append_ #[t,u] ty #[.slice (some ad) len cap,xv]).run P w=.ok v w'∧aC ρ μ' a v∧μ.le μ'∧aP P ρ w0 μ' G' nx'.toNat w'∧HSub H' G'∧Kept H H' nx nx' μ μ' G G':=by
    intro L ck wj hL hle h
    simp only[takeC_eq,dropL_eq,sX (Bq 9999),appC_eq,sTCe] at h
    split at h
    ·rename_i Gx
     simp only[OR.val.injEq] at h
     obtain⟨rfl,rfl,rfl⟩:=h
     exact aG4 L ck hL (aDe L ck wj hL hle) Gx
    ·cases h
   split at h
   ·rename_i L hL
    cases hle:Nat.ble (off+(len+m)*i.size) (lenL L) with
    |true=>
     rw[hle] at h
     rw[lenL_eq,Nat.ble_eq] at hle
     simp only[cond_true] at h
     rw[putC_eq] at h
     split at h
     ·rename_i aG5
      rw[sTCe] at h
      simp only[OR.val.injEq] at h
      obtain⟨rfl,rfl,rfl⟩:=h
      have hg:=hH _ _ hL
      obtain⟨l',arr,elem,fz,k1,k2,k3,k4,k5,k7,k8⟩:=hM.cells hg
      rw[ig] at k1;cases k1
      have k8:=k8 (by simp)
      have hlm:len+m≤cap:=by
       have:(len+m)*i.size≤cap*i.size:=by omega
       exact Nat.le_of_mul_le_mul_right this ML
      obtain⟨w',e1,e2,e3⟩:=amz hM hg (by simp) ig hx.hr avy (off:=off+len*i.size) aG5
      have dQ:(storeCells (ad.add (len*i.size)) us.toList).run P w=.ok () w':=by
       rcases kP with h0|h0
       ·have Lc:m=0:=by omega
        subst Lc
        have:us=#[]:=by apply Array.eq_empty_of_size_eq_zero;simpa using Ka
        subst this
        exact e1
       ·subst h0;rw[mS,Nat.add_assoc];exact e1
      refine⟨.slice (some ad) (len+m) cap,w',_,_,?_,.slice b off _ _ cap l ad (Mu.dq _ _ _) AY hlm kP,e2,e3,hH.set b _,mn hL ig _ _⟩
      rw[gx hT ty (base:=some ad) hx.hn hlm hx.now]
      simp only[dQ,iZ]
     ·cases h
    |false=>
     rw[hle] at h
     have hle:¬ (off+(len+m)*i.size≤L.length):=by rw[← Nat.ble_eq,← lenL_eq,hle];simp
     exact axS L .fix (by simp) hL hle h
   ·rename_i L hL
    cases hle:Nat.ble (off+(len+m)*i.size) (lenL L) with
    |true=>rw[hle] at h;cases h
    |false=>
     rw[hle] at h
     have hle:¬ (off+(len+m)*i.size≤L.length):=by rw[← Nat.ble_eq,← lenL_eq,hle];simp
     exact axS L .ro (by simp) hL hle h
   ·-- a row of more cells aPT are known
    rename_i L hL
    have hg:=hH _ _ hL
    obtain⟨l',arr,elem,fz,k1,k2,k3,k4,k5,k7,k8⟩:=hM.cells hg
    rw[ig] at k1;cases k1
    have k7:=k7 (by simp)
    subst k7
    cases Lc:Nat.beq m 0 with
    |true=>
     rw[Lc] at h
     simp only[cond_true,OR.val.injEq] at h
     obtain⟨rfl,rfl,rfl⟩:=h
     have hm:=ml Lc
     subst hm
     have hus:us=#[]:=by apply Array.eq_empty_of_size_eq_zero;simpa using Ka
     subst hus
     refine⟨.slice (some ad) len cap,w,μ,G,?_,hs0,μ.le_refl,hM,hH,Kept.refl _ _ _ _⟩
     rw[gx hT ty (base:=some ad) (sLen:=len) (sCap:=cap) hx.hn (by omega) hx.now]
     simp[storeCells]
    |false=>
     rw[Lc] at h
     simp only[cond_false] at h
     have aC9:m≠0:=by intro e;subst e;cases Lc
     cases hc1:((Nat.beq off 0 || !BD i.size)&&Nat.beq (off+len*i.size) (lenL L)) with
     |false=>rw[hc1] at h;cases h
     |true=>
      rw[hc1] at h
      simp only[cond_true] at h
      simp only[iE] at hc1
      have Qf:=hc1.1
      have hLl:=ml hc1.2
      rw[lenL_eq] at hLl
      have hM1:aP P ρ w0 μ (nN G b none) nx.toNat w:=hM.sub (fun b' B' e'=>by
       by_cases hb:b'=b
       ·subst hb;rw[fk] at e';cases e'
       ·rw[bR _ _ hb] at e';exact e')
      have ne:∀ b',aa b' H=none→b'≠b:=fun b' h0 e0=>by rw[e0,hL] at h0;cases h0
      have MN:∀ (μ':Mu) x y,(∀ b':Key,b'.toNat<nx.toNat→μ' b'=μ b')→Kept H (av nx y (av b none H)) nx nx.succ μ μ' G (nN (nN G b none) nx x):=by
       intro μ' x y ig
       exact⟨fun b' fb bN=>by rw[bR _ _ (ne_of_lt bN),bR _ _ (ne b' fb)],ig,
        fun b' fb bN=>by rw[bZ _ _ _ _ (ne_of_lt bN),bZ _ _ _ _ (ne b' fb)];exact fb,by omega⟩
      have axT:al ρ μ (L.drop off) ((arr.toList.drop (l.base+off)).take (len*i.size)):=by
       have:=tD k3 (off:=off) (n:=len*i.size) (by omega) (by omega)
       rw[P8 (by simp;omega)] at this
       exact this
      have Qd:al ρ μ (L.drop off++new) ((arr.toList.drop (l.base+off)).take (len*i.size)++us.toList):=axT.append hx.hr
      have hvl:=axT.length
      rw[List.length_drop] at hvl
      by_cases hlm:len+m≤cap
      ·-- in place, behind sA end
       have kP:ad=⟨l.c,l.base+off,none⟩:=kP.resolve_left (by omega)
       subst kP
       have hmul:(len+m)*i.size≤cap*i.size:=Nat.mul_le_mul_right _ hlm
       have BA:(len+m)*i.size=len*i.size+m*i.size:=Nat.add_mul _ _ _
       obtain⟨w',e1,e2,e3,e4⟩:=mR P l.c (l.base+off+len*i.size) elem us.toList 0 w arr k2 (by simp[Ka];omega) avy
       have nP:w0.heap.size≤l.c:=(hM.own b _ _ hg ig).resolve_left (by simp[ah.ro])
       have axU:∀ j,μ.fz l.c j=none:=hM.lo0 hg ig rfl
       cases hkw:BD i.size with
       |true=>
        rw[hkw] at h Qf
        simp only[Bool.not_true,Bool.or_false] at Qf
        have azb:=ml Qf
        subst azb
        simp only[Nat.add_zero,Nat.zero_add,List.drop_zero] at *
        simp only[cond_true,appC_eq,sTCe,OR.val.injEq] at h
        obtain⟨rfl,rfl,rfl⟩:=h
        have C4:μ.le (μ.put nx l):=Mu.tM (.inl hM.mQ)
        have aPU:L.length=len*i.size:=hLl.symm
        have hB:C9 P ρ (μ.put nx l) (.cells (L++new) .part) l (.cells (jI arr (l.base+len*i.size) us.toList) elem (0,0)):=by
         refine .cells _ .part _ _ elem (0,0) ?_ (by rw[lq];omega) (by rw[zqf,hx.hl];omega) (fun _=>rfl) (fun h=>absurd rfl h)
         intro j a ha
         obtain⟨v,hv,hr⟩:=Qd.get j a ha
         refine⟨v,?_,hr.mono C4⟩
         have aR:j<len*i.size+us.size:=by
          rcases Dp j (len*i.size+us.size) with h'|h'
          ·exact h'
          ·rw[zqo (by simp;omega)] at hv;cases hv
         rw[il _ _ _ _ (by simp[Ka];omega)]
         by_cases hj1:j<len*i.size
         ·rw[if_neg (by omega)]
          rw[List.getElem?_append_left (by omega),List.getElem?_take_of_lt hj1,List.getElem?_drop] at hv
          simpa using hv
         ·rw[if_pos (by simp;omega)]
          rw[List.getElem?_append_right (by omega)] at hv
          rw[← hv];congr 1;omega
        obtain⟨g1,g2⟩:=hM1.put (w':=w') nx (.cells (L++new) .part) l _ (.inl hM.mQ) e2 e4 hB
         (fun b' B' l' gg mm _=>by
          by_cases vj:b'=b
          ·subst vj;rw[fk] at gg;cases gg
          ·rw[bR _ _ vj] at gg
           exact hM.sep b' b B' _ l' _ gg hg mm ig vj) nP (nx':=nx.succ.toNat) (by omega) (by omega) axU
        refine⟨.slice (some ⟨l.c,l.base,none⟩) (len+m) cap,w',_,_,?_,?_,g1,g2,(hH.set b none).set nx _,MN _ _ _ (fun b' bN=>Mu.om _ _ (ne_of_lt bN))⟩
        ·rw[gx hT ty (base:=some ⟨l.c,l.base,none⟩) hx.hn hlm hx.now]
         simp only[mS,e1,iZ]
        ·exact .slice nx 0 _ _ cap l _ (Mu.dq _ _ _) (by simpa using AY) hlm (.inr rfl)
       |false=>
        rw[hkw] at h
        simp only[cond_false,appC_eq,dropL_eq,sTCe,OR.val.injEq] at h
        obtain⟨rfl,rfl,rfl⟩:=h
        have aDd:(cap-(len+m))*i.size=cap*i.size-(len+m)*i.size:=Nat.mul_sub_right_distrib _ _ _
        obtain⟨g1,g2,g3⟩:=hM1.mark (w':=w') nx l.c ((l.base+off)+(len+m)*i.size) ((cap-(len+m))*i.size) hM.mQ e2 e4 (by rw[lq];omega)
         (fun b' B' l' gg mm=>by
          by_cases vj:b'=b
          ·subst vj;rw[fk] at gg;cases gg
          ·rw[bR _ _ vj] at gg
           exact hM.sep b' b B' _ l' _ gg hg mm ig vj)
         (fun j v hj=>by rw[axU j] at hj;cases hj) nP (n':=nx.succ.toNat) (by omega) (by omega)
        refine⟨.slice (some ⟨l.c,l.base+off,none⟩) (len+m) cap,w',_,_,?_,?_,g1,g2,(hH.set b none).set nx _,MN _ _ _ (fun b' bN=>Mu.j5 _ _ _ _ _ (ne_of_lt bN))⟩
        ·rw[gx hT ty (base:=some ⟨l.c,l.base+off,none⟩) hx.hn hlm hx.now]
         simp only[mS,e1,iZ]
        ·refine .sl _ _ _ _ cap l.c (l.base+off) _ ((arr.toList.drop (l.base+off)).take (len*i.size)++us.toList) (Qd.mono g1) ?_ hlm (.inr rfl) ?_ ?_
         ·rw[zqf,List.length_drop,← hLl,hx.hl,BA];omega
         ·intro j v hj
          have aR:j<len*i.size+us.size:=by
           rcases Dp j (len*i.size+us.size) with h'|h'
           ·exact h'
           ·rw[zqo (by simp;omega)] at hj;cases hj
          refine g3 _ _ (by omega) ?_
          rw[il _ _ _ _ (by simp[Ka];omega)]
          by_cases hj1:j<len*i.size
          ·rw[if_neg (by omega)]
           rw[List.getElem?_append_left (by omega),List.getElem?_take_of_lt hj1,List.getElem?_drop] at hj
           simpa using hj
          ·rw[if_pos (by simp;omega)]
           rw[List.getElem?_append_right (by omega)] at hj
           rw[← hj];congr 1;omega
         ·exact Mu.jd _ _ _ _ _ _
      ·-- a new row
       have BP:∀ d,(Builtin.firstCells i.size len (.slice (some ad) len cap)).run P {w with drawn:=d}=.ok ((arr.toList.drop (l.base+off)).take (len*i.size)).toArray {w with drawn:=d}:=by
        intro d
        simp only[Builtin.firstCells]
        by_cases h0:len=0
        ·subst h0;simp[loadCells,loadCellsFrom]
        ·have kP:ad=⟨l.c,l.base+off,none⟩:=kP.resolve_left (by omega)
         subst kP
         refine ja P {w with drawn:=d} l.c (l.base+off) arr elem (0,0) k2 (len*i.size) ?_
         omega
       obtain⟨aza,Qe,ch⟩:=run_append_grow (P:=P) (w:=w) hT ty (base:=some ad) hx.hn (by omega) hsm hx.hc BP
       have RW:al ρ μ (L.drop off++new) (((arr.toList.drop (l.base+off)).take (len*i.size)).toArray++us).toList:=by simpa using Qd
       have apD:(((arr.toList.drop (l.base+off)).take (len*i.size)).toArray++us).size=(len+m)*i.size:=by
        rw[Array.size_append,Ka,Nat.add_mul];simp at hvl ⊢;omega
       cases hkw:BD i.size with
       |true=>
        rw[hkw] at h Qf
        simp only[Bool.not_true,Bool.or_false] at Qf
        have azb:=ml Qf
        subst azb
        rw[List.drop_zero] at RW
        simp only[cond_true,appC_eq,sTCe,OR.val.injEq] at h
        obtain⟨rfl,rfl,rfl⟩:=h
        obtain⟨μ',g1,g2,g3,g4⟩:=HY hM1 hT RW apD Qe
        exact⟨_,_,_,_,ch,g3,g1,g2,(hH.set b none).set nx _,MN _ _ _ (fun b' bN=>(g4 none none H G).m b' bN)⟩
       |false=>
        rw[hkw] at h
        simp only[cond_false,appC_eq,dropL_eq,sTCe,OR.val.injEq] at h
        obtain⟨rfl,rfl,rfl⟩:=h
        obtain⟨μ',g1,g2,g3,g4⟩:=Uk hM1 hT RW apD Qe
        refine⟨_,_,_,_,ch,g3,g1,g2,(hH.set b none).set nx _,MN _ _ _ (fun b' bN=>(g4 none none H G).m b' bN)⟩
   ·cases h
 ·cases h
end
end Go.Sx
/-
 SX: maps whose keys have several cells, entries that are deleted, ranges over maps, a string's bytes. No condition.
-/
namespace Go.Sx
open Go.RowKit
section
variable{P:Program}{ρ:Nat→Int}{w0:W0}{w:World}{μ:Mu}{G:Key→Option ah}{nx:Key}{orc:gD}{nt:Nat}{tm:T AV}{H:T ah}{ev:Operand→Value}
def v7(em:Bool)(d:Nat)(xs:Array Value):List Field→Sem Unit
 | []=>pure ()
 | f :: fs => if f.name ≠ "_" then do
   let a ← part f.type xs f.offset
   Instr.checkKey em d f.type a
   v7 em d xs fs
  else v7 em d xs fs
theorem sV(em:Bool)(d:Nat){t:TypeId}{fs:Array Field}(hu:P.underlying t=some (.struct fs))(xs:Array Value) :
  (Instr.checkKey em (d+1) t (.agg xs)).run P w=(v7 em d xs fs.toList).run P w:=by
 simp only[Instr.checkKey,lF,ab hu,iZ]
 rw[← Array.forIn_toList]
 generalize fs.toList=l
 clear hu
 induction l generalizing w with
 |nil=>simp[v7]
 |cons f l ih=>
  simp only[List.forIn_cons,v7,lF,Sem.run_ite]
  split
  ·generalize (part f.type xs f.offset).run P w=r1
   cases r1 with
   |ok a w1=>
    simp only[iZ]
    generalize (Instr.checkKey em d f.type a).run P w1=r2
    cases r2 with
    |ok b w2=>simp only[iZ,qi];exact ih
    |halt x w2=>simp[Result.andThen]
   |halt x w1=>simp[Result.andThen]
  ·simp only[qi,iZ]
   exact ih
def C2(em:Bool)(d:Nat)(e:TypeId)(c:Nat)(xs:Array Value):List Nat→Sem Unit
 | []=>pure ()
 |i ::is=>do
  let a ← part e xs (i*c)
  Instr.checkKey em d e a
  C2 em d e c xs is
theorem E8(em:Bool)(d:Nat){t e:TypeId}{n:Nat}{i:TypeInfo}(hu:P.underlying t=some (.array n e))(hi:P.info? e=some i)(xs:Array Value) :
  (Instr.checkKey em (d+1) t (.agg xs)).run P w=(C2 em d e i.size xs (List.range n)).run P w:=by
 simp only[Instr.checkKey,lF,ab hu,iZ]
 simp only[Std.Legacy.Range.forIn_eq_forIn_range',Std.Legacy.Range.size,Nat.sub_zero,Nat.add_one_sub_one,Nat.div_one,List.range_eq_range']
 generalize List.range' 0 n=is
 induction is generalizing w with
 |nil=>simp[C2]
 |cons j is ih=>
  simp only[List.forIn_cons,C2,lF,aT hi,iZ]
  generalize (part e xs (j*i.size)).run P w=r1
  cases r1 with
  |ok a w1=>
   simp only[iZ]
   generalize (Instr.checkKey em d e a).run P w1=r2
   cases r2 with
   |ok b w2=>simp only[iZ,qi];exact ih
   |halt x w2=>simp[Result.andThen]
  |halt x w1=>simp[Result.andThen]
theorem NQ{a:List AV}:∀ {l:List (Nat×sW)},P9 a l=true→∀ x∈l,∃ u,a[x.1]?=some u
 | [],_,x,hx=>by cases hx
 |(o,p) ::l,h,x,hx=>by
  simp only[P9,nth_eq] at h
  split at h
  ·rename_i u hu
   rcases JY.1 hx with rfl|hx
   ·exact⟨u,hu⟩
   ·exact NQ h x hx
  ·cases h
theorem E9(em:Bool){xs:Array Value}(d:Nat):∀ (n:Nat) (fs:List Field) (l:List (Nat×sW)),eqFields P n fs=some l→(∀ x∈l,∃ v,xs[x.1]?=some v)→(v7 em (d+1) xs fs).run P w=.ok () w
 |n,[],l,_,_=>rfl
 |0,f ::fs,l,hf,_=>by simp[eqFields] at hf
 |n+1,f ::fs,l,hf,hp=>by
  simp only[eqFields] at hf
  cases hn : (f.name == "_") with
  |true=>rw[hn] at hf;cases hf
  |false=>
   rw[hn] at hf
   simp only[cond_false] at hf
   have bI : f.name ≠ "_" := by simpa using hn
   have key:∀ (q:sW) (l':List (Nat×sW)) (d':TypeDesc),P.underlying f.type=some d'→(d'=.bool∨(∃ k,d'=.int k)∨d'=.string)→eqFields P n fs=some l'→l=(f.offset,q) ::l'→(v7 em (d+1) xs (f ::fs)).run P w=.ok () w:=by
    intro q l' d' Dk hk Ur hl
    subst hl
    obtain⟨v,hv⟩:=hp (f.offset,q) (by simp)
    have aBi:LB d'=false:=by rcases hk with rfl|⟨k,rfl⟩|rfl<;>rfl
    have ao6:(part f.type xs f.offset).run P w=.ok v w:=by
     have hv:xs[f.offset]?=some v:=hv
     simp[part,n9 Dk,aBi,hv]
    have wj:(Instr.checkKey em (d+1) f.type v).run P w=.ok () w:=by
     rcases hk with rfl|⟨k,rfl⟩|rfl<;>simp[Instr.checkKey,ab Dk]
    simp only[v7,ne_eq,bI,not_false_eq_true,if_true,lF,ao6,iZ,wj]
    exact E9 em d n fs l' Ur fun x hx=>hp x (by simp[hx])
   split at hf
   ·rename_i h1 h2
    simp only[cS] at hf
    have mM:P.underlying f.type=some .bool:=m8 h1
    exact key _ _ _ mM (.inl rfl) h2 hf.symm
   ·rename_i h1 h2
    simp only[cS] at hf
    obtain⟨k,mM⟩:=m8 h1
    exact key _ _ _ mM (.inr (.inl ⟨k,rfl⟩)) h2 hf.symm
   ·rename_i h1 h2
    simp only[cS] at hf
    have mM:P.underlying f.type=some .string:=m8 h1
    exact key _ _ _ mM (.inr (.inr rfl)) h2 hf.symm
   ·cases hf
theorem NR{l:List (Nat×sW)}{sz:Nat}:∀ (n off:Nat) (x:Nat×sW),x∈l→∀ i,i<n→(off+i*sz+x.1,x.2)∈Be l sz n off
 |0,_,_,_,i,hi=>absurd hi (Nat.not_lt_zero _)
 |n+1,off,x,hx,i,hi=>by
  simp only[Be,List.mem_append]
  cases i with
  |zero=>exact .inl (zqv.2 ⟨x,hx,by simp⟩)
  |succ i=>
   right
   have:=NR (sz:=sz) n (off+sz) x hx i (by omega)
   have e:off+sz+i*sz=off+(i+1)*sz:=by rw[Nat.add_mul,Nat.one_mul];omega
   rwa [e] at this
theorem NS(em:Bool){e:TypeId}{i:TypeInfo}{fs:Array Field}{n:Nat}{l:List (Nat×sW)}(hi:P.info? e=some i)(hu:P.underlying e=some (.struct fs))(hf:eqFields P n fs.toList=some l)(bN:∀ x∈l,x.1<i.size){xs:Array Value}(d:Nat) :
  ∀ (is:List Nat),(∀ j∈is,∀ x∈l,∃ v,xs[j*i.size+x.1]?=some v)→(C2 em (d+2) e i.size xs is).run P w=.ok () w
 | [],_=>rfl
 |j ::is,h=>by
  simp only[C2,lF,JL hi hu,iZ]
  rw[show d+2=d+1+1 from rfl,sV em (d+1) hu,E9 em d n fs.toList l hf]
  ·simp only[iZ]
   exact NS em hi hu hf bN d is fun k hk=>h k (by simp[hk])
  ·intro x hx
   obtain⟨v,hv⟩:=h j (by simp) x hx
   refine⟨v,?_⟩
   have:=bN x hx
   have h2:j*i.size+x.1<xs.size:=by
    rcases Dp (j*i.size+x.1) xs.size with h'|h'
    ·exact h'
    ·rw[Tx h'] at hv;cases hv
   rw[Array.getElem?_extract_of_lt (by omega),← hv,Array.getElem?_eq_getElem h2]
theorem Ej(em:Bool){t:TypeId}{l:List (Nat×sW)}(hp:wq P t (.parts l)){A:List AV}{xs:Array Value}(hx:al ρ μ A xs.toList)(sC:P9 A l=true)(d:Nat) :
  (Instr.checkKey em (d+3) t (.agg xs)).run P w=.ok () w:=by
 have mI:∀ x∈l,∃ v,xs[x.1]?=some v:=by
  intro x Og
  obtain⟨u,hu⟩:=NQ sC x Og
  obtain⟨v,hv,_⟩:=hx.get _ _ hu
  exact⟨v,by simpa using hv⟩
 rcases hp with⟨fs,n,hu,dQ,hf⟩|⟨len,e,i,fs,n,l',hu,hi,hue,dQ,hf,bN,rfl⟩
 ·rw[show d+3=d+2+1 from rfl,sV em (d+2) hu]
  exact E9 em (d+1) n fs.toList l hf mI
 ·rw[show d+3=d+2+1 from rfl,E8 em (d+2) hu hi]
  refine NS em hi hue hf bN d _ fun j hj x Og=>?_
  have:=NR (sz:=i.size) len 0 x Og j (by simpa using hj)
  simpa using mI _ this
theorem aC.flat{a:AV}{x y:Value}(h:gP a=true)(hx:aC ρ μ a x)(hy:aC ρ μ a y):x=y:=by
 cases hx<;>first|(cases h;done)|skip
 ·cases hy;rfl
 ·rename_i k s n e
  cases hy with|int _ _ n' e'=>rw[← e,← e']
 ·rename_i n c s e e'
  cases hy with|str _ _ s' f f'=>
  subst e e'
  have:(Nat.beq s.data.toList.length s'.data.toList.length&&Nat.beq (enc s.data.toList) (enc s'.data.toList))=true:=by
   rw[f,f'];simp
  rw[Lo] at this
  have:=eq_of_beq this
  congr 1
  apply ByteArray.ext
  exact Array.ext' this
theorem al.flat:∀ {l:List AV} {xs ys:List Value},BC l=true→al ρ μ l xs→al ρ μ l ys→xs=ys
 | [],_,_,_,hx,hy=>by cases hx;cases hy;rfl
 |a ::l,_,_,h,hx,hy=>by
  simp only[BC,iE] at h
  cases hx with|cons _ _ v vs h1 h2=>cases hy with|cons _ _ u us k1 k2=>
  rw[aC.flat h.1 h1 k1,al.flat h.2 h2 k2]
theorem aqJ{a:AV}{x:Value}(h:gP a=true)(hx:aC ρ μ a x)(n:Nat):Instr.sameBits n x x=true:=by
 cases hx<;>first|(cases h;done)|skip
 ·cases n<;>simp[Instr.sameBits]
 ·cases n<;>simp[Instr.sameBits]
 ·cases n<;>simp[Instr.sameBits,beq_toListBytes]
theorem NT:∀ {l:List AV} {xs:List Value},BC l=true→al ρ μ l xs→∀ (n:Nat),((xs.zip xs).all fun(x,y)=>Instr.sameBits n x y)=true
 | [],_,_,hx,n=>by cases hx;rfl
 |a ::l,_,h,hx,n=>by
  simp only[BC,iE] at h
  cases hx with|cons _ _ v vs h1 h2=>
  simp only[List.zip_cons_cons,List.all_cons,iE]
  exact⟨aqJ h.1 h1 n,NT h.2 h2 n⟩
theorem auh{l:List AV}{xs:Array Value}(h:BC l=true)(hx:al ρ μ l xs.toList):Instr.sameBits 10000 (.agg xs) (.agg xs)=true:=by
 simp only[Instr.sameBits,beq_self_eq_true,Bool.true_and]
 exact NT h hx 9999
theorem NU{p:sW}{k:AV}(h:Qa p k=true):∃ l A,p=.parts l∧k=.agg A∧BC A=true∧P9 A l=true:=by
 cases p<;>first|(simp[Qa] at h;done)|skip
 cases k<;>first|(simp[Qa] at h;done)|skip
 simp only[Qa,iE] at h
 exact⟨_,_,rfl,rfl,h.1,h.2⟩
theorem zo(ho:cY ρ orc){kt:TypeId}{l:List (Nat×sW)}(hp:wq P kt (.parts l)){A:List AV}(GU:BC A=true){a:AV}{x y:Value}(hx:aC ρ μ (.agg A) x)(hy:aC ρ μ a y){b:Bool}
  (hb:avm orc (.parts l) (.agg A) a=some b):(Op.equal kt x y).run P w=.ok b w∧(b=true→x=y):=by
 have hq:gJ orc (.parts l) (.agg A) a=some b∧(b=true→AV.beq (.agg A) a=true):=by
  unfold avm at hb
  split at hb
  ·rename_i h1
   cases hc:AV.beq (.agg A) a with
   |false=>rw[hc] at hb;cases hb
   |true=>rw[hc] at hb;simp only[cond_true,cS] at hb;subst hb;exact⟨h1,fun _=>rfl⟩
  ·rename_i h1
   refine⟨hb,fun e=>?_⟩
   subst e
   exact absurd hb h1
 obtain⟨h1,h2⟩:=hq
 cases a<;>first|(simp[gJ] at h1;done)|skip
 rename_i B
 cases hx with|agg _ xs hx=>cases hy with|agg _ ys hy=>
 simp only[gJ] at h1
 refine⟨Jq ho hp hx hy h1 9997,fun e=>?_⟩
 have:=AV.eq_of_beq _ _ (h2 e)
 cases this
 have:=al.flat GU hx hy
 rw[Array.ext' this]
theorem NV{b:Bool}{x:OR}{m:Nat}{a:AV}{H':T ah}{nx':Key}(h:(bif b then x else .bad m)=.val a H' nx'):b=true∧x=.val a H' nx':=by
 cases b with
 |true=>exact⟨rfl,h⟩
 |false=>cases h
theorem JP(ho:cY ρ orc){kt:TypeId}{pl:List (Nat×sW)}(hp:wq P kt (.parts pl)){A:List AV}(GU:BC A=true){u:AV}{x v:Value}(hx:aC ρ μ (.agg A) x)(hv:aC ρ μ u v) :
  ∀ {l r:List (AV×AV)} {es:List MapEntry} (i:Nat),kI ρ μ l es→Ub orc (.parts pl) (.agg A) u l=some r→
   ((Instr.findAsking kt x es i).run P w=.ok none w∧∀ b,kI ρ μ r (es ++ [⟨x,v,b⟩]))∨
   (∃ j e,(Instr.findAsking kt x es i).run P w=.ok (some (i+j,e.val)) w∧es[j]?=some e∧e.key=x∧kI ρ μ r (es.set j {e with key:=x,val:=v}))
 | [],r,[],i,Im,h=>by
  simp only[Ub,cS] at h;subst h
  exact .inl ⟨rfl,fun b=>⟨hx,hv,trivial⟩⟩
 | [],_,_ ::_,i,Im,h=>Im.elim
 |(_,_) ::_,_,[],i,Im,h=>Im.elim
 |(a,c) ::l,r,e ::es,i,Im,h=>by
  obtain⟨h1,h2,h3⟩:=Im
  simp only[Ub] at h
  split at h
  ·rename_i hk
   cases h
   obtain⟨q1,q2⟩:=zo (w:=w) ho hp GU hx h1 hk
   exact .inr ⟨0,e,by simp[Instr.findAsking,q1],by simp,(q2 rfl).symm,⟨hx,hv,h3⟩⟩
  ·rename_i hk
   obtain⟨q1,q2⟩:=zo (w:=w) ho hp GU hx h1 hk
   split at h
   ·rename_i r' hr'
    cases h
    rcases JP ho hp GU hx hv (i+1) h3 hr' with⟨f,g⟩|⟨j,e',f,g1,g2,g3⟩
    ·exact .inl ⟨by simp[Instr.findAsking,q1,f],fun b=>⟨h1,h2,g b⟩⟩
    ·refine .inr ⟨j+1,e',?_,by simpa using g1,g2,?_⟩
     ·simp[Instr.findAsking,q1,f];omega
     ·simp only[List.set_cons_succ];exact⟨h1,h2,g3⟩
   ·cases h
  ·cases h
theorem JQ(ho:cY ρ orc){kt:TypeId}{pl:List (Nat×sW)}(hp:wq P kt (.parts pl)){A:List AV}(GU:BC A=true){x:Value}(hx:aC ρ μ (.agg A) x) :
  ∀ {l r:List (Nat×AV×AV)} {es:List MapEntry} (i:Nat),gv ρ μ l es→Uc orc (.parts pl) (.agg A) l=some r→
   ((Instr.findAsking kt x es i).run P w=.ok none w∧gv ρ μ r es)∨
   (∃ j e,(Instr.findAsking kt x es i).run P w=.ok (some (i+j,e)) w∧j<es.length∧gv ρ μ r (es.eraseIdx j))
 | [],r,[],i,Im,h=>by
  simp only[Uc,cS] at h;subst h
  exact .inl ⟨rfl,trivial⟩
 | [],_,_ ::_,i,Im,h=>Im.elim
 |(_,_,_) ::_,_,[],i,Im,h=>Im.elim
 |(s,a,c) ::l,r,e ::es,i,Im,h=>by
  obtain⟨h0,h1,h2,h3⟩:=Im
  simp only[Uc] at h
  split at h
  ·rename_i hk
   cases h
   obtain⟨q1,q2⟩:=zo (w:=w) ho hp GU hx h1 hk
   exact .inr ⟨0,e.val,by simp[Instr.findAsking,q1],by simp,by simpa using h3⟩
  ·rename_i hk
   obtain⟨q1,q2⟩:=zo (w:=w) ho hp GU hx h1 hk
   split at h
   ·rename_i r' hr'
    cases h
    rcases JQ ho hp GU hx (i+1) h3 hr' with⟨f,g⟩|⟨j,e',f,g1,g2⟩
    ·exact .inl ⟨by simp[Instr.findAsking,q1,f],⟨h0,h1,h2,g⟩⟩
    ·refine .inr ⟨j+1,e',?_,by simpa using g1,?_⟩
     ·simp[Instr.findAsking,q1,f];omega
     ·simp only[List.eraseIdx_cons_succ];exact⟨h0,h1,h2,g2⟩
   ·cases h
  ·cases h
theorem tz{kt:TypeId}(hk:Ll P kt)(x:Value)(es:List MapEntry):(Instr.findKey kt x es).run P w=(Instr.findAsking kt x es).run P w:=by
 have key:∀ (kd:TypeDesc),P.underlying kt=some kd→(∀ a b,Instr.sameNow kd a b=none)→(Instr.findKey kt x es).run P w=(Instr.findAsking kt x es).run P w:=by
  intro kd hu hs
  simp only[Instr.findKey,lF,ab hu,iZ]
  cases es with
  |nil=>rfl
  |cons e es=>simp[Instr.findNow,hs]
 rcases hk with⟨fs,hu⟩|⟨n,e,hu⟩
 ·exact key _ hu (by intro a b;cases a<;>cases b<;>rfl)
 ·exact key _ hu (by intro a b;cases a<;>cases b<;>rfl)
theorem aiD{kt:TypeId}{p:sW}(hk:Ll P kt)(hp:PS P 100 kt=some p):wq P kt p:=m8 hp
theorem yD(hM:aP P ρ w0 μ G nx.toNat w)(hH:HSub H G){b:Key}{L:List (Nat×AV×AV)}{c:Nat}(h:stamped b H=some (L,c)) :
  ∃ B l es,aa b H=some B∧μ b=some l∧w.heap[l.c]?=some (.map es c)∧gv ρ μ L es.toList∧w0.heap.size≤l.c∧B.lo l=some 0:=by
 unfold stamped at h
 split at h
 ·rename_i L' hL
  simp only[cS,Prod.mk.injEq] at h
  obtain⟨rfl,rfl⟩:=h
  have hg:=hH _ _ hL
  obtain⟨l,o,h1,h2,h3⟩:=hM.nM b _ hg
  cases h3 with|map _ _ es clock dA Cd Sk=>
  subst Sk
  rw[lenL_eq]
  exact⟨_,l,es,hL,h1,h2,dA.stamps 0 (by simpa using Cd),(hM.own b _ l hg h1).resolve_left (by simp[ah.ro]),rfl⟩
 ·rename_i L' c' hL
  simp only[cS,Prod.mk.injEq] at h
  obtain⟨rfl,rfl⟩:=h
  have hg:=hH _ _ hL
  obtain⟨l,o,h1,h2,h3⟩:=hM.nM b _ hg
  cases h3 with|mapD _ _ es clock dA=>
  exact⟨_,l,es,hL,h1,h2,dA,(hM.own b _ l hg h1).resolve_left (by simp[ah.ro]),rfl⟩
 ·cases h
theorem PB(hM:aP P ρ w0 μ G nx.toNat w)(hH:HSub H G)(ho:cY ρ orc){o:Oper}{p:sW}{pm pk pv:PX}(hp:gi P nt o=some (.mapupdP p pm pk pv))(hE:sY P ρ μ nt o.op.operands.toList tm ev)
  {a:AV} {H':T ah} {nx':Key} (h:aOp orc (.mapupdP p pm pk pv) tm H nx=.val a H' nx'):A1 P ρ w0 μ G H nx w (Go.execOp ev o) a H' nx':=by
 obtain⟨dst,tC,ty,pos,after,guard⟩:=o
 obtain⟨t,m,k,v,kt,e,e0,hu,al7,nR,hm,hk,hv⟩:=dY hp
 simp only at e0
 have hex:Go.execOp ev ⟨dst,tC,ty,pos,after,guard⟩=(do Instr.mapUpdate t (ev m) (ev k) (ev v);pure .skip):=by
  rcases e0 with e0|e0<;>subst e0<;>rfl
 have gq:m∈tC.operands.toList∧k∈tC.operands.toList∧v∈tC.operands.toList:=by
  rcases e0 with e0|e0<;>subst e0<;>simp[Op.operands]
 simp only[aOp] at h
 split at h
 ·rename_i b ka va hb hka hva
  split at h
  ·rename_i L hL
   replace h:=NV h
   obtain⟨sC,h⟩:=h
   obtain⟨pl,A,rfl,rfl,GU,aBp⟩:=NU sC
   split at h
   ·rename_i L' hL'
    rw[sTCe] at h
    simp only[OR.val.injEq] at h
    obtain⟨rfl,rfl,rfl⟩:=h
    have aiE:=aiD al7 nR
    have hrm:=hE m gq.1 pm _ hm hb
    have hrk:=hE k gq.2.1 pk _ hk hka
    have hrv:=hE v gq.2.2 pv _ hv hva
    generalize Oh:ev m=mm at hrm
    cases hrm with|map _ l r ig hr=>
    subst hr
    generalize qq:ev k=kk at hrk
    have aBq:=hrk
    cases hrk with|agg _ xs hxs=>
    have hg:=hH _ _ hL
    obtain⟨l',o',h1,h2,h3⟩:=hM.nM b _ hg
    rw[ig] at h1;cases h1
    cases h3 with|map _ _ es clock dA Cd Sk=>
    have mI:(getObj l.c).run P w=.ok (.map es clock) w:=by simp[getObj,Sem.run,h2]
    have JI:∀ o2,(setObj l.c o2).run P w=.ok () {w with heap:=w.heap.setIfInBounds l.c o2}:=by
     intro o2;simp[setObj,Sem.run,h2]
    have Hy:l.c<w.heap.size:=hM.wb b l ig
    have nP:w0.heap.size≤l.c:=(hM.own b _ l hg ig).resolve_left (by simp[ah.ro])
    have C4:μ.le (μ.put b l):=Mu.tM (.inr ig)
    have wj:(Instr.checkKey false 10000 kt (.agg xs)).run P w=.ok () w:=Ej false aiE hxs aBp 9997
    have fin:∀ (SV:Array MapEntry) (uP:Nat),kI ρ μ L' SV.toList→(∀ (i:Nat) (e:MapEntry),SV.toList[i]?=some e→e.born=i)→uP=L'.length→(Instr.mapUpdate t (ev m) (ev k) (ev v)).run P w=.ok () {w with heap:=w.heap.setIfInBounds l.c (.map SV uP)}→
      A1 P ρ w0 μ G H nx w (Go.execOp ev ⟨dst,tC,ty,pos,after,guard⟩) (.tuple []) (av b (some (.map L')) H) nx:=by
     intro SV uP Im fb hc' ch
     obtain⟨g1,g2⟩:=hM.put (w':={w with heap:=w.heap.setIfInBounds l.c (.map SV uP)}) b (.map L') l (.map SV uP) (.inr ig)
      ⟨rfl,rfl,rfl,by simp,fun j hj _=>by show(w.heap.setIfInBounds l.c _)[j]?=_;rw[zqn (Ne.symm hj)],fe _⟩
      (by show(w.heap.setIfInBounds l.c _)[l.c]?=_;simp[Hy]) (.map _ _ _ _ (Im.mono C4) fb hc') (fun b' B' l' g m' ne=>hM.sep b' b B' _ l' l g hg m' ig ne) nP (fe _) (hM.new b l ig) (hM.lo0 hg ig rfl)
     refine⟨.skip,_,_,_,?_,rfl,g1,g2,hH.set b _,mn hL ig _ _⟩
     rw[hex]
     simp[ch]
    rcases JP (w:=w) ho aiE GU aBq hrv 0 dA hL' with⟨f,g⟩|⟨j,e1,f,g1,g2,g3⟩
    ·have hlen:=dA.length
     have Kb:=(g clock).length
     refine fin (es.push {key:=ev k,val:=ev v,born:=clock}) (clock+1) (by rw[qq];simpa using g clock) (Q1 Cd (by rw[Sk,hlen])) (by simp at Kb hlen ⊢;omega) ?_
     simp[Oh,qq,Instr.mapUpdate,ab hu,mI,wj,tz al7,f,JI]
    ·have nS:es[j]?=some e1:=by simpa using g1
     have aR:j<es.size:=by
      rcases Dp j es.size with h'|h'
      ·exact h'
      ·rw[Tx h'] at nS;cases nS
     have hlen:=dA.length
     have Kb:=g3.length
     have TD:(es.modify j fun e=>{e with key:=ev k,val:=ev v}).toList=es.toList.set j {e1 with key:=ev k,val:=ev v}:=by
      apply List.ext_getElem?
      intro q
      rw[Array.getElem?_toList,Array.getElem?_modify]
      by_cases hq:j=q
      ·subst hq;rw[if_pos rfl,nS,List.getElem?_set_self (by simpa using aR)];rfl
      ·rw[if_neg hq,List.getElem?_set_ne hq];simp
     refine fin (es.modify j fun e=>{e with key:=ev k,val:=ev v}) clock ?_ (by rw[TD];exact aiu Cd g1 rfl) (by simp at Kb hlen ⊢;omega) ?_
     ·rw[TD,qq];exact g3
     ·have hs:=auh GU hxs
      simp[Oh,qq,Instr.mapUpdate,ab hu,mI,wj,tz al7,f,JI,Instr.keyThatStays,nS,g2,hs]
   ·cases h
  ·cases h
 ·cases h
theorem al1(hM:aP P ρ w0 μ G nx.toNat w)(hH:HSub H G)(ho:cY ρ orc){o:Oper}{p:sW}{pm pk:PX}(hp:gi P nt o=some (.delP p pm pk))(hE:sY P ρ μ nt o.op.operands.toList tm ev)
  {a:AV} {H':T ah} {nx':Key} (h:aOp orc (.delP p pm pk) tm H nx=.val a H' nx'):A1 P ρ w0 μ G H nx w (Go.execOp ev o) a H' nx':=by
 obtain⟨dst,tC,ty,pos,after,guard⟩:=o
 obtain⟨c,t,tl,m,k,kt,e,e0,aua,cy,hty,hu,al7,nR,hm,hk⟩:=dY hp
 obtain⟨callee,args,argTypes⟩:=c
 simp only at e0 aua cy hty
 subst e0 aua cy
 have aFg:argTypes[0]?=some t:=by rw[← Array.getElem?_toList,hty];rfl
 have hex:Go.execOp ev ⟨dst,.call ⟨.builtin .delete,#[m,k],argTypes⟩,ty,pos,after,guard⟩=(do pure (.value (← Builtin.delete_ argTypes ty (#[m,k].map ev)))):=rfl
 have aLo:m∈(Op.call ⟨.builtin .delete,#[m,k],argTypes⟩).operands.toList:=by simp[Op.operands,Call.operands]
 have aLp:k∈(Op.call ⟨.builtin .delete,#[m,k],argTypes⟩).operands.toList:=by simp[Op.operands,Call.operands]
 simp only[aOp] at h
 split at h
 ·rename_i b ka hb hka
  split at h
  ·rename_i L c0 hL
   replace h:=NV h
   obtain⟨sC,h⟩:=h
   obtain⟨pl,A,rfl,rfl,GU,aBp⟩:=NU sC
   split at h
   ·rename_i L' hL'
    rw[sTCe] at h
    simp only[OR.val.injEq] at h
    obtain⟨rfl,rfl,rfl⟩:=h
    have aiE:=aiD al7 nR
    have hrm:=hE m aLo pm _ hm hb
    have hrk:=hE k aLp pk _ hk hka
    generalize Oh:ev m=mm at hrm
    cases hrm with|map _ l r ig hr=>
    subst hr
    generalize qq:ev k=kk at hrk
    have aBq:=hrk
    cases hrk with|agg _ xs hxs=>
    obtain⟨B,l',es,hB,h1,h2,dA,nP,u6⟩:=yD hM hH hL
    rw[ig] at h1;cases h1
    have hg:=hH _ _ hB
    have mI:(getObj l.c).run P w=.ok (.map es c0) w:=by simp[getObj,Sem.run,h2]
    have JI:∀ o2,(setObj l.c o2).run P w=.ok () {w with heap:=w.heap.setIfInBounds l.c o2}:=by
     intro o2;simp[setObj,Sem.run,h2]
    have Hy:l.c<w.heap.size:=hM.wb b l ig
    have C4:μ.le (μ.put b l):=Mu.tM (.inr ig)
    have wj:(Instr.checkKey es.isEmpty 10000 kt (.agg xs)).run P w=.ok () w:=Ej _ aiE hxs aBp 9997
    have fin:∀ (SV:Array MapEntry),gv ρ μ L' SV.toList→(Builtin.delete_ argTypes ty #[ev m,ev k]).run P w=.ok (.tuple #[]) {w with heap:=w.heap.setIfInBounds l.c (.map SV c0)}→
      A1 P ρ w0 μ G H nx w (Go.execOp ev ⟨dst,.call ⟨.builtin .delete,#[m,k],argTypes⟩,ty,pos,after,guard⟩) (.tuple []) (av b (some (.mapD L' c0)) H) nx:=by
     intro SV Im ch
     obtain⟨g1,g2⟩:=hM.put (w':={w with heap:=w.heap.setIfInBounds l.c (.map SV c0)}) b (.mapD L' c0) l (.map SV c0) (.inr ig)
      ⟨rfl,rfl,rfl,by simp,fun j hj _=>by show(w.heap.setIfInBounds l.c _)[j]?=_;rw[zqn (Ne.symm hj)],fe _⟩
      (by show(w.heap.setIfInBounds l.c _)[l.c]?=_;simp[Hy]) (.mapD _ _ _ _ (Im.mono C4)) (fun b' B' l' g m' ne=>hM.sep b' b B' _ l' l g hg m' ig ne) nP (fe _) (hM.new b l ig) (hM.lo0 hg ig u6)
     refine⟨.value (.tuple #[]),_,_,_,?_,.tuple _ _ .nil,g1,g2,hH.set b _,mn hB ig _ _⟩
     rw[hex]
     have e2:#[m,k].map ev=#[ev m,ev k]:=by simp
     rw[e2]
     exact cP ch
    rcases JQ (w:=w) ho aiE GU aBq 0 dA hL' with⟨f,g⟩|⟨j,e1,f,g1,g2⟩
    ·refine fin es g ?_
     simp[Oh,qq,Builtin.delete_,aFg,ab hu,mI,wj,tz al7,f,JI]
    ·refine fin (es.eraseIdxIfInBounds j) (by simpa using g2) ?_
     simp[Oh,qq,Builtin.delete_,aFg,ab hu,mI,wj,tz al7,f,JI]
   ·cases h
  ·cases h
 ·cases h
theorem S9(hM:aP P ρ w0 μ G nx.toNat w)(hH:HSub H G){o:Oper}{px:PX}(hp:gi P nt o=some (.rangeM px))(hE:sY P ρ μ nt o.op.operands.toList tm ev)
  {a:AV} {H':T ah} {nx':Key} (h:aOp orc (.rangeM px) tm H nx=.val a H' nx'):A1 P ρ w0 μ G H nx w (Go.execOp ev o) a H' nx':=by
 obtain⟨dst,tC,ty,pos,after,guard⟩:=o
 obtain⟨t,x,kt,e,e0,hu,hx⟩:=dY hp
 simp only at e0
 subst e0
 simp only[aOp] at h
 split at h
 ·rename_i m hm
  split at h
  ·rename_i L n hL
   obtain⟨rfl,rfl,rfl⟩:=anx h
   have hs:=kTSu nx
   have hrm:=hE x (by simp[Op.operands]) px _ hx hm
   generalize Oh:ev x=mm at hrm
   cases hrm with|map _ l r ig hr=>
   subst hr
   obtain⟨B,l',es,hB,h1,h2,dA,nP,u6⟩:=yD hM hH hL
   rw[ig] at h1;cases h1
   have hk:=hM.mQ
   have bI:m≠nx:=by intro e;subst e;rw[hk] at ig;cases ig
   obtain⟨g1,g2⟩:=hM.alloc (nx':=nx.succ.toNat) nx (.iter m n []) (.mapIter (some l.c) n #[] n) 0 hk
    (.iter m n [] _ l #[] (by rw[Mu.om _ _ bI];exact ig) rfl rfl) (by omega) (by omega)
   refine⟨.value (.pointer (some ⟨w.heap.size,0,none⟩)),w.alloc (.mapIter (some l.c) n #[] n),_,_,?_,?_,g1,g2,hH.set nx _,w9 _ _ _⟩
   ·have mI:(getObj l.c).run P w=.ok (.map es n) w:=by simp[getObj,Sem.run,h2]
    have aju:∀ ob,(newObj ob).run P w=.ok w.heap.size (w.alloc ob):=fun _=>rfl
    show(do pure (Next.value (← Instr.range t (ev x))):Sem Next).run P w=_
    refine cP ?_
    simp[Oh,Instr.range,ab hu,mI,aju]
   ·exact .ptr nx 0 ⟨w.heap.size,0,0⟩ _ (Mu.dq _ _ _) rfl
  ·cases h
 ·cases h
theorem aP.axh(hM:aP P ρ w0 μ G nx.toNat w){w':World}(hT:Touch w w' w.heap.size){arr:Array Value}{elem:TypeId}{f:Nat×Nat}(aju:w'.heap[w.heap.size]?=some (.cells arr elem f)) :
  μ.le ⟨μ.loc,fun c i=>if c=w.heap.size then arr[i]? else μ.fz c i⟩∧aP P ρ w0 ⟨μ.loc,fun c i=>if c=w.heap.size then arr[i]? else μ.fz c i⟩ G nx.toNat w':=by
 have hold:∀ c i v,μ.fz c i=some v→c≠w.heap.size:=by
  intro c i v h e
  subst e
  rw[hM.ajp] at h;cases h
 have hle:μ.le ⟨μ.loc,fun c i=>if c=w.heap.size then arr[i]? else μ.fz c i⟩:=
  ⟨fun _ _ h=>h,fun c i v h=>by show(if c=w.heap.size then arr[i]? else μ.fz c i)=some v;rw[if_neg (hold c i v h)];exact h⟩
 have tL:w0.heap.size≤w.heap.size:=hM.below.size
 refine⟨hle,?_,hM.sep,?_,hM.own,hM.MJ,hM.new,hT.below hM.below tL tL,?_,?_,?_,?_,?_,Nat.le_trans hM.dr hT.dr⟩
 ·intro b B hg
  obtain⟨l,o,h1,h2,h3⟩:=hM.nM b B hg
  have:=hM.wb b l h1
  exact⟨l,o,h1,by rw[hT.other l.c (by omega) this];exact h2,h3.mono hle⟩
 ·intro b l h
  exact LO (hM.wb b l h) hT.size
 ·intro c i v h
  have h:(if c=w.heap.size then arr[i]? else μ.fz c i)=some v:=h
  by_cases hc:c=w.heap.size
  ·subst hc
   rw[if_pos rfl] at h
   exact⟨arr,elem,f,aju,h⟩
  ·rw[if_neg hc] at h
   obtain⟨EC,P2,f',h1,h2⟩:=hM.TV c i v h
   have bN:c<w.heap.size:=by
    rcases Dp c w.heap.size with h'|h'
    ·exact h'
    ·rw[Tx h'] at h1;cases h1
   exact⟨EC,P2,f',by rw[hT.other c hc bN];exact h1,h2⟩
 ·intro b B l n hg hm u6 i hi
  have:=hM.wb b l hm
  show(if l.c=w.heap.size then arr[i]? else μ.fz l.c i)=none
  rw[if_neg (by omega)]
  exact hM.fzf b B l n hg hm u6 i hi
 ·intro c i v h
  exact hle.f c i v (hM.zle c i v h)
 ·intro c i v h
  have h:(if c=w.heap.size then arr[i]? else μ.fz c i)=some v:=h
  by_cases hc:c=w.heap.size
  ·exact .inl (by omega)
  ·rw[if_neg hc] at h
   exact hM.fzo c i v h
 ·intro b L l hg hm
  rcases hM.rof b L l hg hm with h|h
  ·exact .inl h
  ·refine .inr fun EC e ff i v ha hv=>hle.f _ _ _ (h EC e ff i v ?_ hv)
   have:=hM.wb b l hm
   rwa [hT.other l.c (by omega) this] at ha
theorem aiF(w:World)(e:TypeId)(s:ByteArray):Touch w (Lib.bytesWorld w e s) w.heap.size:=by
 refine⟨?_,?_,?_,?_,fun k hk hs=>Lib.bytesWorld_at_old w e s k hs,?_⟩
 ·simp[Lib.bytesWorld,World.freeze,World.alloc,World.drew,-World.alloc_eq,-World.drew_eq]
 ·simp[Lib.bytesWorld,World.freeze,World.alloc,World.drew,-World.alloc_eq,-World.drew_eq]
 ·simp[Lib.bytesWorld,World.freeze,World.alloc,World.drew,-World.alloc_eq,-World.drew_eq]
 ·rw[Lib.bytesWorld_size];omega
 ·simp[Lib.bytesWorld,World.freeze,World.alloc,World.drew,-World.alloc_eq,-World.drew_eq]
theorem Hj:∀ (n c:Nat),(bytesOf n c).length=n
 |0,_=>rfl
 |n+1,c=>by simp[bytesOf,Hj n]
theorem Hk:∀ (l:List UInt8),al ρ μ (bytesOf l.length (enc l)) (l.map fun b=>Value.int .u8 ((b.toNat:Nat):Int))
 | []=>.nil
 |b ::l=>by
  have hb:b.toNat<256:=b.toNat_lt
  have h1:(b.toNat+256*enc l)%256=b.toNat:=by omega
  have h2:(b.toNat+256*enc l) / 256=enc l:=by omega
  simp only[zqi,bytesOf,enc,h1,h2,zqx]
  exact .cons _ _ _ _ (.int _ _ _ rfl) (Hk l)
theorem al2(hM:aP P ρ w0 μ G nx.toNat w)(hH:HSub H G){o:Oper}{px:PX}(hp:gi P nt o=some (.strb px))(hE:sY P ρ μ nt o.op.operands.toList tm ev)
  {a:AV} {H':T ah} {nx':Key} (h:aOp orc (.strb px) tm H nx=.val a H' nx'):A1 P ρ w0 μ G H nx w (Go.execOp ev o) a H' nx':=by
 obtain⟨dst,tC,ty,pos,after,guard⟩:=o
 obtain⟨src,dt,x,e,e0,hs,hd,he,hx⟩:=dY hp
 simp only at e0
 subst e0
 simp only[aOp] at h
 split at h
 ·rename_i n c hc
  simp only[OR.val.injEq] at h
  obtain⟨rfl,rfl,rfl⟩:=h
  have hr:=hE x (by simp[Op.operands]) px _ hx hc
  generalize hU:ev x=xx at hr
  cases hr with|str _ _ s e1 e2=>
  subst e1 e2
  have ch:=Lib.run_convert_string_bytes (P:=P) w src dt e s hs hd he
  have aju:=Lib.bytesWorld_at_new w e s
  obtain⟨g1,g2⟩:=hM.axh (aiF w e s) aju
  have tL:s.size=s.data.toList.length:=Array.length_toList.symm
  refine⟨.value (.slice (some ⟨w.heap.size,0,none⟩) s.size (grownCap w s.size 0 e)),Lib.bytesWorld w e s,_,G,?_,?_,g1,g2,hH,⟨fun _ _ _=>rfl,fun _ _=>rfl,fun _ h _=>h,fe _⟩⟩
  ·show(do pure (Next.value (← convert src dt (ev x))):Sem Next).run P w=_
   rw[hU]
   exact cP ch
  ·rw[tL]
   refine .sl _ _ _ _ _ w.heap.size 0 _ (s.data.toList.map fun b=>Value.int .u8 ((b.toNat:Nat):Int)) (Hk _) (by rw[Hj,Nat.mul_one]) ?_ (.inr rfl) ?_ trivial
   ·simp only[grownCap,Question.cut];omega
   ·intro i v hv
    show(if w.heap.size=w.heap.size then(Lib.bytesCells w e s)[0+i]? else _)=some v
    rw[if_pos rfl,Nat.zero_add]
    have hi:i<s.data.toList.length:=by
     rcases Dp i s.data.toList.length with h'|h'
     ·exact h'
     ·rw[zqo (by simpa using h')] at hv;cases hv
    rw[← hv]
    unfold Lib.bytesCells
    rw[Array.getElem?_append_left (by simpa using hi)]
    simp
 ·cases h
end
end Go.Sx
/-
 SX: every operation that has a value. No condition.
-/
namespace Go.Sx
open Go.RowKit
section
variable{P:Program}{ρ:Nat→Int}{w0:W0}{w:World}{μ:Mu}{G:Key→Option ah}{nx:Key}{orc:gD}{nt:Nat}{tm:T AV}{H:T ah}{ev:Operand→Value}
theorem JN:∀ (l:List UInt8),al ρ μ (bytesOf l.length (enc l)) (l.map fun b=>Value.int .u8 ((b.toNat:Nat):Int))
 | []=>.nil
 |b ::l=>by
  have hb:b.toNat<256:=b.toNat_lt
  have h1:(b.toNat+256*enc l)%256=b.toNat:=by omega
  have h2:(b.toNat+256*enc l) / 256=enc l:=by omega
  simp only[zqi,bytesOf,enc,h1,h2,zqx]
  exact .cons _ _ _ _ (.int _ _ _ rfl) (JN l)
theorem JO:∀ (n c:Nat),(bytesOf n c).length=n
 |0,_=>rfl
 |n+1,c=>by simp[bytesOf,JO n]
theorem S8(hM:aP P ρ w0 μ G nx.toNat w)(hH:HSub H G){o:Oper}{sz:Nat}{ps px:PX}(hp:gi P nt o=some (.append sz ps px))(hE:sY P ρ μ nt o.op.operands.toList tm ev)
  {a:AV} {H':T ah} {nx':Key} (h:aOp orc (.append sz ps px) tm H nx=.val a H' nx'):A1 P ρ w0 μ G H nx w (Go.execOp ev o) a H' nx':=by
 obtain⟨dst,tC,ty,pos,after,guard⟩:=o
 obtain⟨c,s,x,t,u,e,i,ie,e0,aua,cy,hty,hu,hu',EE,hi,tL,ML,hzl,hby,hs,hx⟩:=dY hp
 obtain⟨callee,args,argTypes⟩:=c
 simp only at e0 aua cy hty
 subst e0 aua cy hty
 obtain⟨i',d,z,Sm,hd,hz,Sl,aLf,LC⟩:=iJ EE
 rw[hi] at Sm;cases Sm
 have hzr:al ρ μ ie.zero.cells z.cells.toList:=(fK qG z ie.zero Sl).cells
 have hzs:z.cells.size=i.size:=by rw[← aLf,← hzl,hzr.length];simp
 have hT:apC P t u e i z:=⟨hu,hu',hi,hz,by omega,hzs,hby⟩
 have MM:sz=i.size:=by omega
 subst MM
 have hms:s∈(Op.call ⟨.builtin .append,#[s,x],#[t,u]⟩).operands.toList:=by simp[Op.operands,Call.operands]
 have hmx:x∈(Op.call ⟨.builtin .append,#[s,x],#[t,u]⟩).operands.toList:=by simp[Op.operands,Call.operands]
 have aBj:∀ (sa:AV) (new:List AV) (m:Nat) (us:Array Value) (μ1:Mu) (G1:Key→Option ah) (H1:T ah),gC P ρ w0 w nx μ G H μ1 G1 H1→ps.at tm=some sa→MH P ρ μ1 w i.size (ev x) new m us→appendTo i.size sa new m H1 nx=.val a H' nx'→
   A1 P ρ w0 μ G H nx w (Go.execOp ev ⟨dst,.call ⟨.builtin .append,#[s,x],#[t,u]⟩,ty,pos,after,guard⟩) a H' nx':=by
  intro sa new m us μ1 G1 H1 f1 hsa aBk hap
  obtain⟨v,w',μ',G',r1,r2,r3,r4,r5,r6⟩:=MK f1.M f1.hs hT ty ((hE s hms ps sa hs hsa).mono f1.le) aBk hap
  refine⟨.value v,w',μ',G',?_,r2,Mu.le_trans f1.le r3,r4,r5,f1.kept.trans r6⟩
  have:Go.execOp ev ⟨dst,.call ⟨.builtin .append,#[s,x],#[t,u]⟩,ty,pos,after,guard⟩=(do pure (.value (← Builtin.append_ #[t,u] ty (#[s,x].map ev)))):=rfl
  have e2:#[s,x].map ev=#[ev s,ev x]:=by simp
  rw[this,e2]
  exact cP r1
 have fin:∀ (sa:AV) (new:List AV) (m:Nat) (us:Array Value),ps.at tm=some sa→MH P ρ μ w i.size (ev x) new m us→appendTo i.size sa new m H nx=.val a H' nx'→
   A1 P ρ w0 μ G H nx w (Go.execOp ev ⟨dst,.call ⟨.builtin .append,#[s,x],#[t,u]⟩,ty,pos,after,guard⟩) a H' nx':=
  fun sa new m us hsa aBk hap=>aBj sa new m us μ G H (gC.refl hM hH) hsa aBk hap
 simp only[aOp] at h
 split at h
 ·rename_i sa hsa hxa
  have hv:=hE x hmx px _ hx hxa
  generalize hU:ev x=xx at hv fin
  cases hv
  exact fin sa [] 0 #[] hsa ⟨rfl,fun _=>rfl,.nil,by simp⟩ h
 ·rename_i sa b off len Ff hsa hxa
  replace h:=(show Nat.beq i.size Ff=true∧_ from by
   cases hb:Nat.beq i.size Ff with
   |false=>rw[hb] at h;cases h
   |true=>rw[hb] at h;exact⟨rfl,h⟩)
  obtain⟨auc,h⟩:=h
  have auc:=ml auc
  subst auc
  simp only[cond_true] at h
  split at h
  ·rename_i L ck hL
   rw[takeC_eq,dropL_eq] at h
   split at h
   ·rename_i hle
    have hv:=hE x hmx px _ hx hxa
    generalize hU:ev x=xx at hv aBj
    cases hv with|slice _ _ _ _ cap l ad ig AY hlen kP=>
    obtain⟨l',arr,elem,fz,k1,k2,k3,k4,k5,k7⟩:=hM.cells (hH _ _ hL)
    rw[ig] at k1;cases k1
    rw[sX (Bq 9999)] at h
    have ta:al ρ μ ((L.drop off).take (len*i.size)) ((arr.toList.drop (l.base+off)).take (len*i.size)):=by
     by_cases h0:len=0
     ·subst h0;simp;exact .nil
     ·have:0<len*i.size:=Nat.mul_pos (by omega) (by omega)
      simp at hle
      simpa using tD k3 (by omega) (by omega)
    obtain⟨μ1,G1,f1,r1⟩:=mg (yA 9999) _ _ μ G H hM hH ta
    refine aBj sa _ len ((arr.toList.drop (l.base+off)).take (len*i.size)).toArray μ1 G1 _ f1 hsa ⟨rfl,?_,r1,?_⟩ h
    ·intro d
     simp only[Builtin.firstCells]
     by_cases h0:len=0
     ·subst h0;simp[loadCells,loadCellsFrom]
     ·have kP:ad=⟨l.c,l.base+off,none⟩:=kP.resolve_left (by omega)
      subst kP
      refine ja P {w with drawn:=d} l.c (l.base+off) arr elem fz k2 (len*i.size) ?_
      simp at hle
      have:0<len*i.size:=Nat.mul_pos (by omega) (by omega)
      omega
    ·rw[yK,zqy];omega
   ·cases h
  ·cases h
 ·rename_i sa L len Ff fl hsa hxa
  cases hb:Nat.beq i.size Ff with
  |false=>rw[hb] at h;cases h
  |true=>
   rw[hb] at h
   simp only[cond_true] at h
   have auc:=ml hb
   subst auc
   have hv:=hE x hmx px _ hx hxa
   generalize hU:ev x=xx at hv fin
   cases hv with|sl _ _ _ _ cap c o ad vs ta hn hle kP hf hg=>
   have hvl:=ta.length
   refine fin sa L len vs.toArray hsa ⟨rfl,?_,by simpa using ta,hn⟩ h
   intro d
   simp only[Builtin.firstCells]
   by_cases h0:len=0
   ·subst h0
    have:vs=[]:=TW (by omega)
    subst this
    simp[loadCells,loadCellsFrom]
   ·have kP:ad=⟨c,o,none⟩:=kP.resolve_left (by omega)
    subst kP
    rw[K5 (hM.ar5 d) hf (by omega),P8 (by omega)]
 ·rename_i sa n c hsa hxa
  cases hb:Nat.beq i.size 1 with
  |false=>rw[hb] at h;cases h
  |true=>
   rw[hb] at h
   simp only[cond_true] at h
   have h1:=ml hb
   have hv:=hE x hmx px _ hx hxa
   generalize hU:ev x=xx at hv fin
   cases hv with|str _ _ st dQ axd=>
   subst dQ axd
   refine fin sa _ _ (st.data.map fun b=>Value.int .u8 ((b.toNat:Nat):Int)) hsa ⟨?_,?_,?_,?_⟩ h
   ·simp only[Builtin.lenOf,qi,Lib.size_eq]
   ·intro d
    simp only[Builtin.firstCells,qi]
    have:(st.extract 0 st.data.toList.length)=st:=by
     apply ByteArray.ext
     apply Array.ext'
     rw[Lib.extract_data]
     simp only[List.drop_zero,Nat.sub_zero,List.take_length]
    rw[this]
   ·simpa using JN (ρ:=ρ) (μ:=μ) st.data.toList
   ·rw[JO,h1,Nat.mul_one]
 ·cases h
theorem aBl{x:Option AV}{a:AV}{H':T ah}{nx':Key}(h:okV H nx x=.val a H' nx'):x=some a∧H'=H∧nx'=nx:=by
 cases x with
 |none=>cases h
 |some v=>simp only[okV,OR.val.injEq] at h;exact⟨by rw[h.1],h.2.1.symm,h.2.2.symm⟩
theorem QG(hM:aP P ρ w0 μ G nx.toNat w)(hH:HSub H G)(ho:cY ρ orc){o:Oper}{op:Fa}(hp:gi P nt o=some op)(hE:sY P ρ μ nt o.op.operands.toList tm ev)
  {a:AV} {H':T ah} {nx':Key} (h:aOp orc op tm H nx=.val a H' nx'):A1 P ρ w0 μ G H nx w (Go.execOp ev o) a H' nx':=by
 have aLh:okV H nx (lightOp orc op tm H)=.val a H' nx'→A1 P ρ w0 μ G H nx w (Go.execOp ev o) a H' nx':=by
  intro h
  obtain⟨h1,rfl,rfl⟩:=aBl h
  obtain⟨v,h2,h3⟩:=Jy hM hH ho hp hE h1
  exact aj4 hM hH h2 h3
 have aud:(match allocOp op tm with|some (v,b)=>newB v b H nx|none=>.bad 2)=.val a H' nx'→A1 P ρ w0 μ G H nx w (Go.execOp ev o) a H' nx':=by
  intro h
  split at h
  ·rename_i f B hl
   obtain⟨rfl,rfl,rfl⟩:=anx h
   exact aj5 hM hH hp hE hl
  ·cases h
 cases op with
 |store n pa pv=>exact VC hM hH hp hE h
 |mapupd sk pm pk pv=>exact SU hM hH ho hp hE h
 |mapupdP p pm pk pv=>exact PB hM hH ho hp hE h
 |delP p pm pk=>exact al1 hM hH ho hp hE h
 |rangeM px=>exact S9 hM hH hp hE h
 |strb px=>exact al2 hM hH hp hE h
 |nextM px=>
  exfalso
  simp only[aOp] at h
  repeat' (first|(cases h;done)|split at h)
  all_goals (rw[show ∀ (b:Bool) (x y:OR),(bif b then x else y)=if b=true then x else y from fun b x y=>by cases b<;>rfl] at h;repeat' (first|(cases h;done)|split at h))
 |append sz ps px=>exact S8 hM hH hp hE h
 |new zs=>exact aud h
 |box x=>exact aud h
 |bslice sz len zs ps=>exact aud h
 |mkmap=>exact aud h
 |mkslice sz zs l c=>exact aud h
 |callF f l=>simp only[aOp] at h;split at h<;>cases h
 |callV v l=>simp only[aOp] at h;split at h<;>cases h
 |dfr v l=>simp only[aOp] at h;split at h<;>cases h
 |panic x=>simp only[aOp] at h;split at h<;>cases h
 |recover=>cases h
 |_=>exact aLh h
end
end Go.Sx
/-
 SX: operations that enter a function, panic, defer, recover. No condition.
-/
namespace Go.Sx
open Go.RowKit
section
variable{P:Program}{ρ:Nat→Int}{w0:W0}{w:World}{μ:Mu}{G:Key→Option ah}{nx:Key}{orc:gD}{nt:Nat}{tm:T AV}{H:T ah}{ev:Operand→Value}
theorem OZ{op:Fa}{r:OR}(h:aOp orc op tm H nx=r)(hl:aOp orc op tm H nx=okV H nx (lightOp orc op tm H)):(∃ a H' nx',r=.val a H' nx')∨∃ n,r=.bad n:=by
 rw[hl] at h
 subst h
 cases lightOp orc op tm H with
 |none=>exact .inr ⟨_,rfl⟩
 |some v=>exact .inl ⟨_,_,_,rfl⟩
def yB(r:OR):Prop:=(∃ a H' nx',r=.val a H' nx')∨∃ n,r=.bad n
def azm:Fa→Bool
 |.callF _ _|.callV _ _|.dfr _ _|.panic _|.recover|.nextM _=>true
 |_=>false
theorem amG{α:Type}{vs:List α}{off:Nat}{l:List α}{bad:OR}{c:List α→OR}(hb:yB bad)(hc:∀ l,yB (c l)):yB (Ua vs off l bad c):=by
 rw[putC_eq];split
 ·exact hc _
 ·exact hb
theorem MS{α:Type}{n:Nat}{l:List α}{bad:OR}{c:List α→OR}(hb:yB bad)(hc:∀ l,yB (c l)):yB (vm n l bad c):=by
 rw[takeC_eq];split
 ·exact hc _
 ·exact hb
theorem bJ(n:Nat):yB (.bad n):=.inr ⟨n,rfl⟩
theorem kO(a:AV)(H:T ah)(nx:Key):yB (.val a H nx):=.inl ⟨_,_,_,rfl⟩
theorem H6(f:Key→AV)(B:ah):yB (newB f B H nx):=by simp only[newB,sTCe];exact kO _ _ _
theorem gK{b:Bool}{x y:OR}(hx:yB x)(hy:yB y):yB (bif b then x else y):=by cases b<;>assumption
theorem te(sz:Nat)(s:AV)(new:List AV)(m:Nat):yB (appendTo sz s new m H nx):=by
 unfold appendTo
 split
 ·refine gK (kO _ _ _) (gK ?_ (bJ _))
  rw[sTCe];exact kO _ _ _
 ·refine gK (kO _ _ _) (gK ?_ (bJ _))
  split
  ·exact bJ _
  ·split
   ·rw[appC_eq,sTCe,sTCe];exact kO _ _ _
   ·exact bJ _
 ·refine gK ?_ (bJ _)
  split
  ·refine gK (amG (bJ _) fun _=>by rw[sTCe];exact kO _ _ _) (MS (bJ _) fun _=>?_)
   rw[sX (Bq 9999),appC_eq,sTCe];exact kO _ _ _
  ·refine gK (bJ _) (MS (bJ _) fun _=>?_)
   rw[sX (Bq 9999),appC_eq,sTCe];exact kO _ _ _
  ·refine gK (kO _ _ _) (gK (gK ?_ ?_) (bJ _))<;>(rw[appC_eq,sTCe,sTCe];exact kO _ _ _)
  ·exact bJ _
 ·exact bJ _
theorem azn{op:Fa}(he:azm op=false):yB (aOp orc op tm H nx):=by
 cases op with
 |callF f' ps=>cases he
 |callV pv ps=>cases he
 |dfr v l=>cases he
 |panic x=>cases he
 |recover=>cases he
 |nextM x=>cases he
 |mapupdP p pm pk pv=>
  simp only[aOp]
  split
  ·split
   ·refine gK ?_ (bJ _)
    split
    ·rw[sTCe];exact kO _ _ _
    ·exact bJ _
   ·exact bJ _
  ·exact bJ _
 |delP p pm pk=>
  simp only[aOp]
  split
  ·split
   ·refine gK ?_ (bJ _)
    split
    ·rw[sTCe];exact kO _ _ _
    ·exact bJ _
   ·exact bJ _
  ·exact bJ _
 |rangeM x=>
  simp only[aOp]
  split
  ·split
   ·exact H6 _ _
   ·exact bJ _
  ·exact bJ _
 |strb x=>
  simp only[aOp]
  split
  ·exact kO _ _ _
  ·exact bJ _
 |store n pa pv=>
  simp only[aOp]
  split
  ·refine gK ?_ (bJ _)
   split
   ·exact bJ _
   ·exact amG (bJ _) fun _=>by rw[sTCe];exact kO _ _ _
   ·exact bJ _
  ·exact bJ _
 |mapupd sk pm pk pv=>
  simp only[aOp]
  split
  ·split
   ·split
    ·rw[sTCe];exact kO _ _ _
    ·exact bJ _
   ·exact bJ _
  ·exact bJ _
 |append sz ps px=>
  simp only[aOp]
  split
  ·exact te _ _ _ _
  ·refine gK ?_ (bJ _)
   split
   ·exact MS (bJ _) fun _=>by rw[sX (Bq 9999)];exact te _ _ _ _
   ·exact bJ _
  ·exact gK (te _ _ _ _) (bJ _)
  ·exact gK (te _ _ _ _) (bJ _)
  ·exact bJ _
 |new zs=>simp only[aOp];split;exact H6 _ _;exact bJ _
 |box x=>simp only[aOp];split;exact H6 _ _;exact bJ _
 |bslice sz len zs ps=>simp only[aOp];split;exact H6 _ _;exact bJ _
 |mkmap=>simp only[aOp];split;exact H6 _ _;exact bJ _
 |mkslice sz zs l c=>simp only[aOp];split;exact H6 _ _;exact bJ _
 |_=>exact OZ rfl rfl
theorem GF{x:PX}{r:OR}(h:aOp orc (.nextM x) tm H nx=r):(∃ l,r=.alt l)∨∃ n,r=.bad n:=by
 simp only[aOp] at h
 split at h
 ·split at h
  ·split at h
   ·rename_i m n seen _ _ L c _
    cases hb:(Nat.beq c n&&HG n L) with
    |false=>rw[hb] at h;exact .inr ⟨_,h.symm⟩
    |true=>
     rw[hb] at h
     simp only[cond_true] at h
     split at h
     ·exact .inl ⟨_,h.symm⟩
     ·exact .inl ⟨_,h.symm⟩
   ·exact .inr ⟨_,h.symm⟩
  ·exact .inr ⟨_,h.symm⟩
 ·exact .inr ⟨_,h.symm⟩
theorem CP{op:Fa}{r:OR}(h:aOp orc op tm H nx=r)(hr:¬ yB r):azm op=true:=by
 cases he:azm op with
 |true=>rfl
 |false=>exact absurd (h ▸ azn (orc:=orc) (tm:=tm) (H:=H) (nx:=nx) he) hr
theorem amH{f:Nat}{first cap:List AV}{v:Value}(h:aC ρ μ (.fn f first cap) v):∃ vs ws,v=.func (.func f) vs ws∧al ρ μ first vs.toList∧al ρ μ cap ws.toList:=by
 cases h with|fn _ _ _ vs ws h h'=>exact⟨vs,ws,rfl,h,h'⟩
theorem tg {f : Nat} {fn : Func} (hf : P.funcs[f]? = some fn) (hb : fn.body.isSome = true) (hn : fn.name ≠ "runtime.NumGoroutine") (args : Array Value) : (callFunc f args).run P w = .ok (.enter f args) w := by
 have h1:fn.body.isNone=false:=by cases h:fn.body<;>simp_all
 have h2 : (fn.name == "runtime.NumGoroutine") = false := by simpa using hn
 simp only[callFunc,lF,run_program,iZ,hf,h2,h1,Ow,if_false,qi]
theorem ai7{o:Oper}{op:Fa}(hp:gi P nt o=some op)(hE:sY P ρ μ nt o.op.operands.toList tm ev){f:Nat}{l:List AV}(h:aOp orc op tm H nx=.call f l)
  {fn : Func} (hf : P.funcs[f]? = some fn) (hb : fn.body.isSome = true) (hn : fn.name ≠ "runtime.NumGoroutine") :
  ∃ args,(Go.execOp ev o).run P w=.ok (.enter f args) w∧al ρ μ l args.toList:=by
 have he:=CP h (by rintro(⟨_,_,_,e⟩|⟨_,e⟩)<;>cases e)
 obtain⟨dst,tC,ty,pos,after,guard⟩:=o
 cases op<;>first|(cases he;done)|skip
 ·rcases GF h with⟨_,e⟩|⟨_,e⟩<;>cases e
 ·rename_i f' ps
  obtain⟨c,fn',e0,hc,cy,_⟩:=dY hp
  obtain⟨callee,args,argTypes⟩:=c
  simp only at e0 hc cy
  subst e0 hc
  simp only[aOp] at h
  split at h
  ·rename_i l' Ur
   simp only[OR.call.injEq] at h
   obtain⟨rfl,rfl⟩:=h
   have hv:aC ρ μ (.fn f' [] []) (ev (.func f')):=hE (.func f') (by simp[Op.operands,Call.operands]) _ _ rfl rfl
   obtain⟨vs,ws,e1,h1,h2⟩:=amH hv
   have hvs:vs=#[]:=by apply Array.ext';generalize vs.toList=x at h1;cases h1;rfl
   have hws:ws=#[]:=by apply Array.ext';generalize ws.toList=x at h2;cases h2;rfl
   subst hvs hws
   refine⟨args.map ev,?_,?_⟩
   ·simp[Go.execOp,resolve,e1,Deferred.ofValue,invoke,tg hf hb hn]
   ·have:=jL (ev:=ev) cy Ur (hE.sub fun y hy=>by simp[Op.operands,Call.operands] at hy ⊢;exact .inr hy)
    simpa using this
  ·cases h
 ·rename_i pv ps
  obtain⟨c,x,e0,hc,hx,cy⟩:=dY hp
  obtain⟨callee,args,argTypes⟩:=c
  simp only at e0 hc cy
  subst e0 hc
  simp only[aOp] at h
  split at h
  ·rename_i f' first cap l' Ri Ur
   simp only[OR.call.injEq] at h
   obtain⟨rfl,rfl⟩:=h
   have hv:=hE x (by simp[Op.operands,Call.operands]) pv _ hx Ri
   obtain⟨vs,ws,e1,h1,h2⟩:=amH hv
   refine⟨vs++args.map ev++ws,?_,?_⟩
   ·simp[Go.execOp,resolve,e1,Deferred.ofValue,invoke,tg hf hb hn]
   ·have:=jL (ev:=ev) cy Ur (hE.sub fun y hy=>by simp[Op.operands,Call.operands] at hy ⊢;exact .inr hy)
    have h3:al ρ μ l' (args.map ev).toList:=by simpa using this
    simpa using(h1.append h3).append h2
  ·cases h
  ·cases h
 ·rename_i v l';simp only[aOp] at h;split at h<;>cases h
 ·rename_i x;simp only[aOp] at h;split at h<;>cases h
 ·cases h
theorem apl{o:Oper}{op:Fa}(hp:gi P nt o=some op)(hE:sY P ρ μ nt o.op.operands.toList tm ev){k:Key}{l:List AV}(h:aOp orc op tm H nx=.yld k l) :
  ∃ args lc,μ k=some lc∧(Go.execOp ev o).run P w=(Instr.yield lc.c args).run P w∧al ρ μ l args.toList:=by
 have he:=CP h (by rintro(⟨_,_,_,e⟩|⟨_,e⟩)<;>cases e)
 obtain⟨dst,tC,ty,pos,after,guard⟩:=o
 cases op<;>first|(cases he;done)|skip
 ·rcases GF h with⟨_,e⟩|⟨_,e⟩<;>cases e
 ·simp only[aOp] at h;split at h<;>cases h
 ·rename_i pv ps
  obtain⟨c,x,e0,hc,hx,cy⟩:=dY hp
  obtain⟨callee,args,argTypes⟩:=c
  simp only at e0 hc cy
  subst e0 hc
  simp only[aOp] at h
  split at h
  ·cases h
  ·rename_i k' l' Ri Ur
   simp only[OR.yld.injEq] at h
   obtain⟨rfl,rfl⟩:=h
   have hv:=hE x (by simp[Op.operands,Call.operands]) pv _ hx Ri
   generalize hU:ev x=xx at hv
   cases hv with|yld _ lc r hm hr=>
   subst hr
   refine⟨args.map ev,lc,hm,?_,?_⟩
   ·simp[Go.execOp,resolve,hU,Deferred.ofValue,invoke]
   ·have:=jL (ev:=ev) cy Ur (hE.sub fun y hy=>by simp[Op.operands,Call.operands] at hy ⊢;exact .inr hy)
    simpa using this
  ·cases h
 ·simp only[aOp] at h;split at h<;>cases h
 ·simp only[aOp] at h;split at h<;>cases h
 ·cases h
theorem apn{o:Oper}{op:Fa}(hp:gi P nt o=some op)(hE:sY P ρ μ nt o.op.operands.toList tm ev){a:AV}(h:aOp orc op tm H nx=.pan a) :
  ∃ v,(Go.execOp ev o).run P w=.halt (.panic v) w∧aC ρ μ a v:=by
 have he:=CP h (by rintro(⟨_,_,_,e⟩|⟨_,e⟩)<;>cases e)
 obtain⟨dst,tC,ty,pos,after,guard⟩:=o
 cases op<;>first|(cases he;done)|skip
 ·rcases GF h with⟨_,e⟩|⟨_,e⟩<;>cases e
 ·simp only[aOp] at h;split at h<;>cases h
 ·simp only[aOp] at h;split at h<;>cases h
 ·simp only[aOp] at h;split at h<;>cases h
 ·rename_i px
  obtain⟨x,e0,hx⟩:=dY hp
  simp only at e0
  subst e0
  simp only[aOp] at h
  split at h
  ·rename_i t u hu
   simp only[OR.pan.injEq] at h;subst h
   have hv:=hE x (by simp[Op.operands]) px _ hx hu
   refine⟨ev x,?_,hv⟩
   generalize hU:ev x=xx at hv
   cases hv
   simp[Go.execOp,hU,Instr.panic]
  ·cases h
 ·cases h
theorem apo{o:Oper}{op:Fa}(hp:gi P nt o=some op)(hE:sY P ρ μ nt o.op.operands.toList tm ev){f:Nat}{l:List AV}(h:aOp orc op tm H nx=.dfr f l) :
  ∃ c ws vs,o.op=.defer c∧(resolve ev c o.type).run P w=.ok ⟨.fn (.func f) ws,vs⟩ w∧(Go.execOp ev o).run P w=.ok (.defer ⟨.fn (.func f) ws,vs⟩) w∧al ρ μ l (vs++ws).toList:=by
 have he:=CP h (by rintro(⟨_,_,_,e⟩|⟨_,e⟩)<;>cases e)
 obtain⟨dst,tC,ty,pos,after,guard⟩:=o
 cases op<;>first|(cases he;done)|skip
 ·rcases GF h with⟨_,e⟩|⟨_,e⟩<;>cases e
 ·simp only[aOp] at h;split at h<;>cases h
 ·simp only[aOp] at h;split at h<;>cases h
 ·rename_i pv ps
  obtain⟨c,x,e0,hc,hx,cy⟩:=dY hp
  obtain⟨callee,args,argTypes⟩:=c
  simp only at e0 hc cy
  subst e0 hc
  simp only[aOp] at h
  split at h
  ·rename_i f' first cap l' Ri Ur
   simp only[OR.dfr.injEq] at h
   obtain⟨rfl,rfl⟩:=h
   have hv:=hE x (by simp[Op.operands,Call.operands]) pv _ hx Ri
   obtain⟨vs,ws,e1,h1,h2⟩:=amH hv
   refine⟨_,ws,vs++args.map ev,rfl,?_,?_,?_⟩
   ·simp[resolve,e1,Deferred.ofValue]
   ·simp[Go.execOp,resolve,e1,Deferred.ofValue]
   ·have:=jL (ev:=ev) cy Ur (hE.sub fun y hy=>by simp[Op.operands,Call.operands] at hy ⊢;exact .inr hy)
    have h3:al ρ μ l' (args.map ev).toList:=by simpa using this
    simpa using(h1.append h3).append h2
  ·cases h
 ·simp only[aOp] at h;split at h<;>cases h
 ·cases h
theorem Ot{o:Oper}{op:Fa}(hp:gi P nt o=some op)(h:aOp orc op tm H nx=.recover):(Go.execOp ev o).run P w=.ok .recover w:=by
 have he:=CP h (by rintro(⟨_,_,_,e⟩|⟨_,e⟩)<;>cases e)
 obtain⟨dst,tC,ty,pos,after,guard⟩:=o
 cases op<;>first|(cases he;done)|skip
 ·rcases GF h with⟨_,e⟩|⟨_,e⟩<;>cases e
 ·simp only[aOp] at h;split at h<;>cases h
 ·simp only[aOp] at h;split at h<;>cases h
 ·simp only[aOp] at h;split at h<;>cases h
 ·simp only[aOp] at h;split at h<;>cases h
 ·obtain⟨c,e0,hc,cy⟩:=dY hp
  obtain⟨callee,args,argTypes⟩:=c
  simp only at e0 hc cy
  subst e0 hc cy
  simp[Go.execOp,resolve,invoke,Go.builtin]
end
end Go.Sx
