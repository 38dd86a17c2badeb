/- A part of the proof. No condition. -/
import Derived.Test.YtecbfpngkfdkoaaGreatP6
set_option linter.unusedSimpArgs false
set_option linter.unusedVariables false
set_option linter.unusedSectionVars false
namespace Go.Sx
open Go.RowKit
mutual
def AV.sub(ρ:Nat→Int):AV→AV
 |.int k s=>.int k (.lit (s.den ρ))
 |.iface t v=>.iface t (AV.sub ρ v)
 |.agg l=>.agg (AV.ep ρ l)
 |.tuple l=>.tuple (AV.ep ρ l)
 |.sl l n z f=>.sl (AV.ep ρ l) n z f
 |.cref l=>.cref (AV.ep ρ l)
 |.fn f a c=>.fn f (AV.ep ρ a) (AV.ep ρ c)
 |a=>a
def AV.ep(ρ:Nat→Int):List AV→List AV
 | []=>[]
 |a ::l=>AV.sub ρ a ::AV.ep ρ l
end
theorem AV.Li(ρ:Nat→Int):∀l:List AV,(AV.ep ρ l).length=l.length
 | []=>rfl
 |_ ::l=>by simp only[AV.ep,HW,AV.Li ρ l]
section
variable{ρ ρ':Nat→Int}{μ:Mu}
mutual
theorem aU.sub:∀{a:AV} {v:Value},aU ρ μ a v→aU ρ' μ (a.sub ρ) v
 |_,_,.bool b=>.bool b
 |_,_,.int k s n h=>.int k _ n h
 |_,_,.str n c s h h'=>.str n c s h h'
 |_,_,.ptr b off l a h ha=>.ptr b off l a h ha
 |_,_,.nilp=>.nilp
 |_,_,.slice b off len sz cap l a h hc hl ha=>.slice b off len sz cap l a h hc hl ha
 |_,_,.nils=>.nils
 |_,_,.map b l r h hr=>.map b l r h hr
 |_,_,.nilm=>.nilm
 |_,_,.fn f first cap vs ws h h'=>.fn f _ _ vs ws (ax.sub h) (ax.sub h')
 |_,_,.yld b l r h hr=>.yld b l r h hr
 |_,_,.nilf=>.nilf
 |_,_,.iface t a v h=>.iface t _ v (aU.sub h)
 |_,_,.nili=>.nili
 |_,_,.agg l vs h=>.agg _ vs (ax.sub h)
 |_,_,.tuple l vs h=>.tuple _ vs (ax.sub h)
 |_,_,.sl l len sz fl cap c o a vs h hn hl ha hf hg=>.sl _ len sz fl cap c o a vs (ax.sub h) (by rw[AV.Li];exact hn) hl ha hf hg
 |_,_,.cref l c o a vs h ha hf=>.cref _ c o a vs (ax.sub h) ha hf
theorem ax.sub:∀{l:List AV} {vs:List Value},ax ρ μ l vs→ax ρ' μ (AV.ep ρ l) vs
 |_,_,.nil=>.nil
 |_,_,.cons a l v vs h h'=>.cons _ _ v vs (aU.sub h) (ax.sub h')
end
mutual
theorem aU.Er:∀(a:AV) {v:Value},aU ρ' μ (a.sub ρ) v→aU ρ μ a v
 |.bool b,_,h=>by cases h;exact .bool b
 |.int k s,_,h=>by cases h with|int _ _ n h=>exact .int k s n h
 |.str n c,_,h=>by cases h with|str _ _ s h h'=>exact .str n c s h h'
 |.ptr b off,_,h=>by cases h with|ptr _ _ l a h ha=>exact .ptr b off l a h ha
 |.nilp,_,h=>by cases h;exact .nilp
 |.slice b off len sz,_,h=>by cases h with|slice _ _ _ _ cap l a h hc hl ha=>exact .slice b off len sz cap l a h hc hl ha
 |.nils,_,h=>by cases h;exact .nils
 |.map b,_,h=>by cases h with|map _ l r h hr=>exact .map b l r h hr
 |.nilm,_,h=>by cases h;exact .nilm
 |.fn f a c,_,h=>by cases h with|fn _ _ _ vs ws h h'=>exact .fn f a c vs ws (ax.Er a h) (ax.Er c h')
 |.yld b,_,h=>by cases h with|yld _ l r h hr=>exact .yld b l r h hr
 |.nilf,_,h=>by cases h;exact .nilf
 |.iface t a,_,h=>by cases h with|iface _ _ v h=>exact .iface t a v (aU.Er a h)
 |.nili,_,h=>by cases h;exact .nili
 |.agg l,_,h=>by cases h with|agg _ vs h=>exact .agg l vs (ax.Er l h)
 |.tuple l,_,h=>by cases h with|tuple _ vs h=>exact .tuple l vs (ax.Er l h)
 |.sl l len sz fl,_,h=>by cases h with|sl _ _ _ _ cap c o a vs h hn hl ha hf hg=>exact .sl l len sz fl cap c o a vs (ax.Er l h) (by rw[AV.Li]at hn;exact hn) hl ha hf hg
 |.cref l,_,h=>by cases h with|cref _ c o a vs h ha hf=>exact .cref l c o a vs (ax.Er l h) ha hf
theorem ax.Er:∀(l:List AV) {vs:List Value},ax ρ' μ (AV.ep ρ l) vs→ax ρ μ l vs
 | [],_,h=>by cases h;exact .nil
 |a ::l,_,h=>by cases h with|cons _ _ v vs h h'=>exact .cons a l v vs (aU.Er a h) (ax.Er l h')
end
end
noncomputable def Ty{α:Type}:List Key→T α→T α
 | [],_=>.nil
 |k ::r,t=>match ag k t with
  |some v=>x0 k (some v) (Ty r t) fun t=>t
  |none=>Ty r t
theorem Ii{α:Type}(t:T α):∀(ks:List Key) {b:Key} {v:α},ag b (Ty ks t)=some v→ag b t=some v
 | [],b,v,h=>by simp[Ty]at h
 |k ::r,b,v,h=>by
  unfold Ty at h;cases hk:ag k t with
  |none=>rw[hk]at h;exact Ii t r h
  |some x=>
   rw[hk]at h;simp only[sTCe]at h;by_cases e:b=k
   ·subst e;rw[gTSm]at h;rw[hk];exact h
   ·rw[aD _ _ _ _ e]at h;exact Ii t r h
noncomputable def Ba(ss ks:List Key):SR→Option AM
 |.next ⟨fr,[],h,nx⟩=>match fr.todo with
  |.inLoop _ ::_=>some ⟨{fr with tm:=Ty ss fr.tm},[],Ty ks h,nx⟩
  |_=>none
 |_=>none
inductive Fin(C:bH)(f:Nat)(v:AV):AM→Prop
 |done {m:AM} (n:Nat) {H:T ai} {nx:Key} (h:wi C n m=.done f v H nx):Fin C f v m
 |seg {m m':AM} (n:Nat) (ss ks:List Key) (h:Ba ss ks (wi C n m)=some m') (h':Fin C f v m'):Fin C f v m
section
variable{P:Program}{ρ:Nat→Int}{C:bH}{w0:W0}{μ0:Mu}{rest:List Frame}
theorem aeJ{r:SR}{ss ks:List Key}{m':AM}(h:Ba ss ks r=some m'):∃m,r=.next m∧∀{fr:Frame} {cs:List Frame} {w:World},A8 P ρ C.orc w0 μ0 m fr cs w→cs=[]∧A8 P ρ C.orc w0 μ0 m' fr [] w:=by
 unfold Ba at h;split at h
 ·rename_i fr h0 nx;split at h
  ·rename_i c k ht;simp only[dS]at h;subst h;refine⟨_,rfl,?_⟩;intro IV cs w hm;obtain⟨μ,G,h1,h2,h3,h4,h5,h6⟩:=hm.ex;have C0:cs=[]:=by
    cases cs with
    |nil=>rfl
    |cons x l=>exact h5.elim
   subst C0;refine⟨rfl,⟨μ,G,h1,h2,fun b B hb=>h3 b B (Ii _ _ hb),?_,trivial,?_⟩⟩
   ·cases h4 with
    |run nt hb hm1 NR hT=>
     have DH:fr.todo=_:=ht;simp only[ht]at hT;generalize hK:IV.todo=K at hT;generalize hTm:IV.tmps=TM at hT;generalize hL:db.inLoop c ::k=LL at hT;cases hT with
     |plain _ _ _ _ hr htr=>refine .run nt ⟨hb.fn,hb.fnr,hb.dfs,hb.kind,hb.uW,hb.rd⟩ hm1 NR ?_;rw[hK,hTm];show Z5 P ρ C.orc μ G _ _ nt fr.todo _ _ _;rw[ht,hL];exact .plain _ _ _ _ hr ⟨htr.1,fun k a ha=>htr.2 k a (Ii _ _ ha)⟩
     |ready=>cases hL
     |back=>cases hL
    |ret nt hb hm1 NR h3 hT=>rcases h3 with h3|⟨_,h3⟩<;>(rw[ht]at h3;cases h3)
    |pan nt hb v u r hm1 NR hv h3 hT=>rw[ht]at h3;cases h3
   ·simp[bJ,pk,ht]
  ·cases h
 ·cases h
theorem Fin.sound(X:Ctx P ρ w0 C){f:Nat}{v:AV}{m:AM}(hf:Fin C f v m):∀{fr:Frame} {w:World},A8 P ρ C.orc w0 μ0 m fr [] w→
  ∃fY w' μ G u H nx,Steps P (lone fr rest w) (lone fY rest w')∧fY.fn=f∧fY.leaving P w' (.returned u)∧aU ρ μ v u∧μ0.le μ∧bB P ρ w0 μ G (Key.toNat nx) w'∧HSub H G:=by
 induction hf with
 |done n h=>intro fr w hm;have hg:=yU (rest:=rest) X n hm;rw[h]at hg;obtain⟨fY,w',μ,G,u,s⟩:=hg;exact⟨fY,w',μ,G,u,_,_,s⟩
 |seg n ss ks h h' ih=>intro fr w hm;have hg:=yU (rest:=rest) X n hm;obtain⟨m1,e,hk⟩:=aeJ (P:=P) (ρ:=ρ) (C:=C) (w0:=w0) (μ0:=μ0) h;rw[e]at hg;obtain⟨fr1,cs1,w1,s1,h2⟩:=hg;obtain⟨rfl,NR⟩:=hk h2;obtain⟨fY,w',μ,G,u,H,nx,s,r⟩:=ih NR;exact⟨fY,w',μ,G,u,H,nx,s1.trans s,r⟩
theorem ajQ(X:Ctx P ρ w0 C){f:Nat}{p:fN}{w:World}{G0:Key→Option ai}{H:T ai}{nx:Key}(hp:IS P f=some p){l:List AV}{args:Array Value}(hM:bB P ρ w0 μ0 G0 nx.toNat w)(hH:HSub H G0)(hl:ax ρ μ0 l args.toList){v:AV}
  (Pz:Fin C f v ⟨ah f p l,[],H,nx⟩):Calls P f args w fun e w'=>∃u μ G nx',e=.returned u∧aU ρ μ v u∧μ0.le μ∧bB P ρ w0 μ G (Key.toNat nx') w':=by
 intro cs;have hm:A8 P ρ C.orc w0 μ0 ⟨ah f p l,[],H,nx⟩ (Frame.enter P f args .normal) [] w:=
  ⟨μ0,G0,μ0.le_refl,hM,hH,xX hp hl false,trivial,by simp[bJ,pk,ah]⟩
 obtain⟨fY,w',μ,G,u,H2,aZ,s1,s2,s3,s4,s5,s6,s7⟩:=Pz.sound (rest:=cs) X hm;exact⟨.returned u,w',fY,⟨u,μ,G,aZ,rfl,s4,s5,s6⟩,s1,s2,s3⟩
end
section
variable{P:Program}{ρ ρ':Nat→Int}{heap0:T ai}
theorem ast{C:bH}(hX:∀w0:W0,jI P heap0 w0→Ctx P ρ' w0 C){f:Nat}{p:fN}(hp:IS P f=some p){l:List AV}(hl:AV.Bb l=true){v:AV}(hv:v.kf=true){nx0:Key}(hn:P.globals.size≤nx0.toNat)
  (gD:Fin C f v ⟨ah f p l,[],heap0,nx0⟩):∀w0:W0,jI P heap0 w0→∀H nx,Lb P ρ w0 f (AV.ep ρ' l) H nx (v.sub ρ') H nx:=by
 intro w0 hL H nx args w μ G hM hH eu;have hL1:jI P heap0 ⟨w,μ.fz⟩:=hL.an4 hM.below hM.zle;have hM1:=Ih (ρ:=ρ') (w0:=⟨w,μ.fz⟩) hL1 hM.XM (nx:=nx0.toNat) hn;have ha1:ax ρ' (gMu P heap0 μ.fz) l args.toList:=ax.kf (μ:=μ) (μ':=gMu P heap0 μ.fz) (fun _ _ _ h=>h) (ax.Er l eu) hl;refine(ajQ (hX _ hL1) hp hM1 (fun _ _ h=>h) ha1 gD).mono ?_;rintro e w' ⟨u,μ1,G1,aZ,rfl,hvr,hle,hM2⟩;have hb:Below w.heap.size w w':=hM2.below;have M9:∀c i x,μ1.fz c i=some x→w.heap.size≤c∨μ.fz c i=some x:=hM2.fzo;have O2:μ.le ⟨μ.loc,μ1.fz⟩:=⟨fun _ _ h=>h,fun c i x h=>hle.f c i x h⟩;refine⟨u,⟨μ.loc,μ1.fz⟩,G,rfl,aU.sub (aU.kf (μ:=μ1) (μ':=⟨μ.loc,μ1.fz⟩) (fun _ _ _ h=>h) hvr hv),O2,?_,hH,⟨fun _ _ _=>rfl,fun _ _=>rfl,fun _ h _=>h,gi _⟩⟩;have abC:∀b l,μ b=some l→w'.heap[l.c]?=w.heap[l.c]?:=fun b l h=>hb.block _ (hM.Aj b l h);refine⟨?_,hM.sep,?_,hM.own,hM.PT,hM.new,hM.below.trans (hb.mono hM.below.size),hM2.XM,?_,?_,?_,?_,Nat.le_trans hM.dr hM2.dr⟩
 ·intro b B hg;obtain⟨l,o,h1,h2,h3⟩:=hM.wa b B hg;exact⟨l,o,h1,by rw[abC b l h1];exact h2,h3.mono O2⟩
 ·intro b l h;exact Ou (hM.Aj b l h) hb.size
 ·intro b B l n hg hm vk i hi;show μ1.fz l.c i=none;cases h:μ1.fz l.c i with
  |none=>rfl
  |some x=>
   rcases M9 _ _ _ h with h'|h'
   ·exact absurd (hM.Aj b l hm) (Nat.not_lt.2 h')
   ·rw[hM.fzf b B l n hg hm vk i hi]at h';cases h'
 ·intro c i x h;exact hle.f c i x (hM.zle c i x h)
 ·intro c i x h;rcases M9 c i x h with h'|h'
  ·exact .inl (Nat.le_trans hM.below.size h')
  ·exact hM.fzo c i x h'
 ·intro b L l hg hm;rcases hM.rof b L l hg hm with h|h
  ·exact .inl h
  ·refine .inr fun arr e f i x ha hx=>hle.f _ _ _ (h arr e f i x ?_ hx);rw[←abC b l hm];exact ha
inductive DT where
 |leaf (v:AV)
 |ask (op:BinOp) (a b:SI) (t e:DT)
def holds(ρ:Nat→Int)(op:BinOp)(a b:SI):Bool:=match fC op (a.den ρ) (b.den ρ)with
 |some r=>r
 |none=>false
def DT.val(ρ:Nat→Int):DT→AV
 |.leaf v=>v.sub ρ
 |.ask op a b t e=>match holds ρ op a b with
  |true=>t.val ρ
  |false=>e.val ρ
mutual
theorem dJ{ρ:Nat→Int}:∀(a:AV),AV.lits a=true→a.sub ρ=a
 |.bool _,_=>rfl
 |.int _ (.lit _),_=>rfl
 |.int _ (.var _),h=>by simp[AV.lits]at h
 |.int _ (.bin _ _ _ _),h=>by simp[AV.lits]at h
 |.str _ _,_=>rfl
 |.ptr _ _,_=>rfl
 |.nilp,_=>rfl
 |.slice _ _ _ _,_=>rfl
 |.nils,_=>rfl
 |.map _,_=>rfl
 |.nilm,_=>rfl
 |.fn f a c,h=>by simp only[AV.lits,kW]at h;simp only[AV.sub,fp a h.1,fp c h.2]
 |.yld _,_=>rfl
 |.nilf,_=>rfl
 |.iface t v,h=>by simp only[AV.lits]at h;simp only[AV.sub,dJ v h]
 |.nili,_=>rfl
 |.agg l,h=>by simp only[AV.lits]at h;simp only[AV.sub,fp l h]
 |.tuple l,h=>by simp only[AV.lits]at h;simp only[AV.sub,fp l h]
 |.sl l _ _ _,h=>by simp only[AV.lits]at h;simp only[AV.sub,fp l h]
 |.cref l,h=>by simp only[AV.lits]at h;simp only[AV.sub,fp l h]
theorem fp{ρ:Nat→Int}:∀(l:List AV),AV.dA l=true→AV.ep ρ l=l
 | [],_=>rfl
 |a ::l,h=>by simp only[AV.dA,kW]at h;simp only[AV.ep,dJ a h.1,fp l h.2]
end
def Ent(P:Program)(heap0:T ai)(f:Nat)(l:List AV)(v:AV):Prop:=∀(ρ:Nat→Int) (w0:W0),jI P heap0 w0→∀H nx,Lb P ρ w0 f l H nx v H nx
abbrev Es:=List (List AV×AV)
def aR(P:Program)(heap0:T ai)(f:Nat):Es→Prop
 | []=>True
 |(m,v) ::r=>Ent P heap0 f m v∧aR P heap0 f r
def aLA:List AV→Key
 | [_,.int _ (.lit (.ofNat n))]=>Key.fX 12 n
 | [.int _ (.lit (.ofNat n))]=>Key.fX 12 n
 | [_,.str _ c]=>Key.fX 12 (Nat.mod c 251)
 |_=>.z
def iB:T Es→Es
 |.nil=>[]
 |.node v l r=>(match v with|some e=>e|none=>[])++(iB l++iB r)
def one(es:Es):T Es:=.node (some es) .nil .nil
def EP(P:Program)(heap0:T ai)(f:Nat)(t:T Es):Prop:=∀k es,ag k t=some es→aR P heap0 f es
def sG(P:Program)(heap0:T ai):List (Nat×T Es)→Prop
 | []=>True
 |(f,t) ::r=>((∃p,IS P f=some p)∧EP P heap0 f t)∧sG P heap0 r
def ahU:Es→List AV→Option AV
 | [],_=>none
 |(m,v) ::r,l=>bif AV.Ir l m then some v else ahU r l
noncomputable def Mk:List (Nat×T Es)→Nat→List AV→T ai→Key→Option (AV×T ai×Key)
 | [],_,_,_,_=>none
 |(g,t) ::r,f,l,h,nx=>bif Nat.beq f g then(match ag (aLA l) t with
  |some es=>match ahU es l with
   |some v=>some (v,h,nx)
   |none=>none
  |none=>none)else Mk r f l h nx
theorem aR.left{f:Nat}:∀{a b:Es},aR P heap0 f (a++b)→aR P heap0 f a
 | [],_,_=>trivial
 |(_,_) ::_,_,h=>⟨h.1,aR.left h.2⟩
theorem aR.right{f:Nat}:∀{a b:Es},aR P heap0 f (a++b)→aR P heap0 f b
 | [],_,h=>h
 |(_,_) ::_,_,h=>aR.right h.2
theorem EP.of{f:Nat}:∀{t:T Es},aR P heap0 f (iB t)→EP P heap0 f t
 |.nil,_=>fun k es h=>by cases k<;>cases h
 |.node v l r,h=>fun k es e=>by
  unfold iB at h;cases k with
  |z=>have e:v=some es:=e;subst e;exact aR.left h
  |o k=>exact EP.of (aR.left (aR.right h)) k es e
  |e k=>exact EP.of (aR.right (aR.right h)) k es e
theorem EP.eq{f:Nat}{t:T Es}{es:Es}(h:aR P heap0 f es)(e:iB t=es):EP P heap0 f t:=.of (by rw[e];exact h)
theorem EP.one{f:Nat}{es:Es}(h:aR P heap0 f es):EP P heap0 f (one es):=.of (by show aR P heap0 f (es++([] ++ []));rw[List.append_nil,List.append_nil];exact h)
theorem aR.app{f:Nat}:∀{a b:Es},aR P heap0 f a→aR P heap0 f b→aR P heap0 f (a++b)
 | [],_,_,h=>h
 |(_,_) ::_,_,h,k=>⟨h.1,h.2.app k⟩
theorem abD{f:Nat}:∀{es:Es},aR P heap0 f es→∀{l:List AV} {v:AV},ahU es l=some v→Ent P heap0 f l v
 | [],_,_,_,e=>by cases e
 |(m,u) ::r,h,l,v,e=>by
  unfold ahU at e;cases hb:AV.Ir l m with
  |true=>rw[hb]at e;simp only[cond_true,dS]at e;rw[AV.jm _ _ hb,←e];exact h.1
  |false=>rw[hb]at e;exact abD h.2 e
theorem YS:∀{tab:List (Nat×T Es)},sG P heap0 tab→∀{f:Nat} {l:List AV} {h:T ai} {nx:Key} {r:AV×T ai×Key},Mk tab f l h nx=some r→(∃p,IS P f=some p)∧∃v,Ent P heap0 f l v∧r=(v,h,nx)
 | [],_,_,_,_,_,_,e=>by cases e
 |(g,es) ::t,ht,f,l,h,nx,r,e=>by
  unfold Mk at e;cases hb:Nat.beq f g with
  |true=>
   rw[hb]at e;have hb:=pZ hb;subst hb;simp only[cond_true]at e;split at e
   ·rename_i es2 h2;split at e
    ·rename_i v hv;simp only[dS]at e;exact⟨ht.1.1,v,abD (ht.1.2 _ _ h2) hv,e.symm⟩
    ·cases e
   ·cases e
  |false=>rw[hb]at e;exact YS ht.2 e
noncomputable def aC7(fns:T fN)(raw mT:Nat→Bool)(tab:List (Nat×T Es))(o:jK):bH:=⟨o,fns,Mk tab,raw,mT⟩
theorem aLB{fns:T fN}{abE:List (Nat×fN)}(hb:fns=He abE)(ha:Ml P abE)(ayD:P.follows .mixedOrders=true){tab:List (Nat×T Es)}(ht:sG P heap0 tab)(raw mT:Nat→Bool){o:jK}(ho:fA ρ o)(w0:W0)(hL:jI P heap0 w0):Ctx P ρ w0 (aC7 fns raw mT tab o):=by
 refine⟨?_,?_,ho,fun f p h=>abF hb ha (tab:=[]) h,ayD⟩
 ·intro f l H nx a H' nx' hs;obtain⟨_,v,h1,h2⟩:=YS ht hs;cases h2;exact h1 ρ w0 hL H nx
 ·intro f l H nx r hs;obtain⟨⟨p,hp⟩,_⟩:=YS ht hs;obtain⟨fn,c,f1,f2,f3,_⟩:=uY hp;exact⟨fn,f1,by rw[f2];rfl,f3⟩
theorem ahV{C:bH}(hX:∀(ρ:Nat→Int) (w0:W0),jI P heap0 w0→Ctx P ρ w0 C){f:Nat}{p:fN}(hp:IS P f=some p){l:List AV}{v:AV}(hl:(AV.dA l&&AV.Bb l&&AV.lits v&&v.kf)=true){nx0:Key}(hn:P.globals.size≤nx0.toNat)
  (hf:Fin C f v ⟨ah f p l,[],heap0,nx0⟩):Ent P heap0 f l v:=by
 intro ρ w0 hL H nx;simp only[kW]at hl;have:=ast (ρ:=ρ) (ρ':=ρ) (hX ρ) hp hl.1.1.2 hl.2 hn hf w0 hL H nx;rw[fp l hl.1.1.1,dJ v hl.1.2]at this;exact this
def ajm(f:Nat)(v:AV):SR→Bool
 |.done g u _ _=>Nat.beq g f&&AV.beq u v
 |_=>false
theorem BD{f:Nat}{v:AV}{C:bH}{n:Nat}{m:AM}(h:ajm f v (wi C n m)=true):Fin C f v m:=by
 cases hr:wi C n m with
 |done g u H nx=>rw[hr]at h;simp only[ajm,kW]at h;have h1:=pZ h.1;have h2:=AV.eq_of_beq _ _ h.2;subst h1 h2;exact .done n hr
 |next m=>rw[hr]at h;cases h
 |pan v h' nx=>rw[hr]at h;cases h
 |bad n m=>rw[hr]at h;cases h
 |alt m1 m2=>rw[hr]at h;cases h
noncomputable def asu(C:bH)(n f:Nat)(p:fN)(heap0:T ai)(nx0:Key):Es→Bool
 | []=>true
 |(m,v) ::r=>AV.dA m&&AV.Bb m&&AV.lits v&&v.kf&&ajm f v (wi C n ⟨ah f p m,[],heap0,nx0⟩)&&asu C n f p heap0 nx0 r
theorem ahW{C:bH}(hX:∀(ρ:Nat→Int) (w0:W0),jI P heap0 w0→Ctx P ρ w0 C){f:Nat}{p:fN}(hp:IS P f=some p){n:Nat}{nx0:Key}(hn:P.globals.size≤nx0.toNat):∀{es:Es},asu C n f p heap0 nx0 es=true→aR P heap0 f es
 | [],_=>trivial
 |(m,v) ::r,h=>by unfold asu at h;rw[kW,kW]at h;exact⟨ahV hX hp h.1.1 hn (BD h.1.2),ahW hX hp hn h.2⟩
end
end Go.Sx
