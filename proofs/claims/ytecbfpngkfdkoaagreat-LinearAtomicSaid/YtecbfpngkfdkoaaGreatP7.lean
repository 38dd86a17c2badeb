/- A part of the proof. No condition. -/
import Derived.Test.YtecbfpngkfdkoaaGreatP6
set_option linter.unusedSimpArgs false
set_option linter.unusedVariables false
set_option linter.unusedSectionVars false
namespace Go.Sx
open Go.RowKit
mutual
def AV.sub(ρ:Nat→Int):AV→AV
 |.int k s=>.int k (.lit (s.den ρ))
 |.iface t v=>.iface t (AV.sub ρ v)
 |.agg l=>.agg (AV.gX ρ l)
 |.tuple l=>.tuple (AV.gX ρ l)
 |.sl l n z f=>.sl (AV.gX ρ l) n z f
 |.cref l=>.cref (AV.gX ρ l)
 |.fn f a c=>.fn f (AV.gX ρ a) (AV.gX ρ c)
 |a=>a
def AV.gX(ρ:Nat→Int):List AV→List AV
 | []=>[]
 |a ::l=>AV.sub ρ a ::AV.gX ρ l
end
theorem AV.LZ(ρ:Nat→Int):∀l:List AV,(AV.gX ρ l).length=l.length
 | []=>rfl
 |_ ::l=>by simp only[AV.gX,ZW,AV.LZ ρ l]
section
variable{ρ ρ':Nat→Int}{μ:Mu}
mutual
theorem aX.sub:∀{a:AV} {v:Value},aX ρ μ a v→aX ρ' μ (a.sub ρ) v
 |_,_,.bool b=>.bool b
 |_,_,.int k s n h=>.int k _ n h
 |_,_,.str n c s h h'=>.str n c s h h'
 |_,_,.ptr b off l a h ha=>.ptr b off l a h ha
 |_,_,.nilp=>.nilp
 |_,_,.slice b off len sz cap l a h hc hl ha=>.slice b off len sz cap l a h hc hl ha
 |_,_,.nils=>.nils
 |_,_,.map b l r h hr=>.map b l r h hr
 |_,_,.nilm=>.nilm
 |_,_,.fn f first cap vs ws h h'=>.fn f _ _ vs ws (aB.sub h) (aB.sub h')
 |_,_,.yld b l r h hr=>.yld b l r h hr
 |_,_,.nilf=>.nilf
 |_,_,.iface t a v h=>.iface t _ v (aX.sub h)
 |_,_,.nili=>.nili
 |_,_,.agg l vs h=>.agg _ vs (aB.sub h)
 |_,_,.tuple l vs h=>.tuple _ vs (aB.sub h)
 |_,_,.sl l len sz fl cap c o a vs h hn hl ha hf hg=>.sl _ len sz fl cap c o a vs (aB.sub h) (by rw[AV.LZ];exact hn) hl ha hf hg
 |_,_,.cref l c o a vs h ha hf=>.cref _ c o a vs (aB.sub h) ha hf
theorem aB.sub:∀{l:List AV} {vs:List Value},aB ρ μ l vs→aB ρ' μ (AV.gX ρ l) vs
 |_,_,.nil=>.nil
 |_,_,.cons a l v vs h h'=>.cons _ _ v vs (aX.sub h) (aB.sub h')
end
mutual
theorem aX.Fi:∀(a:AV) {v:Value},aX ρ' μ (a.sub ρ) v→aX ρ μ a v
 |.bool b,_,h=>by cases h;exact .bool b
 |.int k s,_,h=>by cases h with|int _ _ n h=>exact .int k s n h
 |.str n c,_,h=>by cases h with|str _ _ s h h'=>exact .str n c s h h'
 |.ptr b off,_,h=>by cases h with|ptr _ _ l a h ha=>exact .ptr b off l a h ha
 |.nilp,_,h=>by cases h;exact .nilp
 |.slice b off len sz,_,h=>by cases h with|slice _ _ _ _ cap l a h hc hl ha=>exact .slice b off len sz cap l a h hc hl ha
 |.nils,_,h=>by cases h;exact .nils
 |.map b,_,h=>by cases h with|map _ l r h hr=>exact .map b l r h hr
 |.nilm,_,h=>by cases h;exact .nilm
 |.fn f a c,_,h=>by cases h with|fn _ _ _ vs ws h h'=>exact .fn f a c vs ws (aB.Fi a h) (aB.Fi c h')
 |.yld b,_,h=>by cases h with|yld _ l r h hr=>exact .yld b l r h hr
 |.nilf,_,h=>by cases h;exact .nilf
 |.iface t a,_,h=>by cases h with|iface _ _ v h=>exact .iface t a v (aX.Fi a h)
 |.nili,_,h=>by cases h;exact .nili
 |.agg l,_,h=>by cases h with|agg _ vs h=>exact .agg l vs (aB.Fi l h)
 |.tuple l,_,h=>by cases h with|tuple _ vs h=>exact .tuple l vs (aB.Fi l h)
 |.sl l len sz fl,_,h=>by cases h with|sl _ _ _ _ cap c o a vs h hn hl ha hf hg=>exact .sl l len sz fl cap c o a vs (aB.Fi l h) (by rw[AV.LZ]at hn;exact hn) hl ha hf hg
 |.cref l,_,h=>by cases h with|cref _ c o a vs h ha hf=>exact .cref l c o a vs (aB.Fi l h) ha hf
theorem aB.Fi:∀(l:List AV) {vs:List Value},aB ρ' μ (AV.gX ρ l) vs→aB ρ μ l vs
 | [],_,h=>by cases h;exact .nil
 |a ::l,_,h=>by cases h with|cons _ _ v vs h h'=>exact .cons a l v vs (aX.Fi a h) (aB.Fi l h')
end
end
noncomputable def Tx{α:Type}:List Key→T α→T α
 | [],_=>.nil
 |k ::r,t=>match ag k t with
  |some v=>yL k (some v) (Tx r t) fun t=>t
  |none=>Tx r t
theorem Iu{α:Type}(t:T α):∀(ks:List Key) {b:Key} {v:α},ag b (Tx ks t)=some v→ag b t=some v
 | [],b,v,h=>by simp[Tx]at h
 |k ::r,b,v,h=>by
  unfold Tx at h;cases hk:ag k t with
  |none=>rw[hk]at h;exact Iu t r h
  |some x=>
   rw[hk]at h;simp only[sTCe]at h;by_cases e:b=k
   ·subst e;rw[gTSm]at h;rw[hk];exact h
   ·rw[aP _ _ _ _ e]at h;exact Iu t r h
noncomputable def BP(ss ks:List Key):SR→Option AM
 |.next ⟨fr,[],h,nx⟩=>match fr.todo with
  |.inLoop _ ::_=>some ⟨{fr with tm:=Tx ss fr.tm},[],Tx ks h,nx⟩
  |_=>none
 |_=>none
inductive Fin(C:bP)(f:Nat)(v:AV):AM→Prop
 |done {m:AM} (n:Nat) {H:T ah} {nx:Key} (h:vp C n m=.done f v H nx):Fin C f v m
 |seg {m m':AM} (n:Nat) (ss ks:List Key) (h:BP ss ks (vp C n m)=some m') (h':Fin C f v m'):Fin C f v m
section
variable{P:Program}{ρ:Nat→Int}{C:bP}{w0:W0}{μ0:Mu}{rest:List Frame}
theorem aeI{r:SR}{ss ks:List Key}{m':AM}(h:BP ss ks r=some m'):∃m,r=.next m∧∀{fr:Frame} {cs:List Frame} {w:World},BN P ρ C.orc w0 μ0 m fr cs w→cs=[]∧BN P ρ C.orc w0 μ0 m' fr [] w:=by
 unfold BP at h;split at h
 ·rename_i fr h0 nx;split at h
  ·rename_i c k ht;simp only[dP]at h;subst h;refine⟨_,rfl,?_⟩;intro I6 cs w hm;obtain⟨μ,G,h1,h2,h3,h4,h5,h6⟩:=hm.ex;have Oc:cs=[]:=by
    cases cs with
    |nil=>rfl
    |cons x l=>exact h5.elim
   subst Oc;refine⟨rfl,⟨μ,G,h1,h2,fun b B hb=>h3 b B (Iu _ _ hb),?_,trivial,?_⟩⟩
   ·cases h4 with
    |run nt hb hm1 MI hT=>
     have DK:fr.todo=_:=ht;simp only[ht]at hT;generalize hK:I6.todo=K at hT;generalize hTm:I6.tmps=TM at hT;generalize hL:de.inLoop c ::k=LL at hT;cases hT with
     |plain _ _ _ _ hr htr=>refine .run nt ⟨hb.fn,hb.fnr,hb.dfs,hb.kind,hb.vm,hb.rd⟩ hm1 MI ?_;rw[hK,hTm];show ZQ P ρ C.orc μ G _ _ nt fr.todo _ _ _;rw[ht,hL];exact .plain _ _ _ _ hr ⟨htr.1,fun k a ha=>htr.2 k a (Iu _ _ ha)⟩
     |ready=>cases hL
     |back=>cases hL
    |ret nt hb hm1 MI h3 hT=>rcases h3 with h3|⟨_,h3⟩<;>(rw[ht]at h3;cases h3)
    |pan nt hb v u r hm1 MI hv h3 hT=>rw[ht]at h3;cases h3
   ·simp[bL,pk,ht]
  ·cases h
 ·cases h
theorem Fin.sound(X:Ctx P ρ w0 C){f:Nat}{v:AV}{m:AM}(hf:Fin C f v m):∀{fr:Frame} {w:World},BN P ρ C.orc w0 μ0 m fr [] w→
  ∃fR w' μ G u H nx,Steps P (lone fr rest w) (lone fR rest w')∧fR.fn=f∧fR.leaving P w' (.returned u)∧aX ρ μ v u∧μ0.le μ∧bB P ρ w0 μ G (Key.toNat nx) w'∧HSub H G:=by
 induction hf with
 |done n h=>intro fr w hm;have hg:=zO (rest:=rest) X n hm;rw[h]at hg;obtain⟨fR,w',μ,G,u,s⟩:=hg;exact⟨fR,w',μ,G,u,_,_,s⟩
 |seg n ss ks h h' ih=>intro fr w hm;have hg:=zO (rest:=rest) X n hm;obtain⟨m1,e,hk⟩:=aeI (P:=P) (ρ:=ρ) (C:=C) (w0:=w0) (μ0:=μ0) h;rw[e]at hg;obtain⟨fr1,cs1,w1,s1,h2⟩:=hg;obtain⟨rfl,MI⟩:=hk h2;obtain⟨fR,w',μ,G,u,H,nx,s,r⟩:=ih MI;exact⟨fR,w',μ,G,u,H,nx,s1.trans s,r⟩
theorem ajP(X:Ctx P ρ w0 C){f:Nat}{p:fq}{w:World}{G0:Key→Option ah}{H:T ah}{nx:Key}(hp:I3 P f=some p){l:List AV}{args:Array Value}(hM:bB P ρ w0 μ0 G0 nx.toNat w)(hH:HSub H G0)(hl:aB ρ μ0 l args.toList){v:AV}
  (Qd:Fin C f v ⟨ai f p l,[],H,nx⟩):Calls P f args w fun e w'=>∃u μ G nx',e=.returned u∧aX ρ μ v u∧μ0.le μ∧bB P ρ w0 μ G (Key.toNat nx') w':=by
 intro cs;have hm:BN P ρ C.orc w0 μ0 ⟨ai f p l,[],H,nx⟩ (Frame.enter P f args .normal) [] w:=
  ⟨μ0,G0,μ0.le_refl,hM,hH,yH hp hl false,trivial,by simp[bL,pk,ai]⟩
 obtain⟨fR,w',μ,G,u,H2,bu,s1,s2,s3,s4,s5,s6,s7⟩:=Qd.sound (rest:=cs) X hm;exact⟨.returned u,w',fR,⟨u,μ,G,bu,rfl,s4,s5,s6⟩,s1,s2,s3⟩
end
section
variable{P:Program}{ρ ρ':Nat→Int}{heap0:T ah}
theorem arJ{C:bP}(hX:∀w0:W0,ji P heap0 w0→Ctx P ρ' w0 C){f:Nat}{p:fq}(hp:I3 P f=some p){l:List AV}(hl:AV.Ey l=true){v:AV}(hv:v.kf=true){nx0:Key}(hn:P.globals.size≤nx0.toNat)
  (eM:Fin C f v ⟨ai f p l,[],heap0,nx0⟩):∀w0:W0,ji P heap0 w0→∀H nx,LV P ρ w0 f (AV.gX ρ' l) H nx (v.sub ρ') H nx:=by
 intro w0 hL H nx args w μ G hM hH dI;have hL1:ji P heap0 ⟨w,μ.fz⟩:=hL.ang hM.below hM.zle;have hM1:=It (ρ:=ρ') (w0:=⟨w,μ.fz⟩) hL1 hM.Xw (nx:=nx0.toNat) hn;have ha1:aB ρ' (gMu P heap0 μ.fz) l args.toList:=aB.kf (μ:=μ) (μ':=gMu P heap0 μ.fz) (fun _ _ _ h=>h) (aB.Fi l dI) hl;refine(ajP (hX _ hL1) hp hM1 (fun _ _ h=>h) ha1 eM).mono ?_;rintro e w' ⟨u,μ1,G1,bu,rfl,hvr,hle,hM2⟩;have hb:Below w.heap.size w w':=hM2.below;have Yl:∀c i x,μ1.fz c i=some x→w.heap.size≤c∨μ.fz c i=some x:=hM2.fzo;have PC:μ.le ⟨μ.loc,μ1.fz⟩:=⟨fun _ _ h=>h,fun c i x h=>hle.f c i x h⟩;refine⟨u,⟨μ.loc,μ1.fz⟩,G,rfl,aX.sub (aX.kf (μ:=μ1) (μ':=⟨μ.loc,μ1.fz⟩) (fun _ _ _ h=>h) hvr hv),PC,?_,hH,⟨fun _ _ _=>rfl,fun _ _=>rfl,fun _ h _=>h,fE _⟩⟩;have abm:∀b l,μ b=some l→w'.heap[l.c]?=w.heap[l.c]?:=fun b l h=>hb.block _ (hM.AX b l h);refine⟨?_,hM.sep,?_,hM.own,hM.Qq,hM.new,hM.below.trans (hb.mono hM.below.size),hM2.Xw,?_,?_,?_,?_,Nat.le_trans hM.dr hM2.dr⟩
 ·intro b B hg;obtain⟨l,o,h1,h2,h3⟩:=hM.BO b B hg;exact⟨l,o,h1,by rw[abm b l h1];exact h2,h3.mono PC⟩
 ·intro b l h;exact O5 (hM.AX b l h) hb.size
 ·intro b B l n hg hm lV i hi;show μ1.fz l.c i=none;cases h:μ1.fz l.c i with
  |none=>rfl
  |some x=>
   rcases Yl _ _ _ h with h'|h'
   ·exact absurd (hM.AX b l hm) (Nat.not_lt.2 h')
   ·rw[hM.fzf b B l n hg hm lV i hi]at h';cases h'
 ·intro c i x h;exact hle.f c i x (hM.zle c i x h)
 ·intro c i x h;rcases Yl c i x h with h'|h'
  ·exact .inl (Nat.le_trans hM.below.size h')
  ·exact hM.fzo c i x h'
 ·intro b L l hg hm;rcases hM.rof b L l hg hm with h|h
  ·exact .inl h
  ·refine .inr fun arr e f i x ha hx=>hle.f _ _ _ (h arr e f i x ?_ hx);rw[←abm b l hm];exact ha
inductive DT where
 |leaf (v:AV)
 |ask (op:BinOp) (a b:SI) (t e:DT)
def holds(ρ:Nat→Int)(op:BinOp)(a b:SI):Bool:=match fS op (a.den ρ) (b.den ρ)with
 |some r=>r
 |none=>false
def DT.val(ρ:Nat→Int):DT→AV
 |.leaf v=>v.sub ρ
 |.ask op a b t e=>match holds ρ op a b with
  |true=>t.val ρ
  |false=>e.val ρ
noncomputable def DT.check(C:iV→bP)(f:Nat)(n:Nat)(m:AM):DT→iV→Bool
 |.leaf v,o=>(match vp (C o) n m with
  |.done g u _ _=>Nat.beq g f&&AV.beq u v&&u.kf
  |_=>false)
 |.ask op a b t e,o=>isCmp op&&DT.check C f n m t ((op,a,b,true) ::o)&&DT.check C f n m e ((op,a,b,false) ::o)
mutual
theorem kr{ρ:Nat→Int}:∀(a:AV),AV.lits a=true→a.sub ρ=a
 |.bool _,_=>rfl
 |.int _ (.lit _),_=>rfl
 |.int _ (.var _),h=>by simp[AV.lits]at h
 |.int _ (.bin _ _ _ _),h=>by simp[AV.lits]at h
 |.str _ _,_=>rfl
 |.ptr _ _,_=>rfl
 |.nilp,_=>rfl
 |.slice _ _ _ _,_=>rfl
 |.nils,_=>rfl
 |.map _,_=>rfl
 |.nilm,_=>rfl
 |.fn f a c,h=>by simp only[AV.lits,jq]at h;simp only[AV.sub,fL a h.1,fL c h.2]
 |.yld _,_=>rfl
 |.nilf,_=>rfl
 |.iface t v,h=>by simp only[AV.lits]at h;simp only[AV.sub,kr v h]
 |.nili,_=>rfl
 |.agg l,h=>by simp only[AV.lits]at h;simp only[AV.sub,fL l h]
 |.tuple l,h=>by simp only[AV.lits]at h;simp only[AV.sub,fL l h]
 |.sl l _ _ _,h=>by simp only[AV.lits]at h;simp only[AV.sub,fL l h]
 |.cref l,h=>by simp only[AV.lits]at h;simp only[AV.sub,fL l h]
theorem fL{ρ:Nat→Int}:∀(l:List AV),AV.dU l=true→AV.gX ρ l=l
 | [],_=>rfl
 |a ::l,h=>by simp only[AV.dU,jq]at h;simp only[AV.gX,kr a h.1,fL l h.2]
end
def Ent(P:Program)(heap0:T ah)(f:Nat)(l:List AV)(v:AV):Prop:=∀(ρ:Nat→Int) (w0:W0),ji P heap0 w0→∀H nx,LV P ρ w0 f l H nx v H nx
abbrev Es:=List (List AV×AV)
def aT(P:Program)(heap0:T ah)(f:Nat):Es→Prop
 | []=>True
 |(m,v) ::r=>Ent P heap0 f m v∧aT P heap0 f r
def aJz:List AV→Key
 | [_,.int _ (.lit (.ofNat n))]=>Key.fP 12 n
 | [.int _ (.lit (.ofNat n))]=>Key.fP 12 n
 | [_,.str _ c]=>Key.fP 12 (Nat.mod c 251)
 |_=>.z
def hJ:T Es→Es
 |.nil=>[]
 |.node v l r=>(match v with|some e=>e|none=>[])++(hJ l++hJ r)
def one(es:Es):T Es:=.node (some es) .nil .nil
def FJ(P:Program)(heap0:T ah)(f:Nat)(t:T Es):Prop:=∀k es,ag k t=some es→aT P heap0 f es
def sG(P:Program)(heap0:T ah):List (Nat×T Es)→Prop
 | []=>True
 |(f,t) ::r=>((∃p,I3 P f=some p)∧FJ P heap0 f t)∧sG P heap0 r
def ahM:Es→List AV→Option AV
 | [],_=>none
 |(m,v) ::r,l=>bif AV.II l m then some v else ahM r l
noncomputable def MU:List (Nat×T Es)→Nat→List AV→T ah→Key→Option (AV×T ah×Key)
 | [],_,_,_,_=>none
 |(g,t) ::r,f,l,h,nx=>bif Nat.beq f g then(match ag (aJz l) t with
  |some es=>match ahM es l with
   |some v=>some (v,h,nx)
   |none=>none
  |none=>none)else MU r f l h nx
theorem aT.left{f:Nat}:∀{a b:Es},aT P heap0 f (a++b)→aT P heap0 f a
 | [],_,_=>trivial
 |(_,_) ::_,_,h=>⟨h.1,aT.left h.2⟩
theorem aT.right{f:Nat}:∀{a b:Es},aT P heap0 f (a++b)→aT P heap0 f b
 | [],_,h=>h
 |(_,_) ::_,_,h=>aT.right h.2
theorem FJ.of{f:Nat}:∀{t:T Es},aT P heap0 f (hJ t)→FJ P heap0 f t
 |.nil,_=>fun k es h=>by cases k<;>cases h
 |.node v l r,h=>fun k es e=>by
  unfold hJ at h;cases k with
  |z=>have e:v=some es:=e;subst e;exact aT.left h
  |o k=>exact FJ.of (aT.left (aT.right h)) k es e
  |e k=>exact FJ.of (aT.right (aT.right h)) k es e
theorem FJ.eq{f:Nat}{t:T Es}{es:Es}(h:aT P heap0 f es)(e:hJ t=es):FJ P heap0 f t:=.of (by rw[e];exact h)
theorem FJ.one{f:Nat}{es:Es}(h:aT P heap0 f es):FJ P heap0 f (one es):=.of (by show aT P heap0 f (es++([] ++ []));rw[List.append_nil,List.append_nil];exact h)
theorem aT.app{f:Nat}:∀{a b:Es},aT P heap0 f a→aT P heap0 f b→aT P heap0 f (a++b)
 | [],_,_,h=>h
 |(_,_) ::_,_,h,k=>⟨h.1,h.2.app k⟩
theorem abn{f:Nat}:∀{es:Es},aT P heap0 f es→∀{l:List AV} {v:AV},ahM es l=some v→Ent P heap0 f l v
 | [],_,_,_,e=>by cases e
 |(m,u) ::r,h,l,v,e=>by
  unfold ahM at e;cases hb:AV.II l m with
  |true=>rw[hb]at e;simp only[cond_true,dP]at e;rw[AV.iN _ _ hb,←e];exact h.1
  |false=>rw[hb]at e;exact abn h.2 e
theorem Yx:∀{tab:List (Nat×T Es)},sG P heap0 tab→∀{f:Nat} {l:List AV} {h:T ah} {nx:Key} {r:AV×T ah×Key},MU tab f l h nx=some r→(∃p,I3 P f=some p)∧∃v,Ent P heap0 f l v∧r=(v,h,nx)
 | [],_,_,_,_,_,_,e=>by cases e
 |(g,es) ::t,ht,f,l,h,nx,r,e=>by
  unfold MU at e;cases hb:Nat.beq f g with
  |true=>
   rw[hb]at e;have hb:=o5 hb;subst hb;simp only[cond_true]at e;split at e
   ·rename_i es2 h2;split at e
    ·rename_i v hv;simp only[dP]at e;exact⟨ht.1.1,v,abn (ht.1.2 _ _ h2) hv,e.symm⟩
    ·cases e
   ·cases e
  |false=>rw[hb]at e;exact Yx ht.2 e
noncomputable def aBM(fns:T fq)(raw ma:Nat→Bool)(tab:List (Nat×T Es))(o:iV):bP:=⟨o,fns,MU tab,raw,ma⟩
theorem aJA{fns:T fq}{abo:List (Nat×fq)}(hb:fns=HG abo)(ha:MV P abo)(axr:P.follows .mixedOrders=true){tab:List (Nat×T Es)}(ht:sG P heap0 tab)(raw ma:Nat→Bool){o:iV}(ho:fk ρ o)(w0:W0)(hL:ji P heap0 w0):Ctx P ρ w0 (aBM fns raw ma tab o):=by
 refine⟨?_,?_,ho,fun f p h=>abp hb ha (tab:=[]) h,axr⟩
 ·intro f l H nx a H' nx' hs;obtain⟨_,v,h1,h2⟩:=Yx ht hs;cases h2;exact h1 ρ w0 hL H nx
 ·intro f l H nx r hs;obtain⟨⟨p,hp⟩,_⟩:=Yx ht hs;obtain⟨fn,c,f1,f2,f3,_⟩:=vo hp;exact⟨fn,f1,by rw[f2];rfl,f3⟩
theorem ahN{C:bP}(hX:∀(ρ:Nat→Int) (w0:W0),ji P heap0 w0→Ctx P ρ w0 C){f:Nat}{p:fq}(hp:I3 P f=some p){l:List AV}{v:AV}(hl:(AV.dU l&&AV.Ey l&&AV.lits v&&v.kf)=true){nx0:Key}(hn:P.globals.size≤nx0.toNat)
  (hf:Fin C f v ⟨ai f p l,[],heap0,nx0⟩):Ent P heap0 f l v:=by
 intro ρ w0 hL H nx;simp only[jq]at hl;have:=arJ (ρ:=ρ) (ρ':=ρ) (hX ρ) hp hl.1.1.2 hl.2 hn hf w0 hL H nx;rw[fL l hl.1.1.1,kr v hl.1.2]at this;exact this
def aji(f:Nat)(v:AV):SR→Bool
 |.done g u _ _=>Nat.beq g f&&AV.beq u v
 |_=>false
theorem Ch{f:Nat}{v:AV}{C:bP}{n:Nat}{m:AM}(h:aji f v (vp C n m)=true):Fin C f v m:=by
 cases hr:vp C n m with
 |done g u H nx=>rw[hr]at h;simp only[aji,jq]at h;have h1:=o5 h.1;have h2:=AV.eq_of_beq _ _ h.2;subst h1 h2;exact .done n hr
 |next m=>rw[hr]at h;cases h
 |pan v h' nx=>rw[hr]at h;cases h
 |bad n m=>rw[hr]at h;cases h
 |alt m1 m2=>rw[hr]at h;cases h
noncomputable def arK(C:bP)(n f:Nat)(p:fq)(heap0:T ah)(nx0:Key):Es→Bool
 | []=>true
 |(m,v) ::r=>AV.dU m&&AV.Ey m&&AV.lits v&&v.kf&&aji f v (vp C n ⟨ai f p m,[],heap0,nx0⟩)&&arK C n f p heap0 nx0 r
theorem ahO{C:bP}(hX:∀(ρ:Nat→Int) (w0:W0),ji P heap0 w0→Ctx P ρ w0 C){f:Nat}{p:fq}(hp:I3 P f=some p){n:Nat}{nx0:Key}(hn:P.globals.size≤nx0.toNat):∀{es:Es},arK C n f p heap0 nx0 es=true→aT P heap0 f es
 | [],_=>trivial
 |(m,v) ::r,h=>by unfold arK at h;rw[jq,jq]at h;exact⟨ahN hX hp h.1.1 hn (Ch h.1.2),ahO hX hp hn h.2⟩
end
end Go.Sx
