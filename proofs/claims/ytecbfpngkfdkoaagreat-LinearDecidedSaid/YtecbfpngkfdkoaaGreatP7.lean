/- A part of the proof. No condition. -/
import Derived.Test.YtecbfpngkfdkoaaGreatP6
set_option linter.unusedSimpArgs false
set_option linter.unusedVariables false
set_option linter.unusedSectionVars false
namespace Go.Sx
open Go.RowKit
mutual
def AV.sub(ρ:Nat→Int):AV→AV
 |.int k s=>.int k (.lit (s.den ρ))
 |.iface t v=>.iface t (AV.sub ρ v)
 |.agg l=>.agg (AV.jC ρ l)
 |.tuple l=>.tuple (AV.jC ρ l)
 |.sl l n z f=>.sl (AV.jC ρ l) n z f
 |.cref l=>.cref (AV.jC ρ l)
 |.fn f a c=>.fn f (AV.jC ρ a) (AV.jC ρ c)
 |a=>a
def AV.jC(ρ:Nat→Int):List AV→List AV
 | []=>[]
 |a ::l=>AV.sub ρ a ::AV.jC ρ l
end
theorem AV.Lk(ρ:Nat→Int):∀l:List AV,(AV.jC ρ l).length=l.length
 | []=>rfl
 |_ ::l=>by simp only[AV.jC,zqi,AV.Lk ρ l]
section
variable{ρ ρ':Nat→Int}{μ:Mu}
mutual
theorem aY.sub:∀{a:AV} {v:Value},aY ρ μ a v→aY ρ' μ (a.sub ρ) v
 |_,_,.bool b=>.bool b
 |_,_,.int k s n h=>.int k _ n h
 |_,_,.str n c s h h'=>.str n c s h h'
 |_,_,.ptr b off l a h ha=>.ptr b off l a h ha
 |_,_,.nilp=>.nilp
 |_,_,.slice b off len sz cap l a h hc hl ha=>.slice b off len sz cap l a h hc hl ha
 |_,_,.nils=>.nils
 |_,_,.map b l r h hr=>.map b l r h hr
 |_,_,.nilm=>.nilm
 |_,_,.fn f first cap vs ws h h'=>.fn f _ _ vs ws (aA.sub h) (aA.sub h')
 |_,_,.yld b l r h hr=>.yld b l r h hr
 |_,_,.nilf=>.nilf
 |_,_,.iface t a v h=>.iface t _ v (aY.sub h)
 |_,_,.nili=>.nili
 |_,_,.agg l vs h=>.agg _ vs (aA.sub h)
 |_,_,.tuple l vs h=>.tuple _ vs (aA.sub h)
 |_,_,.sl l len sz fl cap c o a vs h hn hl ha hf hg=>.sl _ len sz fl cap c o a vs (aA.sub h) (by rw[AV.Lk];exact hn) hl ha hf hg
 |_,_,.cref l c o a vs h ha hf=>.cref _ c o a vs (aA.sub h) ha hf
theorem aA.sub:∀{l:List AV} {vs:List Value},aA ρ μ l vs→aA ρ' μ (AV.jC ρ l) vs
 |_,_,.nil=>.nil
 |_,_,.cons a l v vs h h'=>.cons _ _ v vs (aY.sub h) (aA.sub h')
end
mutual
theorem aY.Fm:∀(a:AV) {v:Value},aY ρ' μ (a.sub ρ) v→aY ρ μ a v
 |.bool b,_,h=>by cases h;exact .bool b
 |.int k s,_,h=>by cases h with|int _ _ n h=>exact .int k s n h
 |.str n c,_,h=>by cases h with|str _ _ s h h'=>exact .str n c s h h'
 |.ptr b off,_,h=>by cases h with|ptr _ _ l a h ha=>exact .ptr b off l a h ha
 |.nilp,_,h=>by cases h;exact .nilp
 |.slice b off len sz,_,h=>by cases h with|slice _ _ _ _ cap l a h hc hl ha=>exact .slice b off len sz cap l a h hc hl ha
 |.nils,_,h=>by cases h;exact .nils
 |.map b,_,h=>by cases h with|map _ l r h hr=>exact .map b l r h hr
 |.nilm,_,h=>by cases h;exact .nilm
 |.fn f a c,_,h=>by cases h with|fn _ _ _ vs ws h h'=>exact .fn f a c vs ws (aA.Fm a h) (aA.Fm c h')
 |.yld b,_,h=>by cases h with|yld _ l r h hr=>exact .yld b l r h hr
 |.nilf,_,h=>by cases h;exact .nilf
 |.iface t a,_,h=>by cases h with|iface _ _ v h=>exact .iface t a v (aY.Fm a h)
 |.nili,_,h=>by cases h;exact .nili
 |.agg l,_,h=>by cases h with|agg _ vs h=>exact .agg l vs (aA.Fm l h)
 |.tuple l,_,h=>by cases h with|tuple _ vs h=>exact .tuple l vs (aA.Fm l h)
 |.sl l len sz fl,_,h=>by cases h with|sl _ _ _ _ cap c o a vs h hn hl ha hf hg=>exact .sl l len sz fl cap c o a vs (aA.Fm l h) (by rw[AV.Lk]at hn;exact hn) hl ha hf hg
 |.cref l,_,h=>by cases h with|cref _ c o a vs h ha hf=>exact .cref l c o a vs (aA.Fm l h) ha hf
theorem aA.Fm:∀(l:List AV) {vs:List Value},aA ρ' μ (AV.jC ρ l) vs→aA ρ μ l vs
 | [],_,h=>by cases h;exact .nil
 |a ::l,_,h=>by cases h with|cons _ _ v vs h h'=>exact .cons a l v vs (aY.Fm a h) (aA.Fm l h')
end
end
noncomputable def Tv{α:Type}:List Key→T α→T α
 | [],_=>.nil
 |k ::r,t=>match ae k t with
  |some v=>xZ k (some v) (Tv r t) fun t=>t
  |none=>Tv r t
theorem IG{α:Type}(t:T α):∀(ks:List Key) {b:Key} {v:α},ae b (Tv ks t)=some v→ae b t=some v
 | [],b,v,h=>by simp[Tv]at h
 |k ::r,b,v,h=>by
  unfold Tv at h;cases hk:ae k t with
  |none=>rw[hk]at h;exact IG t r h
  |some x=>
   rw[hk]at h;simp only[sTCe]at h;by_cases e:b=k
   ·subst e;rw[gTSm]at h;rw[hk];exact h
   ·rw[aG _ _ _ _ e]at h;exact IG t r h
noncomputable def Ck(ss ks:List Key):SR→Option AM
 |.next ⟨fr,[],h,nx⟩=>match fr.todo with
  |.inLoop _ ::_=>some ⟨{fr with tm:=Tv ss fr.tm},[],Tv ks h,nx⟩
  |_=>none
 |_=>none
inductive Fin(C:bU)(f:Nat)(v:AV):AM→Prop
 |done {m:AM} (n:Nat) {H:T ag} {nx:Key} (h:wK C n m=.done f v H nx):Fin C f v m
 |seg {m m':AM} (n:Nat) (ss ks:List Key) (h:Ck ss ks (wK C n m)=some m') (h':Fin C f v m'):Fin C f v m
section
variable{P:Program}{ρ:Nat→Int}{C:bU}{w0:W0}{μ0:Mu}{rest:List Frame}
theorem aej{r:SR}{ss ks:List Key}{m':AM}(h:Ck ss ks r=some m'):∃m,r=.next m∧∀{fr:Frame} {cs:List Frame} {w:World},FY P ρ C.orc w0 μ0 m fr cs w→cs=[]∧FY P ρ C.orc w0 μ0 m' fr [] w:=by
 unfold Ck at h;split at h
 ·rename_i fr h0 nx;split at h
  ·rename_i c k ht;simp only[fa]at h;subst h;refine⟨_,rfl,?_⟩;intro MZ cs w hm;obtain⟨μ,G,h1,h2,h3,h4,h5,h6⟩:=hm.ex;have IN:cs=[]:=by
    cases cs with
    |nil=>rfl
    |cons x l=>exact h5.elim
   subst IN;refine⟨rfl,⟨μ,G,h1,h2,fun b B hb=>h3 b B (IG _ _ hb),?_,trivial,?_⟩⟩
   ·cases h4 with
    |run nt hb hm1 Mm hT=>
     have Ec:fr.todo=_:=ht;simp only[ht]at hT;generalize hK:MZ.todo=K at hT;generalize hTm:MZ.tmps=TM at hT;generalize hL:dJ.inLoop c ::k=LL at hT;cases hT with
     |plain _ _ _ _ hr htr=>refine .run nt ⟨hb.fn,hb.fnr,hb.dfs,hb.kind,hb.wI,hb.rd⟩ hm1 Mm ?_;rw[hK,hTm];show ZD P ρ C.orc μ G _ _ nt fr.todo _ _ _;rw[ht,hL];exact .plain _ _ _ _ hr ⟨htr.1,fun k a ha=>htr.2 k a (IG _ _ ha)⟩
     |ready=>cases hL
     |back=>cases hL
    |ret nt hb hm1 Mm h3 hT=>rcases h3 with h3|⟨_,h3⟩<;>(rw[ht]at h3;cases h3)
    |pan nt hb v u r hm1 Mm hv h3 hT=>rw[ht]at h3;cases h3
   ·simp[bX,pk,ht]
  ·cases h
 ·cases h
theorem Fin.sound(X:Ctx P ρ w0 C){f:Nat}{v:AV}{m:AM}(hf:Fin C f v m):∀{fr:Frame} {w:World},FY P ρ C.orc w0 μ0 m fr [] w→
  ∃jk w' μ G u H nx,Steps P (lone fr rest w) (lone jk rest w')∧jk.fn=f∧jk.leaving P w' (.returned u)∧aY ρ μ v u∧μ0.le μ∧bC P ρ w0 μ G (Key.toNat nx) w'∧HSub H G:=by
 induction hf with
 |done n h=>intro fr w hm;have hg:=Ag (rest:=rest) X n hm;rw[h]at hg;obtain⟨jk,w',μ,G,u,s⟩:=hg;exact⟨jk,w',μ,G,u,_,_,s⟩
 |seg n ss ks h h' ih=>intro fr w hm;have hg:=Ag (rest:=rest) X n hm;obtain⟨m1,e,hk⟩:=aej (P:=P) (ρ:=ρ) (C:=C) (w0:=w0) (μ0:=μ0) h;rw[e]at hg;obtain⟨fr1,cs1,w1,s1,h2⟩:=hg;obtain⟨rfl,Mm⟩:=hk h2;obtain⟨jk,w',μ,G,u,H,nx,s,r⟩:=ih Mm;exact⟨jk,w',μ,G,u,H,nx,s1.trans s,r⟩
theorem ajl(X:Ctx P ρ w0 C){f:Nat}{p:gE}{w:World}{G0:Key→Option ag}{H:T ag}{nx:Key}(hp:Jf P f=some p){l:List AV}{args:Array Value}(hM:bC P ρ w0 μ0 G0 nx.toNat w)(hH:HSub H G0)(hl:aA ρ μ0 l args.toList){v:AV}
  (PO:Fin C f v ⟨ah f p l,[],H,nx⟩):Calls P f args w fun e w'=>∃u μ G nx',e=.returned u∧aY ρ μ v u∧μ0.le μ∧bC P ρ w0 μ G (Key.toNat nx') w':=by
 intro cs;have hm:FY P ρ C.orc w0 μ0 ⟨ah f p l,[],H,nx⟩ (Frame.enter P f args .normal) [] w:=
  ⟨μ0,G0,μ0.le_refl,hM,hH,zb hp hl false,trivial,by simp[bX,pk,ah]⟩
 obtain⟨jk,w',μ,G,u,H2,aN,s1,s2,s3,s4,s5,s6,s7⟩:=PO.sound (rest:=cs) X hm;exact⟨.returned u,w',jk,⟨u,μ,G,aN,rfl,s4,s5,s6⟩,s1,s2,s3⟩
end
section
variable{P:Program}{ρ ρ':Nat→Int}{heap0:T ag}
theorem art{C:bU}(hX:∀w0:W0,kl P heap0 w0→Ctx P ρ' w0 C){f:Nat}{p:gE}(hp:Jf P f=some p){l:List AV}(hl:AV.IP l=true){v:AV}(hv:v.kf=true){nx0:Key}(hn:P.globals.size≤nx0.toNat)
  (fp:Fin C f v ⟨ah f p l,[],heap0,nx0⟩):∀w0:W0,kl P heap0 w0→∀H nx,Lg P ρ w0 f (AV.jC ρ' l) H nx (v.sub ρ') H nx:=by
 intro w0 hL H nx args w μ G hM hH fu;have hL1:kl P heap0 ⟨w,μ.fz⟩:=hL.am4 hM.below hM.zle;have hM1:=Ip (ρ:=ρ') (w0:=⟨w,μ.fz⟩) hL1 hM.Xl (nx:=nx0.toNat) hn;have ha1:aA ρ' (gMu P heap0 μ.fz) l args.toList:=aA.kf (μ:=μ) (μ':=gMu P heap0 μ.fz) (fun _ _ _ h=>h) (aA.Fm l fu) hl;refine(ajl (hX _ hL1) hp hM1 (fun _ _ h=>h) ha1 fp).mono ?_;rintro e w' ⟨u,μ1,G1,aN,rfl,hvr,hle,hM2⟩;have hb:Below w.heap.size w w':=hM2.below;have Ov:∀c i x,μ1.fz c i=some x→w.heap.size≤c∨μ.fz c i=some x:=hM2.fzo;have Pg:μ.le ⟨μ.loc,μ1.fz⟩:=⟨fun _ _ h=>h,fun c i x h=>hle.f c i x h⟩;refine⟨u,⟨μ.loc,μ1.fz⟩,G,rfl,aY.sub (aY.kf (μ:=μ1) (μ':=⟨μ.loc,μ1.fz⟩) (fun _ _ _ h=>h) hvr hv),Pg,?_,hH,⟨fun _ _ _=>rfl,fun _ _=>rfl,fun _ h _=>h,dQ _⟩⟩;have aa5:∀b l,μ b=some l→w'.heap[l.c]?=w.heap[l.c]?:=fun b l h=>hb.block _ (hM.Cr b l h);refine⟨?_,hM.sep,?_,hM.own,hM.P4,hM.new,hM.below.trans (hb.mono hM.below.size),hM2.Xl,?_,?_,?_,?_,Nat.le_trans hM.dr hM2.dr⟩
 ·intro b B hg;obtain⟨l,o,h1,h2,h3⟩:=hM.mD b B hg;exact⟨l,o,h1,by rw[aa5 b l h1];exact h2,h3.mono Pg⟩
 ·intro b l h;exact Lm (hM.Cr b l h) hb.size
 ·intro b B l n hg hm AO i hi;show μ1.fz l.c i=none;cases h:μ1.fz l.c i with
  |none=>rfl
  |some x=>
   rcases Ov _ _ _ h with h'|h'
   ·exact absurd (hM.Cr b l hm) (Nat.not_lt.2 h')
   ·rw[hM.fzf b B l n hg hm AO i hi]at h';cases h'
 ·intro c i x h;exact hle.f c i x (hM.zle c i x h)
 ·intro c i x h;rcases Ov c i x h with h'|h'
  ·exact .inl (Nat.le_trans hM.below.size h')
  ·exact hM.fzo c i x h'
 ·intro b L l hg hm;rcases hM.rof b L l hg hm with h|h
  ·exact .inl h
  ·refine .inr fun arr e f i x ha hx=>hle.f _ _ _ (h arr e f i x ?_ hx);rw[←aa5 b l hm];exact ha
inductive DT where
 |leaf (v:AV)
 |ask (op:BinOp) (a b:SI) (t e:DT)
def holds(ρ:Nat→Int)(op:BinOp)(a b:SI):Bool:=match iY op (a.den ρ) (b.den ρ)with
 |some r=>r
 |none=>false
def DT.val(ρ:Nat→Int):DT→AV
 |.leaf v=>v.sub ρ
 |.ask op a b t e=>match holds ρ op a b with
  |true=>t.val ρ
  |false=>e.val ρ
noncomputable def DT.check(C:jZ→bU)(f:Nat)(n:Nat)(m:AM):DT→jZ→Bool
 |.leaf v,o=>(match wK (C o) n m with
  |.done g u _ _=>Nat.beq g f&&AV.beq u v&&u.kf
  |_=>false)
 |.ask op a b t e,o=>isCmp op&&DT.check C f n m t ((op,a,b,true) ::o)&&DT.check C f n m e ((op,a,b,false) ::o)
mutual
theorem GQ{ρ:Nat→Int}:∀(a:AV),AV.lits a=true→a.sub ρ=a
 |.bool _,_=>rfl
 |.int _ (.lit _),_=>rfl
 |.int _ (.var _),h=>by simp[AV.lits]at h
 |.int _ (.bin _ _ _ _),h=>by simp[AV.lits]at h
 |.str _ _,_=>rfl
 |.ptr _ _,_=>rfl
 |.nilp,_=>rfl
 |.slice _ _ _ _,_=>rfl
 |.nils,_=>rfl
 |.map _,_=>rfl
 |.nilm,_=>rfl
 |.fn f a c,h=>by simp only[AV.lits,nn]at h;simp only[AV.sub,gZ a h.1,gZ c h.2]
 |.yld _,_=>rfl
 |.nilf,_=>rfl
 |.iface t v,h=>by simp only[AV.lits]at h;simp only[AV.sub,GQ v h]
 |.nili,_=>rfl
 |.agg l,h=>by simp only[AV.lits]at h;simp only[AV.sub,gZ l h]
 |.tuple l,h=>by simp only[AV.lits]at h;simp only[AV.sub,gZ l h]
 |.sl l _ _ _,h=>by simp only[AV.lits]at h;simp only[AV.sub,gZ l h]
 |.cref l,h=>by simp only[AV.lits]at h;simp only[AV.sub,gZ l h]
theorem gZ{ρ:Nat→Int}:∀(l:List AV),AV.gS l=true→AV.jC ρ l=l
 | [],_=>rfl
 |a ::l,h=>by simp only[AV.gS,nn]at h;simp only[AV.jC,GQ a h.1,gZ l h.2]
end
def Ent(P:Program)(heap0:T ag)(f:Nat)(l:List AV)(v:AV):Prop:=∀(ρ:Nat→Int) (w0:W0),kl P heap0 w0→∀H nx,Lg P ρ w0 f l H nx v H nx
abbrev Es:=List (List AV×AV)
def aT(P:Program)(heap0:T ag)(f:Nat):Es→Prop
 | []=>True
 |(m,v) ::r=>Ent P heap0 f m v∧aT P heap0 f r
def aIi:List AV→Key
 | [_,.int _ (.lit (.ofNat n))]=>Key.gK 12 n
 | [.int _ (.lit (.ofNat n))]=>Key.gK 12 n
 | [_,.str _ c]=>Key.gK 12 (Nat.mod c 251)
 |_=>.z
def jb:T Es→Es
 |.nil=>[]
 |.node v l r=>(match v with|some e=>e|none=>[])++(jb l++jb r)
def one(es:Es):T Es:=.node (some es) .nil .nil
def FX(P:Program)(heap0:T ag)(f:Nat)(t:T Es):Prop:=∀k es,ae k t=some es→aT P heap0 f es
def uw(P:Program)(heap0:T ag):List (Nat×T Es)→Prop
 | []=>True
 |(f,t) ::r=>((∃p,Jf P f=some p)∧FX P heap0 f t)∧uw P heap0 r
def aho:Es→List AV→Option AV
 | [],_=>none
 |(m,v) ::r,l=>bif AV.IU l m then some v else aho r l
noncomputable def Mr:List (Nat×T Es)→Nat→List AV→T ag→Key→Option (AV×T ag×Key)
 | [],_,_,_,_=>none
 |(g,t) ::r,f,l,h,nx=>bif Nat.beq f g then(match ae (aIi l) t with
  |some es=>match aho es l with
   |some v=>some (v,h,nx)
   |none=>none
  |none=>none)else Mr r f l h nx
theorem aT.left{f:Nat}:∀{a b:Es},aT P heap0 f (a++b)→aT P heap0 f a
 | [],_,_=>trivial
 |(_,_) ::_,_,h=>⟨h.1,aT.left h.2⟩
theorem aT.right{f:Nat}:∀{a b:Es},aT P heap0 f (a++b)→aT P heap0 f b
 | [],_,h=>h
 |(_,_) ::_,_,h=>aT.right h.2
theorem FX.of{f:Nat}:∀{t:T Es},aT P heap0 f (jb t)→FX P heap0 f t
 |.nil,_=>fun k es h=>by cases k<;>cases h
 |.node v l r,h=>fun k es e=>by
  unfold jb at h;cases k with
  |z=>have e:v=some es:=e;subst e;exact aT.left h
  |o k=>exact FX.of (aT.left (aT.right h)) k es e
  |e k=>exact FX.of (aT.right (aT.right h)) k es e
theorem FX.eq{f:Nat}{t:T Es}{es:Es}(h:aT P heap0 f es)(e:jb t=es):FX P heap0 f t:=.of (by rw[e];exact h)
theorem FX.one{f:Nat}{es:Es}(h:aT P heap0 f es):FX P heap0 f (one es):=.of (by show aT P heap0 f (es++([] ++ []));rw[List.append_nil,List.append_nil];exact h)
theorem aT.app{f:Nat}:∀{a b:Es},aT P heap0 f a→aT P heap0 f b→aT P heap0 f (a++b)
 | [],_,_,h=>h
 |(_,_) ::_,_,h,k=>⟨h.1,h.2.app k⟩
theorem aa6{f:Nat}:∀{es:Es},aT P heap0 f es→∀{l:List AV} {v:AV},aho es l=some v→Ent P heap0 f l v
 | [],_,_,_,e=>by cases e
 |(m,u) ::r,h,l,v,e=>by
  unfold aho at e;cases hb:AV.IU l m with
  |true=>rw[hb]at e;simp only[cond_true,fa]at e;rw[AV.jP _ _ hb,←e];exact h.1
  |false=>rw[hb]at e;exact aa6 h.2 e
theorem Ys:∀{tab:List (Nat×T Es)},uw P heap0 tab→∀{f:Nat} {l:List AV} {h:T ag} {nx:Key} {r:AV×T ag×Key},Mr tab f l h nx=some r→(∃p,Jf P f=some p)∧∃v,Ent P heap0 f l v∧r=(v,h,nx)
 | [],_,_,_,_,_,_,e=>by cases e
 |(g,es) ::t,ht,f,l,h,nx,r,e=>by
  unfold Mr at e;cases hb:Nat.beq f g with
  |true=>
   rw[hb]at e;have hb:=qX hb;subst hb;simp only[cond_true]at e;split at e
   ·rename_i es2 h2;split at e
    ·rename_i v hv;simp only[fa]at e;exact⟨ht.1.1,v,aa6 (ht.1.2 _ _ h2) hv,e.symm⟩
    ·cases e
   ·cases e
  |false=>rw[hb]at e;exact Ys ht.2 e
noncomputable def aAU(fns:T gE)(raw nD:Nat→Bool)(tab:List (Nat×T Es))(o:jZ):bU:=⟨o,fns,Mr tab,raw,nD⟩
theorem aIj{fns:T gE}{aa7:List (Nat×gE)}(hb:fns=HN aa7)(ha:Ms P aa7)(awA:P.follows .mixedOrders=true){tab:List (Nat×T Es)}(ht:uw P heap0 tab)(raw nD:Nat→Bool){o:jZ}(ho:fU ρ o)(w0:W0)(hL:kl P heap0 w0):Ctx P ρ w0 (aAU fns raw nD tab o):=by
 refine⟨?_,?_,ho,fun f p h=>aa8 hb ha (tab:=[]) h,awA⟩
 ·intro f l H nx a H' nx' hs;obtain⟨_,v,h1,h2⟩:=Ys ht hs;cases h2;exact h1 ρ w0 hL H nx
 ·intro f l H nx r hs;obtain⟨⟨p,hp⟩,_⟩:=Ys ht hs;obtain⟨fn,c,f1,f2,f3,_⟩:=wJ hp;exact⟨fn,f1,by rw[f2];rfl,f3⟩
theorem ahp{C:bU}(hX:∀(ρ:Nat→Int) (w0:W0),kl P heap0 w0→Ctx P ρ w0 C){f:Nat}{p:gE}(hp:Jf P f=some p){l:List AV}{v:AV}(hl:(AV.gS l&&AV.IP l&&AV.lits v&&v.kf)=true){nx0:Key}(hn:P.globals.size≤nx0.toNat)
  (hf:Fin C f v ⟨ah f p l,[],heap0,nx0⟩):Ent P heap0 f l v:=by
 intro ρ w0 hL H nx;simp only[nn]at hl;have:=art (ρ:=ρ) (ρ':=ρ) (hX ρ) hp hl.1.1.2 hl.2 hn hf w0 hL H nx;rw[gZ l hl.1.1.1,GQ v hl.1.2]at this;exact this
def aiL(f:Nat)(v:AV):SR→Bool
 |.done g u _ _=>Nat.beq g f&&AV.beq u v
 |_=>false
theorem CI{f:Nat}{v:AV}{C:bU}{n:Nat}{m:AM}(h:aiL f v (wK C n m)=true):Fin C f v m:=by
 cases hr:wK C n m with
 |done g u H nx=>rw[hr]at h;simp only[aiL,nn]at h;have h1:=qX h.1;have h2:=AV.eq_of_beq _ _ h.2;subst h1 h2;exact .done n hr
 |next m=>rw[hr]at h;cases h
 |pan v h' nx=>rw[hr]at h;cases h
 |bad n m=>rw[hr]at h;cases h
noncomputable def aru(C:bU)(n f:Nat)(p:gE)(heap0:T ag)(nx0:Key):Es→Bool
 | []=>true
 |(m,v) ::r=>AV.gS m&&AV.IP m&&AV.lits v&&v.kf&&aiL f v (wK C n ⟨ah f p m,[],heap0,nx0⟩)&&aru C n f p heap0 nx0 r
theorem ahq{C:bU}(hX:∀(ρ:Nat→Int) (w0:W0),kl P heap0 w0→Ctx P ρ w0 C){f:Nat}{p:gE}(hp:Jf P f=some p){n:Nat}{nx0:Key}(hn:P.globals.size≤nx0.toNat):∀{es:Es},aru C n f p heap0 nx0 es=true→aT P heap0 f es
 | [],_=>trivial
 |(m,v) ::r,h=>by unfold aru at h;rw[nn,nn]at h;exact⟨ahp hX hp h.1.1 hn (CI h.1.2),ahq hX hp hn h.2⟩
end
end Go.Sx
