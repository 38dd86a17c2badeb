/- A part of the proof. No condition. -/
import Derived.Test.YtecbfpngkfdkoaaGreatP6
set_option linter.unusedSimpArgs false
set_option linter.unusedVariables false
set_option linter.unusedSectionVars false
namespace Go.Sx
open Go.RowKit
mutual
def AV.sub(ρ:Nat→Int):AV→AV
 |.int k s=>.int k (.lit (s.den ρ))
 |.iface t v=>.iface t (AV.sub ρ v)
 |.agg l=>.agg (AV.jo ρ l)
 |.tuple l=>.tuple (AV.jo ρ l)
 |.sl l n z f=>.sl (AV.jo ρ l) n z f
 |.cref l=>.cref (AV.jo ρ l)
 |.fn f a c=>.fn f (AV.jo ρ a) (AV.jo ρ c)
 |a=>a
def AV.jo(ρ:Nat→Int):List AV→List AV
 | []=>[]
 |a ::l=>AV.sub ρ a ::AV.jo ρ l
end
theorem AV.MV(ρ:Nat→Int):∀l:List AV,(AV.jo ρ l).length=l.length
 | []=>rfl
 |_ ::l=>by simp only[AV.jo,zqi,AV.MV ρ l]
section
variable{ρ ρ':Nat→Int}{μ:Mu}
mutual
theorem aY.sub:∀{a:AV} {v:Value},aY ρ μ a v→aY ρ' μ (a.sub ρ) v
 |_,_,.bool b=>.bool b
 |_,_,.int k s n h=>.int k _ n h
 |_,_,.str n c s h h'=>.str n c s h h'
 |_,_,.ptr b off l a h ha=>.ptr b off l a h ha
 |_,_,.nilp=>.nilp
 |_,_,.slice b off len sz cap l a h hc hl ha=>.slice b off len sz cap l a h hc hl ha
 |_,_,.nils=>.nils
 |_,_,.map b l r h hr=>.map b l r h hr
 |_,_,.nilm=>.nilm
 |_,_,.fn f first cap vs ws h h'=>.fn f _ _ vs ws (az.sub h) (az.sub h')
 |_,_,.yld b l r h hr=>.yld b l r h hr
 |_,_,.nilf=>.nilf
 |_,_,.iface t a v h=>.iface t _ v (aY.sub h)
 |_,_,.nili=>.nili
 |_,_,.agg l vs h=>.agg _ vs (az.sub h)
 |_,_,.tuple l vs h=>.tuple _ vs (az.sub h)
 |_,_,.sl l len sz fl cap c o a vs h hn hl ha hf hg=>.sl _ len sz fl cap c o a vs (az.sub h) (by rw[AV.MV];exact hn) hl ha hf hg
 |_,_,.cref l c o a vs h ha hf=>.cref _ c o a vs (az.sub h) ha hf
theorem az.sub:∀{l:List AV} {vs:List Value},az ρ μ l vs→az ρ' μ (AV.jo ρ l) vs
 |_,_,.nil=>.nil
 |_,_,.cons a l v vs h h'=>.cons _ _ v vs (aY.sub h) (az.sub h')
end
mutual
theorem aY.GG:∀(a:AV) {v:Value},aY ρ' μ (a.sub ρ) v→aY ρ μ a v
 |.bool b,_,h=>by cases h;exact .bool b
 |.int k s,_,h=>by cases h with|int _ _ n h=>exact .int k s n h
 |.str n c,_,h=>by cases h with|str _ _ s h h'=>exact .str n c s h h'
 |.ptr b off,_,h=>by cases h with|ptr _ _ l a h ha=>exact .ptr b off l a h ha
 |.nilp,_,h=>by cases h;exact .nilp
 |.slice b off len sz,_,h=>by cases h with|slice _ _ _ _ cap l a h hc hl ha=>exact .slice b off len sz cap l a h hc hl ha
 |.nils,_,h=>by cases h;exact .nils
 |.map b,_,h=>by cases h with|map _ l r h hr=>exact .map b l r h hr
 |.nilm,_,h=>by cases h;exact .nilm
 |.fn f a c,_,h=>by cases h with|fn _ _ _ vs ws h h'=>exact .fn f a c vs ws (az.GG a h) (az.GG c h')
 |.yld b,_,h=>by cases h with|yld _ l r h hr=>exact .yld b l r h hr
 |.nilf,_,h=>by cases h;exact .nilf
 |.iface t a,_,h=>by cases h with|iface _ _ v h=>exact .iface t a v (aY.GG a h)
 |.nili,_,h=>by cases h;exact .nili
 |.agg l,_,h=>by cases h with|agg _ vs h=>exact .agg l vs (az.GG l h)
 |.tuple l,_,h=>by cases h with|tuple _ vs h=>exact .tuple l vs (az.GG l h)
 |.sl l len sz fl,_,h=>by cases h with|sl _ _ _ _ cap c o a vs h hn hl ha hf hg=>exact .sl l len sz fl cap c o a vs (az.GG l h) (by rw[AV.MV]at hn;exact hn) hl ha hf hg
 |.cref l,_,h=>by cases h with|cref _ c o a vs h ha hf=>exact .cref l c o a vs (az.GG l h) ha hf
theorem az.GG:∀(l:List AV) {vs:List Value},az ρ' μ (AV.jo ρ l) vs→az ρ μ l vs
 | [],_,h=>by cases h;exact .nil
 |a ::l,_,h=>by cases h with|cons _ _ v vs h h'=>exact .cons a l v vs (aY.GG a h) (az.GG l h')
end
end
noncomputable def U2{α:Type}:List Key→T α→T α
 | [],_=>.nil
 |k ::r,t=>match ae k t with
  |some v=>yM k (some v) (U2 r t) fun t=>t
  |none=>U2 r t
theorem JJ{α:Type}(t:T α):∀(ks:List Key) {b:Key} {v:α},ae b (U2 ks t)=some v→ae b t=some v
 | [],b,v,h=>by simp[U2]at h
 |k ::r,b,v,h=>by
  unfold U2 at h;cases hk:ae k t with
  |none=>rw[hk]at h;exact JJ t r h
  |some x=>
   rw[hk]at h;simp only[sTCe]at h;by_cases e:b=k
   ·subst e;rw[gTSm]at h;rw[hk];exact h
   ·rw[aU _ _ _ _ e]at h;exact JJ t r h
noncomputable def BI(ss ks:List Key):SR→Option AM
 |.next ⟨fr,[],h,nx⟩=>match fr.todo with
  |.inLoop _ ::_=>some ⟨{fr with tm:=U2 ss fr.tm},[],U2 ks h,nx⟩
  |_=>none
 |_=>none
inductive Fin(C:bQ)(f:Nat)(v:AV):AM→Prop
 |done {m:AM} (n:Nat) {H:T ah} {nx:Key} (h:wL C n m=.done f v H nx):Fin C f v m
 |seg {m m':AM} (n:Nat) (ss ks:List Key) (h:BI ss ks (wL C n m)=some m') (h':Fin C f v m'):Fin C f v m
section
variable{P:Program}{ρ:Nat→Int}{C:bQ}{w0:W0}{μ0:Mu}{rest:List Frame}
theorem afv{r:SR}{ss ks:List Key}{m':AM}(h:BI ss ks r=some m'):∃m,r=.next m∧∀{fr:Frame} {cs:List Frame} {w:World},HD P ρ C.orc w0 μ0 m fr cs w→cs=[]∧HD P ρ C.orc w0 μ0 m' fr [] w:=by
 unfold BI at h;split at h
 ·rename_i fr h0 nx;split at h
  ·rename_i c k ht;simp only[eM]at h;subst h;refine⟨_,rfl,?_⟩;intro OB cs w hm;obtain⟨μ,G,h1,h2,h3,h4,h5,h6⟩:=hm.ex;have UK:cs=[]:=by
    cases cs with
    |nil=>rfl
    |cons x l=>exact h5.elim
   subst UK;refine⟨rfl,⟨μ,G,h1,h2,fun b B hb=>h3 b B (JJ _ _ hb),?_,trivial,?_⟩⟩
   ·cases h4 with
    |run nt hb hm1 Sa hT=>
     have EK:fr.todo=_:=ht;simp only[ht]at hT;generalize hK:OB.todo=K at hT;generalize hTm:OB.tmps=TM at hT;generalize hL:dD.inLoop c ::k=LL at hT;cases hT with
     |plain _ _ _ _ hr htr=>refine .run nt ⟨hb.fn,hb.fnr,hb.dfs,hb.kind,hb.vW,hb.rd⟩ hm1 Sa ?_;rw[hK,hTm];show aa2 P ρ C.orc μ G _ _ nt fr.todo _ _ _;rw[ht,hL];exact .plain _ _ _ _ hr ⟨htr.1,fun k a ha=>htr.2 k a (JJ _ _ ha)⟩
     |ready=>cases hL
     |back=>cases hL
    |ret nt hb hm1 Sa h3 hT=>rcases h3 with h3|⟨_,h3⟩<;>(rw[ht]at h3;cases h3)
    |pan nt hb v u r hm1 Sa hv h3 hT=>rw[ht]at h3;cases h3
   ·simp[bR,pk,ht]
  ·cases h
 ·cases h
theorem Fin.sound(X:Ctx P ρ w0 C){f:Nat}{v:AV}{m:AM}(hf:Fin C f v m):∀{fr:Frame} {w:World},HD P ρ C.orc w0 μ0 m fr [] w→
  ∃iR w' μ G u H nx,Steps P (lone fr rest w) (lone iR rest w')∧iR.fn=f∧iR.leaving P w' (.returned u)∧aY ρ μ v u∧μ0.le μ∧bA P ρ w0 μ G (Key.toNat nx) w'∧HSub H G:=by
 induction hf with
 |done n h=>intro fr w hm;have hg:=zC (rest:=rest) X n hm;rw[h]at hg;obtain⟨iR,w',μ,G,u,s⟩:=hg;exact⟨iR,w',μ,G,u,_,_,s⟩
 |seg n ss ks h h' ih=>intro fr w hm;have hg:=zC (rest:=rest) X n hm;obtain⟨m1,e,hk⟩:=afv (P:=P) (ρ:=ρ) (C:=C) (w0:=w0) (μ0:=μ0) h;rw[e]at hg;obtain⟨fr1,cs1,w1,s1,h2⟩:=hg;obtain⟨rfl,Sa⟩:=hk h2;obtain⟨iR,w',μ,G,u,H,nx,s,r⟩:=ih Sa;exact⟨iR,w',μ,G,u,H,nx,s1.trans s,r⟩
theorem akF(X:Ctx P ρ w0 C){f:Nat}{p:fe}{w:World}{G0:Key→Option ah}{H:T ah}{nx:Key}(hp:J9 P f=some p){l:List AV}{args:Array Value}(hM:bA P ρ w0 μ0 G0 nx.toNat w)(hH:HSub H G0)(hl:az ρ μ0 l args.toList){v:AV}
  (RG:Fin C f v ⟨ai f p l,[],H,nx⟩):Calls P f args w fun e w'=>∃u μ G nx',e=.returned u∧aY ρ μ v u∧μ0.le μ∧bA P ρ w0 μ G (Key.toNat nx') w':=by
 intro cs;have hm:HD P ρ C.orc w0 μ0 ⟨ai f p l,[],H,nx⟩ (Frame.enter P f args .normal) [] w:=
  ⟨μ0,G0,μ0.le_refl,hM,hH,yE hp hl false,trivial,by simp[bR,pk,ai]⟩
 obtain⟨iR,w',μ,G,u,H2,aN,s1,s2,s3,s4,s5,s6,s7⟩:=RG.sound (rest:=cs) X hm;exact⟨.returned u,w',iR,⟨u,μ,G,aN,rfl,s4,s5,s6⟩,s1,s2,s3⟩
end
section
variable{P:Program}{ρ ρ':Nat→Int}{heap0:T ah}
theorem asB{C:bQ}(hX:∀w0:W0,jQ P heap0 w0→Ctx P ρ' w0 C){f:Nat}{p:fe}(hp:J9 P f=some p){l:List AV}(hl:AV.JO l=true){v:AV}(hv:v.kf=true){nx0:Key}(hn:P.globals.size≤nx0.toNat)
  (gM:Fin C f v ⟨ai f p l,[],heap0,nx0⟩):∀w0:W0,jQ P heap0 w0→∀H nx,MQ P ρ w0 f (AV.jo ρ' l) H nx (v.sub ρ') H nx:=by
 intro w0 hL H nx args w μ G hM hH dQ;have hL1:jQ P heap0 ⟨w,μ.fz⟩:=hL.aoz hM.below hM.zle;have hM1:=JI (ρ:=ρ') (w0:=⟨w,μ.fz⟩) hL1 hM.YV (nx:=nx0.toNat) hn;have ha1:az ρ' (gMu P heap0 μ.fz) l args.toList:=az.kf (μ:=μ) (μ':=gMu P heap0 μ.fz) (fun _ _ _ h=>h) (az.GG l dQ) hl;refine(akF (hX _ hL1) hp hM1 (fun _ _ h=>h) ha1 gM).mono ?_;rintro e w' ⟨u,μ1,G1,aN,rfl,hvr,hle,hM2⟩;have hb:Below w.heap.size w w':=hM2.below;have Mz:∀c i x,μ1.fz c i=some x→w.heap.size≤c∨μ.fz c i=some x:=hM2.fzo;have Q1:μ.le ⟨μ.loc,μ1.fz⟩:=⟨fun _ _ h=>h,fun c i x h=>hle.f c i x h⟩;refine⟨u,⟨μ.loc,μ1.fz⟩,G,rfl,aY.sub (aY.kf (μ:=μ1) (μ':=⟨μ.loc,μ1.fz⟩) (fun _ _ _ h=>h) hvr hv),Q1,?_,hH,⟨fun _ _ _=>rfl,fun _ _=>rfl,fun _ h _=>h,fg _⟩⟩;have acq:∀b l,μ b=some l→w'.heap[l.c]?=w.heap[l.c]?:=fun b l h=>hb.block _ (hM.BP b l h);refine⟨?_,hM.sep,?_,hM.own,hM.RW,hM.new,hM.below.trans (hb.mono hM.below.size),hM2.YV,?_,?_,?_,?_,Nat.le_trans hM.dr hM2.dr⟩
 ·intro b B hg;obtain⟨l,o,h1,h2,h3⟩:=hM.lW b B hg;exact⟨l,o,h1,by rw[acq b l h1];exact h2,h3.mono Q1⟩
 ·intro b l h;exact OX (hM.BP b l h) hb.size
 ·intro b B l n hg hm Ap i hi;show μ1.fz l.c i=none;cases h:μ1.fz l.c i with
  |none=>rfl
  |some x=>
   rcases Mz _ _ _ h with h'|h'
   ·exact absurd (hM.BP b l hm) (Nat.not_lt.2 h')
   ·rw[hM.fzf b B l n hg hm Ap i hi]at h';cases h'
 ·intro c i x h;exact hle.f c i x (hM.zle c i x h)
 ·intro c i x h;rcases Mz c i x h with h'|h'
  ·exact .inl (Nat.le_trans hM.below.size h')
  ·exact hM.fzo c i x h'
 ·intro b L l hg hm;rcases hM.rof b L l hg hm with h|h
  ·exact .inl h
  ·refine .inr fun arr e f i x ha hx=>hle.f _ _ _ (h arr e f i x ?_ hx);rw[←acq b l hm];exact ha
inductive DT where
 |leaf (v:AV)
 |ask (op:BinOp) (a b:SI) (t e:DT)
def holds(ρ:Nat→Int)(op:BinOp)(a b:SI):Bool:=match iB op (a.den ρ) (b.den ρ)with
 |some r=>r
 |none=>false
def DT.val(ρ:Nat→Int):DT→AV
 |.leaf v=>v.sub ρ
 |.ask op a b t e=>match holds ρ op a b with
  |true=>t.val ρ
  |false=>e.val ρ
mutual
theorem Ih{ρ:Nat→Int}:∀(a:AV),AV.lits a=true→a.sub ρ=a
 |.bool _,_=>rfl
 |.int _ (.lit _),_=>rfl
 |.int _ (.var _),h=>by simp[AV.lits]at h
 |.int _ (.bin _ _ _ _),h=>by simp[AV.lits]at h
 |.str _ _,_=>rfl
 |.ptr _ _,_=>rfl
 |.nilp,_=>rfl
 |.slice _ _ _ _,_=>rfl
 |.nils,_=>rfl
 |.map _,_=>rfl
 |.nilm,_=>rfl
 |.fn f a c,h=>by simp only[AV.lits,mP]at h;simp only[AV.sub,gC a h.1,gC c h.2]
 |.yld _,_=>rfl
 |.nilf,_=>rfl
 |.iface t v,h=>by simp only[AV.lits]at h;simp only[AV.sub,Ih v h]
 |.nili,_=>rfl
 |.agg l,h=>by simp only[AV.lits]at h;simp only[AV.sub,gC l h]
 |.tuple l,h=>by simp only[AV.lits]at h;simp only[AV.sub,gC l h]
 |.sl l _ _ _,h=>by simp only[AV.lits]at h;simp only[AV.sub,gC l h]
 |.cref l,h=>by simp only[AV.lits]at h;simp only[AV.sub,gC l h]
theorem gC{ρ:Nat→Int}:∀(l:List AV),AV.iA l=true→AV.jo ρ l=l
 | [],_=>rfl
 |a ::l,h=>by simp only[AV.iA,mP]at h;simp only[AV.jo,Ih a h.1,gC l h.2]
end
def Ent(P:Program)(heap0:T ah)(f:Nat)(l:List AV)(v:AV):Prop:=∀(ρ:Nat→Int) (w0:W0),jQ P heap0 w0→∀H nx,MQ P ρ w0 f l H nx v H nx
abbrev Es:=List (List AV×AV)
def aV(P:Program)(heap0:T ah)(f:Nat):Es→Prop
 | []=>True
 |(m,v) ::r=>Ent P heap0 f m v∧aV P heap0 f r
def aJl:List AV→Key
 | [_,.int _ (.lit (.ofNat n))]=>Key.gj 12 n
 | [.int _ (.lit (.ofNat n))]=>Key.gj 12 n
 | [_,.str _ c]=>Key.gj 12 (Nat.mod c 251)
 |_=>.z
def iE:T Es→Es
 |.nil=>[]
 |.node v l r=>(match v with|some e=>e|none=>[])++(iE l++iE r)
def one(es:Es):T Es:=.node (some es) .nil .nil
def HC(P:Program)(heap0:T ah)(f:Nat)(t:T Es):Prop:=∀k es,ae k t=some es→aV P heap0 f es
def tF(P:Program)(heap0:T ah):List (Nat×T Es)→Prop
 | []=>True
 |(f,t) ::r=>((∃p,J9 P f=some p)∧HC P heap0 f t)∧tF P heap0 r
def aiE:Es→List AV→Option AV
 | [],_=>none
 |(m,v) ::r,l=>bif AV.JQ l m then some v else aiE r l
noncomputable def JY:List (Nat×T Es)→Nat→List AV→T ah→Key→Option (AV×T ah×Key)
 | [],_,_,_,_=>none
 |(g,t) ::r,f,l,h,nx=>bif Nat.beq f g then(match ae (aJl l) t with
  |some es=>match aiE es l with
   |some v=>some (v,h,nx)
   |none=>none
  |none=>none)else JY r f l h nx
theorem aV.left{f:Nat}:∀{a b:Es},aV P heap0 f (a++b)→aV P heap0 f a
 | [],_,_=>trivial
 |(_,_) ::_,_,h=>⟨h.1,aV.left h.2⟩
theorem aV.right{f:Nat}:∀{a b:Es},aV P heap0 f (a++b)→aV P heap0 f b
 | [],_,h=>h
 |(_,_) ::_,_,h=>aV.right h.2
theorem HC.of{f:Nat}:∀{t:T Es},aV P heap0 f (iE t)→HC P heap0 f t
 |.nil,_=>fun k es h=>by cases k<;>cases h
 |.node v l r,h=>fun k es e=>by
  unfold iE at h;cases k with
  |z=>have e:v=some es:=e;subst e;exact aV.left h
  |o k=>exact HC.of (aV.left (aV.right h)) k es e
  |e k=>exact HC.of (aV.right (aV.right h)) k es e
theorem HC.eq{f:Nat}{t:T Es}{es:Es}(h:aV P heap0 f es)(e:iE t=es):HC P heap0 f t:=.of (by rw[e];exact h)
theorem HC.one{f:Nat}{es:Es}(h:aV P heap0 f es):HC P heap0 f (one es):=.of (by show aV P heap0 f (es++([] ++ []));rw[List.append_nil,List.append_nil];exact h)
theorem aV.app{f:Nat}:∀{a b:Es},aV P heap0 f a→aV P heap0 f b→aV P heap0 f (a++b)
 | [],_,_,h=>h
 |(_,_) ::_,_,h,k=>⟨h.1,h.2.app k⟩
theorem acr{f:Nat}:∀{es:Es},aV P heap0 f es→∀{l:List AV} {v:AV},aiE es l=some v→Ent P heap0 f l v
 | [],_,_,_,e=>by cases e
 |(m,u) ::r,h,l,v,e=>by
  unfold aiE at e;cases hb:AV.JQ l m with
  |true=>rw[hb]at e;simp only[cond_true,eM]at e;rw[AV.ju _ _ hb,←e];exact h.1
  |false=>rw[hb]at e;exact acr h.2 e
theorem ZT:∀{tab:List (Nat×T Es)},tF P heap0 tab→∀{f:Nat} {l:List AV} {h:T ah} {nx:Key} {r:AV×T ah×Key},JY tab f l h nx=some r→(∃p,J9 P f=some p)∧∃v,Ent P heap0 f l v∧r=(v,h,nx)
 | [],_,_,_,_,_,_,e=>by cases e
 |(g,es) ::t,ht,f,l,h,nx,r,e=>by
  unfold JY at e;cases hb:Nat.beq f g with
  |true=>
   rw[hb]at e;have hb:=rZ hb;subst hb;simp only[cond_true]at e;split at e
   ·rename_i es2 h2;split at e
    ·rename_i v hv;simp only[eM]at e;exact⟨ht.1.1,v,acr (ht.1.2 _ _ h2) hv,e.symm⟩
    ·cases e
   ·cases e
  |false=>rw[hb]at e;exact ZT ht.2 e
noncomputable def aBP(fns:T fe)(raw mY:Nat→Bool)(tab:List (Nat×T Es))(o:jR):bQ:=⟨o,fns,JY tab,raw,mY⟩
theorem aJm{fns:T fe}{acv:List (Nat×fe)}(hb:fns=IX acv)(ha:NU P acv)(axx:P.follows .mixedOrders=true){tab:List (Nat×T Es)}(ht:tF P heap0 tab)(raw mY:Nat→Bool){o:jR}(ho:fK ρ o)(w0:W0)(hL:jQ P heap0 w0):Ctx P ρ w0 (aBP fns raw mY tab o):=by
 refine⟨?_,?_,ho,fun f p h=>acw hb ha (tab:=[]) h,axx⟩
 ·intro f l H nx a H' nx' hs;obtain⟨_,v,h1,h2⟩:=ZT ht hs;cases h2;exact h1 ρ w0 hL H nx
 ·intro f l H nx r hs;obtain⟨⟨p,hp⟩,_⟩:=ZT ht hs;obtain⟨fn,c,f1,f2,f3,_⟩:=vX hp;exact⟨fn,f1,by rw[f2];rfl,f3⟩
theorem aiF{C:bQ}(hX:∀(ρ:Nat→Int) (w0:W0),jQ P heap0 w0→Ctx P ρ w0 C){f:Nat}{p:fe}(hp:J9 P f=some p){l:List AV}{v:AV}(hl:(AV.iA l&&AV.JO l&&AV.lits v&&v.kf)=true){nx0:Key}(hn:P.globals.size≤nx0.toNat)
  (hf:Fin C f v ⟨ai f p l,[],heap0,nx0⟩):Ent P heap0 f l v:=by
 intro ρ w0 hL H nx;simp only[mP]at hl;have:=asB (ρ:=ρ) (ρ':=ρ) (hX ρ) hp hl.1.1.2 hl.2 hn hf w0 hL H nx;rw[gC l hl.1.1.1,Ih v hl.1.2]at this;exact this
def aj9(f:Nat)(v:AV):SR→Bool
 |.done g u _ _=>Nat.beq g f&&AV.beq u v
 |_=>false
theorem Cz{f:Nat}{v:AV}{C:bQ}{n:Nat}{m:AM}(h:aj9 f v (wL C n m)=true):Fin C f v m:=by
 cases hr:wL C n m with
 |done g u H nx=>rw[hr]at h;simp only[aj9,mP]at h;have h1:=rZ h.1;have h2:=AV.eq_of_beq _ _ h.2;subst h1 h2;exact .done n hr
 |next m=>rw[hr]at h;cases h
 |pan v h' nx=>rw[hr]at h;cases h
 |bad n m=>rw[hr]at h;cases h
noncomputable def asC(C:bQ)(n f:Nat)(p:fe)(heap0:T ah)(nx0:Key):Es→Bool
 | []=>true
 |(m,v) ::r=>AV.iA m&&AV.JO m&&AV.lits v&&v.kf&&aj9 f v (wL C n ⟨ai f p m,[],heap0,nx0⟩)&&asC C n f p heap0 nx0 r
theorem aiG{C:bQ}(hX:∀(ρ:Nat→Int) (w0:W0),jQ P heap0 w0→Ctx P ρ w0 C){f:Nat}{p:fe}(hp:J9 P f=some p){n:Nat}{nx0:Key}(hn:P.globals.size≤nx0.toNat):∀{es:Es},asC C n f p heap0 nx0 es=true→aV P heap0 f es
 | [],_=>trivial
 |(m,v) ::r,h=>by unfold asC at h;rw[mP,mP]at h;exact⟨aiF hX hp h.1.1 hn (Cz h.1.2),aiG hX hp hn h.2⟩
end
end Go.Sx
