/- A part of the proof. No condition. -/
import Derived.Test.YtecbfpngkfdkoaaGreatP6
set_option linter.unusedSimpArgs false
set_option linter.unusedVariables false
set_option linter.unusedSectionVars false
namespace Go.Sx
open Go.RowKit
mutual
def AV.sub(ρ:Nat→Int):AV→AV
 |.int k s=>.int k (.lit (s.den ρ))
 |.iface t v=>.iface t (AV.sub ρ v)
 |.agg l=>.agg (AV.gT ρ l)
 |.tuple l=>.tuple (AV.gT ρ l)
 |.sl l n z f=>.sl (AV.gT ρ l) n z f
 |.cref l=>.cref (AV.gT ρ l)
 |.fn f a c=>.fn f (AV.gT ρ a) (AV.gT ρ c)
 |a=>a
def AV.gT(ρ:Nat→Int):List AV→List AV
 | []=>[]
 |a ::l=>AV.sub ρ a ::AV.gT ρ l
end
theorem AV.JD(ρ:Nat→Int):∀l:List AV,(AV.gT ρ l).length=l.length
 | []=>rfl
 |_ ::l=>by simp only[AV.gT,zqi,AV.JD ρ l]
section
variable{ρ ρ':Nat→Int}{μ:Mu}
mutual
theorem aS.sub:∀{a:AV} {v:Value},aS ρ μ a v→aS ρ' μ (a.sub ρ) v
 |_,_,.bool b=>.bool b
 |_,_,.int k s n h=>.int k _ n h
 |_,_,.str n c s h h'=>.str n c s h h'
 |_,_,.ptr b off l a h ha=>.ptr b off l a h ha
 |_,_,.nilp=>.nilp
 |_,_,.slice b off len sz cap l a h hc hl ha=>.slice b off len sz cap l a h hc hl ha
 |_,_,.nils=>.nils
 |_,_,.map b l r h hr=>.map b l r h hr
 |_,_,.nilm=>.nilm
 |_,_,.fn f first cap vs ws h h'=>.fn f _ _ vs ws (ax.sub h) (ax.sub h')
 |_,_,.yld b l r h hr=>.yld b l r h hr
 |_,_,.nilf=>.nilf
 |_,_,.iface t a v h=>.iface t _ v (aS.sub h)
 |_,_,.nili=>.nili
 |_,_,.agg l vs h=>.agg _ vs (ax.sub h)
 |_,_,.tuple l vs h=>.tuple _ vs (ax.sub h)
 |_,_,.sl l len sz fl cap c o a vs h hn hl ha hf hg=>.sl _ len sz fl cap c o a vs (ax.sub h) (by rw[AV.JD];exact hn) hl ha hf hg
 |_,_,.cref l c o a vs h ha hf=>.cref _ c o a vs (ax.sub h) ha hf
theorem ax.sub:∀{l:List AV} {vs:List Value},ax ρ μ l vs→ax ρ' μ (AV.gT ρ l) vs
 |_,_,.nil=>.nil
 |_,_,.cons a l v vs h h'=>.cons _ _ v vs (aS.sub h) (ax.sub h')
end
mutual
theorem aS.C5:∀(a:AV) {v:Value},aS ρ' μ (a.sub ρ) v→aS ρ μ a v
 |.bool b,_,h=>by cases h;exact .bool b
 |.int k s,_,h=>by cases h with|int _ _ n h=>exact .int k s n h
 |.str n c,_,h=>by cases h with|str _ _ s h h'=>exact .str n c s h h'
 |.ptr b off,_,h=>by cases h with|ptr _ _ l a h ha=>exact .ptr b off l a h ha
 |.nilp,_,h=>by cases h;exact .nilp
 |.slice b off len sz,_,h=>by cases h with|slice _ _ _ _ cap l a h hc hl ha=>exact .slice b off len sz cap l a h hc hl ha
 |.nils,_,h=>by cases h;exact .nils
 |.map b,_,h=>by cases h with|map _ l r h hr=>exact .map b l r h hr
 |.nilm,_,h=>by cases h;exact .nilm
 |.fn f a c,_,h=>by cases h with|fn _ _ _ vs ws h h'=>exact .fn f a c vs ws (ax.C5 a h) (ax.C5 c h')
 |.yld b,_,h=>by cases h with|yld _ l r h hr=>exact .yld b l r h hr
 |.nilf,_,h=>by cases h;exact .nilf
 |.iface t a,_,h=>by cases h with|iface _ _ v h=>exact .iface t a v (aS.C5 a h)
 |.nili,_,h=>by cases h;exact .nili
 |.agg l,_,h=>by cases h with|agg _ vs h=>exact .agg l vs (ax.C5 l h)
 |.tuple l,_,h=>by cases h with|tuple _ vs h=>exact .tuple l vs (ax.C5 l h)
 |.sl l len sz fl,_,h=>by cases h with|sl _ _ _ _ cap c o a vs h hn hl ha hf hg=>exact .sl l len sz fl cap c o a vs (ax.C5 l h) (by rw[AV.JD]at hn;exact hn) hl ha hf hg
 |.cref l,_,h=>by cases h with|cref _ c o a vs h ha hf=>exact .cref l c o a vs (ax.C5 l h) ha hf
theorem ax.C5:∀(l:List AV) {vs:List Value},ax ρ' μ (AV.gT ρ l) vs→ax ρ μ l vs
 | [],_,h=>by cases h;exact .nil
 |a ::l,_,h=>by cases h with|cons _ _ v vs h h'=>exact .cons a l v vs (aS.C5 a h) (ax.C5 l h')
end
end
noncomputable def P2{α:Type}:List Key→T α→T α
 | [],_=>.nil
 |k ::r,t=>match ae k t with
  |some v=>vU k (some v) (P2 r t) fun t=>t
  |none=>P2 r t
theorem GC{α:Type}(t:T α):∀(ks:List Key) {b:Key} {v:α},ae b (P2 ks t)=some v→ae b t=some v
 | [],b,v,h=>by simp[P2]at h
 |k ::r,b,v,h=>by
  unfold P2 at h;cases hk:ae k t with
  |none=>rw[hk]at h;exact GC t r h
  |some x=>
   rw[hk]at h;simp only[sTCe]at h;by_cases e:b=k
   ·subst e;rw[gTSm]at h;rw[hk];exact h
   ·rw[aR _ _ _ _ e]at h;exact GC t r h
noncomputable def yZ(ss ks:List Key):SR→Option AM
 |.next ⟨fr,[],h,nx⟩=>match fr.todo with
  |.inLoop _ ::_=>some ⟨{fr with tm:=P2 ss fr.tm},[],P2 ks h,nx⟩
  |_=>none
 |_=>none
inductive Fin(C:bK)(f:Nat)(v:AV):AM→Prop
 |done {m:AM} (n:Nat) {H:T ah} {nx:Key} (h:tK C n m=.done f v H nx):Fin C f v m
 |seg {m m':AM} (n:Nat) (ss ks:List Key) (h:yZ ss ks (tK C n m)=some m') (h':Fin C f v m'):Fin C f v m
section
variable{P:Program}{ρ:Nat→Int}{C:bK}{w0:W0}{μ0:Mu}{rest:List Frame}
theorem Z7{r:SR}{ss ks:List Key}{m':AM}(h:yZ ss ks r=some m'):∃m,r=.next m∧∀{fr:Frame} {cs:List Frame} {w:World},DS P ρ C.orc w0 μ0 m fr cs w→cs=[]∧DS P ρ C.orc w0 μ0 m' fr [] w:=by
 unfold yZ at h;split at h
 ·rename_i fr h0 nx;split at h
  ·rename_i c k ht;simp only[dI]at h;subst h;refine⟨_,rfl,?_⟩;intro KZ cs w hm;obtain⟨μ,G,h1,h2,h3,h4,h5,h6⟩:=hm.ex;have WD:cs=[]:=by
    cases cs with
    |nil=>rfl
    |cons x l=>exact h5.elim
   subst WD;refine⟨rfl,⟨μ,G,h1,h2,fun b B hb=>h3 b B (GC _ _ hb),?_,trivial,?_⟩⟩
   ·cases h4 with
    |run nt hb hm1 NN hT=>
     have EO:fr.todo=_:=ht;simp only[ht]at hT;generalize hK:KZ.todo=K at hT;generalize hTm:KZ.tmps=TM at hT;generalize hL:cT.inLoop c ::k=LL at hT;cases hT with
     |plain _ _ _ _ hr htr=>refine .run nt ⟨hb.fn,hb.Y0,hb.dfs,hb.kind,hb.sV,hb.rd⟩ hm1 NN ?_;rw[hK,hTm];show VQ P ρ C.orc μ G _ _ nt fr.todo _ _ _;rw[ht,hL];exact .plain _ _ _ _ hr ⟨htr.1,fun k a ha=>htr.2 k a (GC _ _ ha)⟩
     |ready=>cases hL
     |back=>cases hL
    |ret nt hb hm1 NN h3 hT=>rcases h3 with h3|⟨_,h3⟩<;>(rw[ht]at h3;cases h3)
    |pan nt hb v u r hm1 NN hv h3 hT=>rw[ht]at h3;cases h3
   ·simp[bB,pk,ht]
  ·cases h
 ·cases h
theorem Fin.sound(X:Ctx P ρ w0 C){f:Nat}{v:AV}{m:AM}(hf:Fin C f v m):∀{fr:Frame} {w:World},DS P ρ C.orc w0 μ0 m fr [] w→
  ∃gD w' μ G u H nx,Steps P (lone fr rest w) (lone gD rest w')∧gD.fn=f∧gD.leaving P w' (.returned u)∧aS ρ μ v u∧μ0.le μ∧aZ P ρ w0 μ G (Key.toNat nx) w'∧HSub H G:=by
 induction hf with
 |done n h=>intro fr w hm;have hg:=wY (rest:=rest) X n hm;rw[h]at hg;obtain⟨gD,w',μ,G,u,s⟩:=hg;exact⟨gD,w',μ,G,u,_,_,s⟩
 |seg n ss ks h h' ih=>intro fr w hm;have hg:=wY (rest:=rest) X n hm;obtain⟨m1,e,hk⟩:=Z7 (P:=P) (ρ:=ρ) (C:=C) (w0:=w0) (μ0:=μ0) h;rw[e]at hg;obtain⟨fr1,cs1,w1,s1,h2⟩:=hg;obtain⟨rfl,NN⟩:=hk h2;obtain⟨gD,w',μ,G,u,H,nx,s,r⟩:=ih NN;exact⟨gD,w',μ,G,u,H,nx,s1.trans s,r⟩
theorem afb(X:Ctx P ρ w0 C){f:Nat}{p:ej}{w:World}{G0:Key→Option ah}{H:T ah}{nx:Key}(hp:Hb P f=some p){l:List AV}{args:Array Value}(hM:aZ P ρ w0 μ0 G0 nx.toNat w)(hH:HSub H G0)(hl:ax ρ μ0 l args.toList){v:AV}
  (Nx:Fin C f v ⟨an f p l,[],H,nx⟩):Calls P f args w fun e w'=>∃u μ G nx',e=.returned u∧aS ρ μ v u∧μ0.le μ∧aZ P ρ w0 μ G (Key.toNat nx') w':=by
 intro cs;have hm:DS P ρ C.orc w0 μ0 ⟨an f p l,[],H,nx⟩ (Frame.enter P f args .normal) [] w:=
  ⟨μ0,G0,μ0.le_refl,hM,hH,vH hp hl false,trivial,by simp[bB,pk,an]⟩
 obtain⟨gD,w',μ,G,u,H2,aU,s1,s2,s3,s4,s5,s6,s7⟩:=Nx.sound (rest:=cs) X hm;exact⟨.returned u,w',gD,⟨u,μ,G,aU,rfl,s4,s5,s6⟩,s1,s2,s3⟩
end
section
variable{P:Program}{ρ ρ':Nat→Int}{heap0:T ah}
theorem amD{C:bK}(hX:∀w0:W0,iE P heap0 w0→Ctx P ρ' w0 C){f:Nat}{p:ej}(hp:Hb P f=some p){l:List AV}(hl:AV.Ec l=true){v:AV}(hv:v.kf=true){nx0:Key}(hn:P.globals.size≤nx0.toNat)
  (fC:Fin C f v ⟨an f p l,[],heap0,nx0⟩):∀w0:W0,iE P heap0 w0→∀H nx,JA P ρ w0 f (AV.gT ρ' l) H nx (v.sub ρ') H nx:=by
 intro w0 hL H nx args w μ G hM hH df;have hL1:iE P heap0 ⟨w,μ.fz⟩:=hL.aiM hM.below hM.zle;have hM1:=GA (ρ:=ρ') (w0:=⟨w,μ.fz⟩) hL1 hM.T3 (nx:=nx0.toNat) hn;have ha1:ax ρ' (gMu P heap0 μ.fz) l args.toList:=ax.kf (μ:=μ) (μ':=gMu P heap0 μ.fz) (fun _ _ _ h=>h) (ax.C5 l df) hl;refine(afb (hX _ hL1) hp hM1 (fun _ _ h=>h) ha1 fC).mono ?_;rintro e w' ⟨u,μ1,G1,aU,rfl,hvr,hle,Y6⟩;have hb:Below w.heap.size w w':=Y6.below;have UB:∀c i x,μ1.fz c i=some x→w.heap.size≤c∨μ.fz c i=some x:=Y6.fzo;have MT:μ.le ⟨μ.loc,μ1.fz⟩:=⟨fun _ _ h=>h,fun c i x h=>hle.f c i x h⟩;refine⟨u,⟨μ.loc,μ1.fz⟩,G,rfl,aS.sub (aS.kf (μ:=μ1) (μ':=⟨μ.loc,μ1.fz⟩) (fun _ _ _ h=>h) hvr hv),MT,?_,hH,⟨fun _ _ _=>rfl,fun _ _=>rfl,fun _ h _=>h,fa _⟩⟩;have Xf:∀b l,μ b=some l→w'.heap[l.c]?=w.heap[l.c]?:=fun b l h=>hb.block _ (hM.zA b l h);refine⟨?_,hM.sep,?_,hM.own,hM.NG,hM.new,hM.below.trans (hb.mono hM.below.size),Y6.T3,?_,?_,?_,?_,Nat.le_trans hM.dr Y6.dr⟩
 ·intro b B hg;obtain⟨l,o,h1,h2,h3⟩:=hM.xG b B hg;exact⟨l,o,h1,by rw[Xf b l h1];exact h2,h3.mono MT⟩
 ·intro b l h;exact Lk (hM.zA b l h) hb.size
 ·intro b B l n hg hm xH i hi;show μ1.fz l.c i=none;cases h:μ1.fz l.c i with
  |none=>rfl
  |some x=>
   rcases UB _ _ _ h with h'|h'
   ·exact absurd (hM.zA b l hm) (Nat.not_lt.2 h')
   ·rw[hM.fzf b B l n hg hm xH i hi]at h';cases h'
 ·intro c i x h;exact hle.f c i x (hM.zle c i x h)
 ·intro c i x h;rcases UB c i x h with h'|h'
  ·exact .inl (Nat.le_trans hM.below.size h')
  ·exact hM.fzo c i x h'
 ·intro b L l hg hm;rcases hM.rof b L l hg hm with h|h
  ·exact .inl h
  ·refine .inr fun arr e f i x ha hx=>hle.f _ _ _ (h arr e f i x ?_ hx);rw[←Xf b l hm];exact ha
inductive DT where
 |leaf (v:AV)
 |ask (op:BinOp) (a b:SI) (t e:DT)
def holds(ρ:Nat→Int)(op:BinOp)(a b:SI):Bool:=match fF op (a.den ρ) (b.den ρ)with
 |some r=>r
 |none=>false
def DT.val(ρ:Nat→Int):DT→AV
 |.leaf v=>v.sub ρ
 |.ask op a b t e=>match holds ρ op a b with
  |true=>t.val ρ
  |false=>e.val ρ
mutual
theorem sX{ρ:Nat→Int}:∀(a:AV),AV.lits a=true→a.sub ρ=a
 |.bool _,_=>rfl
 |.int _ (.lit _),_=>rfl
 |.int _ (.var _),h=>by simp[AV.lits]at h
 |.int _ (.bin _ _ _ _),h=>by simp[AV.lits]at h
 |.str _ _,_=>rfl
 |.ptr _ _,_=>rfl
 |.nilp,_=>rfl
 |.slice _ _ _ _,_=>rfl
 |.nils,_=>rfl
 |.map _,_=>rfl
 |.nilm,_=>rfl
 |.fn f a c,h=>by simp only[AV.lits,kO]at h;simp only[AV.sub,iU a h.1,iU c h.2]
 |.yld _,_=>rfl
 |.nilf,_=>rfl
 |.iface t v,h=>by simp only[AV.lits]at h;simp only[AV.sub,sX v h]
 |.nili,_=>rfl
 |.agg l,h=>by simp only[AV.lits]at h;simp only[AV.sub,iU l h]
 |.tuple l,h=>by simp only[AV.lits]at h;simp only[AV.sub,iU l h]
 |.sl l _ _ _,h=>by simp only[AV.lits]at h;simp only[AV.sub,iU l h]
 |.cref l,h=>by simp only[AV.lits]at h;simp only[AV.sub,iU l h]
theorem iU{ρ:Nat→Int}:∀(l:List AV),AV.gE l=true→AV.gT ρ l=l
 | [],_=>rfl
 |a ::l,h=>by simp only[AV.gE,kO]at h;simp only[AV.gT,sX a h.1,iU l h.2]
end
def Ent(P:Program)(heap0:T ah)(f:Nat)(l:List AV)(v:AV):Prop:=∀(ρ:Nat→Int) (w0:W0),iE P heap0 w0→∀H nx,JA P ρ w0 f l H nx v H nx
abbrev Es:=List (List AV×AV)
def aO(P:Program)(heap0:T ah)(f:Nat):Es→Prop
 | []=>True
 |(m,v) ::r=>Ent P heap0 f m v∧aO P heap0 f r
def aDv:List AV→Key
 | [_,.int _ (.lit (.ofNat n))]=>Key.fe 12 n
 | [.int _ (.lit (.ofNat n))]=>Key.fe 12 n
 | [_,.str _ c]=>Key.fe 12 (Nat.mod c 251)
 |_=>.z
def gi:T Es→Es
 |.nil=>[]
 |.node v l r=>(match v with|some e=>e|none=>[])++(gi l++gi r)
def one(es:Es):T Es:=.node (some es) .nil .nil
def DR(P:Program)(heap0:T ah)(f:Nat)(t:T Es):Prop:=∀k es,ae k t=some es→aO P heap0 f es
def qy(P:Program)(heap0:T ah):List (Nat×T Es)→Prop
 | []=>True
 |(f,t) ::r=>((∃p,Hb P f=some p)∧DR P heap0 f t)∧qy P heap0 r
def adm:Es→List AV→Option AV
 | [],_=>none
 |(m,v) ::r,l=>bif AV.GK l m then some v else adm r l
noncomputable def Ki:List (Nat×T Es)→Nat→List AV→T ah→Key→Option (AV×T ah×Key)
 | [],_,_,_,_=>none
 |(g,t) ::r,f,l,h,nx=>bif Nat.beq f g then(match ae (aDv l) t with
  |some es=>match adm es l with
   |some v=>some (v,h,nx)
   |none=>none
  |none=>none)else Ki r f l h nx
theorem aO.left{f:Nat}:∀{a b:Es},aO P heap0 f (a++b)→aO P heap0 f a
 | [],_,_=>trivial
 |(_,_) ::_,_,h=>⟨h.1,aO.left h.2⟩
theorem aO.right{f:Nat}:∀{a b:Es},aO P heap0 f (a++b)→aO P heap0 f b
 | [],_,h=>h
 |(_,_) ::_,_,h=>aO.right h.2
theorem DR.of{f:Nat}:∀{t:T Es},aO P heap0 f (gi t)→DR P heap0 f t
 |.nil,_=>fun k es h=>by cases k<;>cases h
 |.node v l r,h=>fun k es e=>by
  unfold gi at h;cases k with
  |z=>have e:v=some es:=e;subst e;exact aO.left h
  |o k=>exact DR.of (aO.left (aO.right h)) k es e
  |e k=>exact DR.of (aO.right (aO.right h)) k es e
theorem DR.eq{f:Nat}{t:T Es}{es:Es}(h:aO P heap0 f es)(e:gi t=es):DR P heap0 f t:=.of (by rw[e];exact h)
theorem DR.one{f:Nat}{es:Es}(h:aO P heap0 f es):DR P heap0 f (one es):=.of (by show aO P heap0 f (es++([] ++ []));rw[List.append_nil,List.append_nil];exact h)
theorem aO.app{f:Nat}:∀{a b:Es},aO P heap0 f a→aO P heap0 f b→aO P heap0 f (a++b)
 | [],_,_,h=>h
 |(_,_) ::_,_,h,k=>⟨h.1,h.2.app k⟩
theorem Xg{f:Nat}:∀{es:Es},aO P heap0 f es→∀{l:List AV} {v:AV},adm es l=some v→Ent P heap0 f l v
 | [],_,_,_,e=>by cases e
 |(m,u) ::r,h,l,v,e=>by
  unfold adm at e;cases hb:AV.GK l m with
  |true=>rw[hb]at e;simp only[cond_true,dI]at e;rw[AV.hJ _ _ hb,←e];exact h.1
  |false=>rw[hb]at e;exact Xg h.2 e
theorem UR:∀{tab:List (Nat×T Es)},qy P heap0 tab→∀{f:Nat} {l:List AV} {h:T ah} {nx:Key} {r:AV×T ah×Key},Ki tab f l h nx=some r→(∃p,Hb P f=some p)∧∃v,Ent P heap0 f l v∧r=(v,h,nx)
 | [],_,_,_,_,_,_,e=>by cases e
 |(g,es) ::t,ht,f,l,h,nx,r,e=>by
  unfold Ki at e;cases hb:Nat.beq f g with
  |true=>
   rw[hb]at e;have hb:=o9 hb;subst hb;simp only[cond_true]at e;split at e
   ·rename_i es2 h2;split at e
    ·rename_i v hv;simp only[dI]at e;exact⟨ht.1.1,v,Xg (ht.1.2 _ _ h2) hv,e.symm⟩
    ·cases e
   ·cases e
  |false=>rw[hb]at e;exact UR ht.2 e
noncomputable def awz(fns:T ej)(raw kY:Nat→Bool)(tab:List (Nat×T Es))(o:iG):bK:=⟨o,fns,Ki tab,raw,kY⟩
theorem aDw{fns:T ej}{Xh:List (Nat×ej)}(hb:fns=Ft Xh)(ha:Kj P Xh)(asj:P.follows .mixedOrders=true){tab:List (Nat×T Es)}(ht:qy P heap0 tab)(raw kY:Nat→Bool){o:iG}(ho:ep ρ o)(w0:W0)(hL:iE P heap0 w0):Ctx P ρ w0 (awz fns raw kY tab o):=by
 refine⟨?_,?_,ho,fun f p h=>Xi hb ha (tab:=[]) h,asj⟩
 ·intro f l H nx a H' nx' hs;obtain⟨_,v,h1,h2⟩:=UR ht hs;cases h2;exact h1 ρ w0 hL H nx
 ·intro f l H nx r hs;obtain⟨⟨p,hp⟩,_⟩:=UR ht hs;obtain⟨fn,c,f1,f2,f3,_⟩:=sW hp;exact⟨fn,f1,by rw[f2];rfl,f3⟩
theorem adn{C:bK}(hX:∀(ρ:Nat→Int) (w0:W0),iE P heap0 w0→Ctx P ρ w0 C){f:Nat}{p:ej}(hp:Hb P f=some p){l:List AV}{v:AV}(hl:(AV.gE l&&AV.Ec l&&AV.lits v&&v.kf)=true){nx0:Key}(hn:P.globals.size≤nx0.toNat)
  (hf:Fin C f v ⟨an f p l,[],heap0,nx0⟩):Ent P heap0 f l v:=by
 intro ρ w0 hL H nx;simp only[kO]at hl;have:=amD (ρ:=ρ) (ρ':=ρ) (hX ρ) hp hl.1.1.2 hl.2 hn hf w0 hL H nx;rw[iU l hl.1.1.1,sX v hl.1.2]at this;exact this
def aeP(f:Nat)(v:AV):SR→Bool
 |.done g u _ _=>Nat.beq g f&&AV.beq u v
 |_=>false
theorem zG{f:Nat}{v:AV}{C:bK}{n:Nat}{m:AM}(h:aeP f v (tK C n m)=true):Fin C f v m:=by
 cases hr:tK C n m with
 |done g u H nx=>rw[hr]at h;simp only[aeP,kO]at h;have h1:=o9 h.1;have h2:=AV.eq_of_beq _ _ h.2;subst h1 h2;exact .done n hr
 |next m=>rw[hr]at h;cases h
 |pan v h' nx=>rw[hr]at h;cases h
 |bad n m=>rw[hr]at h;cases h
noncomputable def amE(C:bK)(n f:Nat)(p:ej)(heap0:T ah)(nx0:Key):Es→Bool
 | []=>true
 |(m,v) ::r=>AV.gE m&&AV.Ec m&&AV.lits v&&v.kf&&aeP f v (tK C n ⟨an f p m,[],heap0,nx0⟩)&&amE C n f p heap0 nx0 r
theorem ado{C:bK}(hX:∀(ρ:Nat→Int) (w0:W0),iE P heap0 w0→Ctx P ρ w0 C){f:Nat}{p:ej}(hp:Hb P f=some p){n:Nat}{nx0:Key}(hn:P.globals.size≤nx0.toNat):∀{es:Es},amE C n f p heap0 nx0 es=true→aO P heap0 f es
 | [],_=>trivial
 |(m,v) ::r,h=>by unfold amE at h;rw[kO,kO]at h;exact⟨adn hX hp h.1.1 hn (zG h.1.2),ado hX hp hn h.2⟩
end
end Go.Sx
