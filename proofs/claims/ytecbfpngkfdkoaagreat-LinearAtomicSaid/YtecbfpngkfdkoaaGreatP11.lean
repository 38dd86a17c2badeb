/- A part of the proof. No condition. -/
import Derived.Test.YtecbfpngkfdkoaaGreatP6
import Derived.Test.YtecbfpngkfdkoaaGreatP7
import Derived.Test.YtecbfpngkfdkoaaGreatP8
import Derived.KernelRfl
set_option linter.unusedSimpArgs false
set_option linter.unusedVariables false
set_option linter.unusedSectionVars false
namespace Go.Sx
open Go.RowKit
def aA4(o o':iV):Prop:=∀op a b r,o.ask op a b=some r→o'.ask op a b=some r
theorem fk.ext{ρ:Nat→Int}{o:iV}{op:BinOp}{a b:SI}{r:Bool}(h:fk ρ o)(h':fk ρ ((op,a,b,r) ::o)):aA4 o ((op,a,b,r) ::o):=by
 intro op2 x y r2 e;have h1:=h _ _ _ _ e;have h2:∃r3,iV.ask op2 x y ((op,a,b,r) ::o)=some r3:=by
  show ∃r3,(bif NR op op2&&SI.beq a x&&SI.beq b y then some r else iV.ask op2 x y o)=some r3;cases NR op op2&&SI.beq a x&&SI.beq b y with
  |true=>exact⟨r,rfl⟩
  |false=>exact⟨r2,e⟩
 obtain⟨r3,h3⟩:=h2;have:=h' _ _ _ _ h3;rw[h1]at this;rw[h3,←Option.some.inj this]
section
variable{o o':iV}(hx:aA4 o o')
include hx
theorem Hu{op:BinOp}{a b:SI}{r:Bool}(h:IJ o op a b=some r):IJ o' op a b=some r:=by
 have key:∀z:Option Bool,(bif SI.beq a b then z else o.ask op a b)=some r→(bif SI.beq a b then z else o'.ask op a b)=some r:=by
  intro z;cases SI.beq a b with
  |true=>exact id
  |false=>exact hx _ _ _ _
 unfold IJ at h ⊢;split
 ·exact h
 ·rename_i hn;split at h
  ·exact(hn _ _ rfl rfl).elim
  ·exact key _ h
mutual
theorem ahz:∀(p:Nx) (a b:AV) (r:Bool),jM o p a b=some r→jM o' p a b=some r
 |.int,a,b,r,h=>by
  cases a<;>cases b<;>simp only[jM]at h ⊢<;>first|(cases h;done)|skip
  rename_i k x k' y;cases hk:beqKind k k' with
  |true=>rw[hk]at h;simp only[cond_true]at h ⊢;exact Hu hx h
  |false=>rw[hk]at h;cases h
 |.parts l,a,b,r,h=>by
  cases a<;>cases b<;>simp only[jM]at h ⊢<;>first|(cases h;done)|skip
  exact Py l _ _ r h
 |.bool,a,b,r,h=>by cases a<;>cases b<;>simp only[jM]at h ⊢<;>exact h
 |.str,a,b,r,h=>by cases a<;>cases b<;>simp only[jM]at h ⊢<;>exact h
 |.ptr,a,b,r,h=>by cases a<;>cases b<;>simp only[jM]at h ⊢<;>exact h
 |.iface,a,b,r,h=>by cases a<;>cases b<;>simp only[jM]at h ⊢<;>exact h
 |.slice,a,b,r,h=>by cases a<;>cases b<;>simp only[jM]at h ⊢<;>exact h
 |.func,a,b,r,h=>by cases a<;>cases b<;>simp only[jM]at h ⊢<;>exact h
 |.map,a,b,r,h=>by cases a<;>cases b<;>simp only[jM]at h ⊢<;>exact h
theorem Py:∀(l:List (Nat×Nx)) (a b:List AV) (r:Bool),db o l a b=some r→db o' l a b=some r
 | [],a,b,r,h=>by simp only[db]at h ⊢;exact h
 |(off,p) ::l,a,b,r,h=>by
  simp only[db]at h ⊢;cases h1:nth off a with
  |none=>rw[h1]at h;cases h
  |some x=>
   cases h2:nth off b with
   |none=>rw[h1,h2]at h;cases h
   |some y=>
    rw[h1,h2]at h;simp only at h ⊢;cases h3:jM o p x y with
    |none=>rw[h3]at h;cases h
    |some q=>
     rw[h3]at h;rw[ahz p x y q h3];cases q with
     |true=>exact Py l a b r h
     |false=>exact h
end
theorem WQ{sk:Bool}{k:AV}:∀{l:List (AV×AV)} {r:Option AV},findK o sk k l=some r→findK o' sk k l=some r
 | [],r,h=>h
 |(a,v) ::l,r,h=>by
  unfold findK at h ⊢;cases hk:keyEq o sk k a with
  |none=>rw[hk]at h;cases h
  |some q=>
   have:keyEq o' sk k a=some q:=by
    cases k<;>cases a<;>simp only[keyEq]at hk ⊢<;>first|exact hk|skip
    rename_i k1 x k2 y;cases hb:beqKind k1 k2 && !sk with
    |true=>rw[hb]at hk;simp only[cond_true]at hk ⊢;exact Hu hx hk
    |false=>rw[hb]at hk;cases hk
   rw[hk]at h;rw[this];cases q with
   |true=>exact h
   |false=>exact WQ h
theorem aaY{op:Lr}{tm:T AV}{h:T ah}{v:AV}(e:lightOp o op tm h=some v):lightOp o' op tm h=some v:=by
 cases op
 case bin bo x y=>
  simp only[lightOp]at e ⊢;cases Is:x.at tm with
  |none=>rw[Is]at e;cases e
  |some a=>
   cases Yq:y.at tm with
   |none=>rw[Is,Yq]at e;cases a<;>cases e
   |some b=>
    rw[Is,Yq]at e;cases a<;>cases b<;>simp only at e ⊢<;>first|exact e|skip
    rename_i k a k' b;cases bo<;>simp only at e ⊢<;>first|exact e|skip
    all_goals
     cases hk:beqKind k k' with
     |false=>rw[hk]at e;cases e
     |true=>
      rw[hk]at e;simp only[isCmp,cond_true,cond_false]at e ⊢
      first
      |exact e
      |(split at e
        ·rename_i r hr;rw[Hu hx hr];exact e
        ·cases e)
 case eq neg p x y=>
  simp only[lightOp]at e ⊢;cases Is:x.at tm with
  |none=>rw[Is]at e;cases e
  |some a=>
   cases Yq:y.at tm with
   |none=>rw[Is,Yq]at e;cases e
   |some b=>
    rw[Is,Yq]at e;simp only at e ⊢;split at e
    ·rename_i r hr;rw[ahz hx _ _ _ _ hr];exact e
    ·cases e
 case lookup sk zero ok m k=>
  simp only[lightOp]at e ⊢;cases Is:m.at tm with
  |none=>rw[Is]at e;cases e
  |some a=>
   cases Yq:k.at tm with
   |none=>rw[Is,Yq]at e;cases a<;>cases e
   |some b=>
    rw[Is,Yq]at e;cases a<;>simp only at e ⊢<;>first|exact e|skip
    split at e
    ·rename_i l hl;cases hf:findK o sk b l with
     |none=>rw[hf]at e;cases e
     |some q=>rw[hf]at e;rw[WQ hx hf];exact e
    ·cases e
 case mx isMax a b=>
  simp only[lightOp]at e ⊢;cases Is:a.at tm with
  |none=>rw[Is]at e;cases e
  |some u=>
   cases Yq:b.at tm with
   |none=>rw[Is,Yq]at e;cases u<;>cases e
   |some w=>
    rw[Is,Yq]at e;cases u<;>cases w<;>simp only at e ⊢<;>first|exact e|skip
    rename_i k x k' y;cases hk:beqKind k k' with
    |false=>rw[hk]at e;cases e
    |true=>
     rw[hk]at e;simp only[cond_true]at e ⊢;split at e
     ·rename_i hr;rw[Hu hx hr];exact e
     ·rename_i hr;rw[Hu hx hr];exact e
     ·cases e
 all_goals first|exact e
section
variable{P:Program}{ρ:Nat→Int}{μ:Mu}{G:Key→Option ah}{H:T ah}{nx:Key}{nt:Nat}
theorem zP.ext{ops:Array Oper}{pl:List aC}{bf:List Nat}{g:Gh}{av:List (Nat×Key×ah)}{EZ:Nat→Prop}{i:Nat}(h:zP o ops pl bf H g av EZ i):zP o' ops pl bf H g av EZ i:=by
 cases h with
 |skip po mQ h1 h2 h3 h4 h5=>exact .skip po mQ h1 h2 h3 h4 h5
 |light po mQ v h1 h2 h3 hk h4 h5 h6=>exact .light po mQ v h1 h2 h3 hk (fun hu=>by obtain⟨V,e,hv⟩:=h4 hu;exact⟨V,aaY hx e,hv⟩) h5 h6
 |alloc po mQ f B k h1 h2 h3 hk h4 h5 h6=>exact .alloc po mQ f B k h1 h2 h3 hk h4 h5 h6
theorem gW.ext{ops:Array Oper}{pl:List aC}{bf:List Nat}{g:Gh}{EZ:Nat→Prop}{av:List (Nat×Key×ah)}{tm:T AV}{tmps:Array Value}{rest:List Nat}(h:gW P ρ o nt ops pl bf μ G H nx g EZ av tm tmps rest):gW P ρ o' nt ops pl bf μ G H nx g EZ av tm tmps rest:=
 ⟨h.UH,h.ord,h.cl,h.sub,h.KV,h.lcl,h.a1,h.a2,h.sz,h.c1,h.c2,fun i a b=>(h.pd i a b).ext hx,h.pe,h.nk,h.ni⟩
theorem LP.ext{k:List de}{tm:T AV}{K:List Item}{tmps:Array Value}(h:LP P ρ o μ G H nx nt k tm K tmps):LP P ρ o' μ G H nx nt k tm K tmps:=by
 cases h with
 |ops o l ops i rest k K tm tmps hp h ht=>exact .ops o l ops i rest k K tm tmps hp h ht
 |staged ops pl bf g i po ad os xy items jm av k K tm tmps rest xz hf hc hL We hd h NH Kv S=>exact .staged ops pl bf g i po ad os xy items jm av k K tm tmps rest xz hf hc hL We hd h NH Kv (S.ext hx)
 |rf key l k K tm tmps hk h ht=>exact .rf key l k K tm tmps hk h ht
theorem Cur.aHM{af:mB}{fr:Frame}(h:Cur P ρ o μ G H nx af fr)(hm:af.mode≠.run):Cur P ρ o' μ G H nx af fr:=by
 cases h with
 |run nt hb h1=>exact absurd h1 hm
 |ret nt hb h1 h2 h3 h=>exact .ret nt hb h1 h2 h3 h
 |pan nt hb v u r h1 h2 hv h3 h=>exact .pan nt hb v u r h1 h2 hv h3 h
theorem Sus.ext{af:mB}{fr:Frame}(h:Sus P ρ o μ G H nx af fr):Sus P ρ o' μ G H nx af fr:=by
 cases h with
 |wait nt hb h1 h2 h=>exact .wait nt hb h1 h2 (h.ext hx)
 |unw h hm=>exact .unw (h.aHM hx hm) hm
theorem dR.ext:∀{l:List mB} {fs:List Frame},dR P ρ o μ G H nx l fs→dR P ρ o' μ G H nx l fs
 | [],[],_=>trivial
 |_ ::_,_ ::_,h=>⟨h.1.ext hx,dR.ext h.2⟩
 | [],_ ::_,h=>h.elim
 |_ ::_,[],h=>h.elim
def aeB:List de→Bool
 |.staged _ _ _ ::_=>false
 |_=>true
theorem Cur.ext{af:mB}{fr:Frame}(h:Cur P ρ o μ G H nx af fr)(hp:aeB af.todo=true):Cur P ρ o' μ G H nx af fr:=by
 cases h with
 |run nt hb h1 h2 h=>
  refine .run nt hb h1 h2 ?_;generalize hA:af.todo=A at h hp;generalize hK:fr.todo=K at h;generalize hT:fr.tmps=TT at h;generalize hM:af.tm=TM at h;cases h with
  |plain _ _ _ _ h ht=>exact .plain _ _ _ _ h ht
  |ready=>cases hp
  |back=>cases hp
 |ret nt hb h1 h2 h3 h=>exact .ret nt hb h1 h2 h3 h
 |pan nt hb v u r h1 h2 hv h3 h=>exact .pan nt hb v u r h1 h2 hv h3 h
end
theorem BN.ext{P:Program}{ρ:Nat→Int}{w0:W0}{μ0:Mu}{am:AM}{fr:Frame}{cs:List Frame}{w:World}(h:BN P ρ o w0 μ0 am fr cs w)(hp:aeB am.fr.todo=true):BN P ρ o' w0 μ0 am fr cs w:=by obtain⟨μ,G,h1,h2,h3,h4,h5,h6⟩:=h.ex;exact⟨μ,G,h1,h2,h3,h4.ext hx hp,h5.ext hx,h6⟩
end
structure M3 where
 l:Bool
 e:Bool
 g:Bool
def UT:BinOp→M3
 |.eql=>⟨false,true,false⟩|.neq=>⟨true,false,true⟩|.lss=>⟨true,false,false⟩|.leq=>⟨true,true,false⟩|.gtr=>⟨false,false,true⟩|.geq=>⟨false,true,true⟩|_=>⟨true,true,true⟩
def M3.flip(m:M3):M3:=⟨m.g,m.e,m.l⟩
def M3.and(m n:M3):M3:=⟨m.l&&n.l,m.e&&n.e,m.g&&n.g⟩
def M3.not(m:M3):M3:=⟨!m.l,!m.e,!m.g⟩
def M3.no(m:M3):Bool:=!m.l && !m.e && !m.g
def M3.all:M3:=⟨true,true,true⟩
structure HO(m:M3)(a b:Int):Prop where
 lt:a<b→m.l=true
 eq:a=b→m.e=true
 gt:b<a→m.g=true
theorem HO.aeN(a b:Int):HO M3.all a b:=⟨fun _=>rfl,fun _=>rfl,fun _=>rfl⟩
theorem HO.BQ{m n:M3}{a b:Int}(h:HO m a b)(k:HO n a b):HO (m.and n) a b:=
 ⟨fun e=>by simp[M3.and,h.lt e,k.lt e],fun e=>by simp[M3.and,h.eq e,k.eq e],fun e=>by simp[M3.and,h.gt e,k.gt e]⟩
theorem HO.asc{m:M3}{a b:Int}(h:HO m a b):HO m.flip b a:=⟨h.gt,fun e=>h.eq e.symm,h.lt⟩
theorem M3.O2{m:M3}{a b:Int}(h:HO m a b)(hn:m.no=true):False:=by
 unfold M3.no at hn;simp only[jq,Bool.not_eq_true']at hn;rcases Int.lt_trichotomy a b with e|e|e
 ·rw[h.lt e]at hn;cases hn.1.1
 ·rw[h.eq e]at hn;cases hn.1.2
 ·rw[h.gt e]at hn;cases hn.2
theorem XB{op:BinOp}{a b:Int}{r:Bool}(h:fS op a b=some r):HO (bif r then UT op else(UT op).not) a b:=by
 cases op<;>simp only[fS,dP]at h<;>first|(cases h;done)|skip
 all_goals subst h
 all_goals
  refine⟨fun h=>?_,fun h=>?_,fun h=>?_⟩
  all_goals simp[UT,M3.not,bne,cond]
  all_goals split<;>simp_all<;>omega
def axG(c' c:Int)(m:M3):M3:=bif eqI c' c then m else bif Wm c' c then⟨true,m.g,m.g⟩else⟨m.l,m.l,true⟩
theorem asd{a c' c:Int}{m:M3}(h:HO m a c'):HO (axG c' c m) a c:=by
 unfold axG;rw[eqI_eq,Oz];by_cases e:c'=c
 ·subst e;simpa using h
 ·by_cases l:c'<c
  ·simp only[beq_eq_false_iff_ne.2 e,decide_eq_true l,cond_true,cond_false];exact⟨fun _=>rfl,fun q=>h.gt (by omega),fun q=>h.gt (by omega)⟩
  ·simp only[beq_eq_false_iff_ne.2 e,decide_eq_false l,cond_false];exact⟨fun q=>h.lt (by omega),fun q=>h.lt (by omega),fun _=>rfl⟩
def ase(x y:SI)(m:M3)(a b:SI):M3:=bif SI.beq x a then(bif SI.beq y b then m else match y,b with
 |.lit c',.lit c=>axG c' c m
 |_,_=>.all)else .all
abbrev GN:=List (SI×SI×M3)
def Ja:GN→SI→SI→M3
 | [],_,_=>.all
 |(x,y,m) ::r,a,b=>(ase x y m a b).and ((ase y x m.flip a b).and (Ja r a b))
def Ii(ρ:Nat→Int):GN→Prop
 | []=>True
 |(x,y,m) ::r=>HO m (x.den ρ) (y.den ρ)∧Ii ρ r
theorem aic{ρ:Nat→Int}{x y:SI}{m:M3}(h:HO m (x.den ρ) (y.den ρ))(a b:SI):HO (ase x y m a b) (a.den ρ) (b.den ρ):=by
 unfold ase;cases h1:SI.beq x a with
 |false=>exact .aeN _ _
 |true=>
  have h1:=SI.eq_of_beq h1;subst h1;simp only[cond_true];cases h2:SI.beq y b with
  |true=>have h2:=SI.eq_of_beq h2;subst h2;exact h
  |false=>
   simp only[cond_false];split
   ·exact asd h
   ·exact .aeN _ _
theorem qH{ρ:Nat→Int}:∀{F:GN},Ii ρ F→∀a b:SI,HO (Ja F a b) (a.den ρ) (b.den ρ)
 | [],_,_,_=>.aeN _ _
 |(x,y,m) ::r,h,a,b=>(aic h.1 a b).BQ ((aic h.1.asc a b).BQ (qH h.2 a b))
def WX(u:AV):DT→GN→Bool
 |.leaf v,_=>AV.beq u v
 |.ask op a b t e,F=>isCmp op&&((((Ja F a b).and (UT op)).no||WX u t ((a,b,UT op) ::F))&&(((Ja F a b).and (UT op).not).no||WX u e ((a,b,(UT op).not) ::F)))
def DT.same:DT→DT→GN→Bool
 |.leaf u,d,F=>WX u d F
 |.ask op a b t e,d,F=>isCmp op&&((((Ja F a b).and (UT op)).no||DT.same t d ((a,b,UT op) ::F))&&(((Ja F a b).and (UT op).not).no||DT.same e d ((a,b,(UT op).not) ::F)))
theorem LY{op:BinOp}(h:isCmp op=true)(a b:Int):∃r,fS op a b=some r:=by cases op<;>first|exact⟨_,rfl⟩|cases h
theorem TK{ρ:Nat→Int}{u:AV}:∀{d:DT} {F:GN},WX u d F=true→Ii ρ F→u.sub ρ=d.val ρ
 |.leaf v,F,h,_=>by unfold WX at h;rw[AV.eq_of_beq _ _ h];rfl
 |.ask op a b t e,F,h,hF=>by
  unfold WX at h;simp only[jq,Bool.or_eq_true]at h;obtain⟨h0,h1,h2⟩:=h;obtain⟨r,hr⟩:=LY h0 (a.den ρ) (b.den ρ);have hm:=XB hr;unfold DT.val;have hh:holds ρ op a b=r:=by unfold holds;rw[hr]
  rw[hh];cases r with
  |true=>
   rcases h1 with h1|h1
   ·exact(M3.O2 ((qH hF a b).BQ hm) h1).elim
   ·exact TK h1 ⟨hm,hF⟩
  |false=>
   rcases h2 with h2|h2
   ·exact(M3.O2 ((qH hF a b).BQ hm) h2).elim
   ·exact TK h2 ⟨hm,hF⟩
theorem DT.uX{ρ:Nat→Int}:∀{d d2:DT} {F:GN},DT.same d d2 F=true→Ii ρ F→d.val ρ=d2.val ρ
 |.leaf u,d2,F,h,hF=>by unfold DT.same at h;exact TK h hF
 |.ask op a b t e,d2,F,h,hF=>by
  unfold DT.same at h;simp only[jq,Bool.or_eq_true]at h;obtain⟨h0,h1,h2⟩:=h;obtain⟨r,hr⟩:=LY h0 (a.den ρ) (b.den ρ);have hm:=XB hr;have hh:holds ρ op a b=r:=by unfold holds;rw[hr]
  have hv:(DT.ask op a b t e).val ρ=bif r then t.val ρ else e.val ρ:=by
   conv=>lhs;unfold DT.val
   rw[hh];cases r<;>rfl
  rw[hv];cases r with
  |true=>
   rcases h1 with h1|h1
   ·exact(M3.O2 ((qH hF a b).BQ hm) h1).elim
   ·exact DT.uX h1 ⟨hm,hF⟩
  |false=>
   rcases h2 with h2|h2
   ·exact(M3.O2 ((qH hF a b).BQ hm) h2).elim
   ·exact DT.uX h2 ⟨hm,hF⟩
inductive aL where
 |leaf (n:Nat) (v:AV)
 |ask (n:Nat) (op:BinOp) (a b:SI) (t e:aL)
def aL.dt:aL→DT
 |.leaf _ v=>.leaf v
 |.ask _ op a b t e=>.ask op a b t.dt e.dt
noncomputable def aL.cu(C:iV→bP)(f:Nat):aL→AM→GN→iV→Bool
 |.leaf n v,m,_,o=>(match vp (C o) n m with
  |.done g u _ _=>Nat.beq g f&&AV.beq u v&&u.kf
  |_=>false)
 |.ask n op a b t e,m,F,o=>(match vp (C o) n m with
  |.next m'=>aeB m'.fr.todo&&isCmp op&&((((Ja F a b).and (UT op)).no||aL.cu C f t m' ((a,b,UT op) ::F) ((op,a,b,true) ::o))&&(((Ja F a b).and (UT op).not).no||aL.cu C f e m' ((a,b,(UT op).not) ::F) ((op,a,b,false) ::o)))
  |_=>false)
section
variable{P:Program}{ρ ρ':Nat→Int}{heap0:T ah}{w0:W0}{μ0:Mu}{rest:List Frame}
theorem aL.sound{C:iV→bP}(hC:∀o,(C o).orc=o)(hX:∀o,fk ρ o→Ctx P ρ w0 (C o)){f:Nat}:∀(d:aL) (m:AM) (F:GN) (o:iV),Ii ρ F→fk ρ o→aL.cu C f d m F o=true→
  ∀{fr:Frame} {cs:List Frame} {w:World},BN P ρ o w0 μ0 m fr cs w→
  ∃v fR w' μ G u H nx,v.kf=true∧d.dt.val ρ=v.sub ρ∧Steps P (lone fr (cs++rest) w) (lone fR rest w')∧fR.fn=f∧fR.leaving P w' (.returned u)∧aX ρ μ v u∧μ0.le μ∧bB P ρ w0 μ G (Key.toNat nx) w'∧HSub H G
 |.leaf n v,m,F,o,_,ho,hc,fr,cs,w,hm=>by
  unfold aL.cu at hc;have hm:BN P ρ (C o).orc w0 μ0 m fr cs w:=by rw[hC];exact hm
  have hg:=zO (rest:=rest) (hX o ho) n hm;split at hc
  ·rename_i g u H' nx' hr;simp only[jq]at hc;have h1:=o5 hc.1.1;have h2:=AV.eq_of_beq _ _ hc.1.2;subst h1 h2;rw[hr]at hg;obtain⟨fR,w',μ,G,uu,s⟩:=hg;exact⟨_,fR,w',μ,G,uu,_,_,hc.2,rfl,s⟩
  ·cases hc
 |.ask n op a b t e,m,F,o,hF,ho,hc,fr,cs,w,hm=>by
  unfold aL.cu at hc;have hm:BN P ρ (C o).orc w0 μ0 m fr cs w:=by rw[hC];exact hm
  have hg:=zO (rest:=rest) (hX o ho) n hm;split at hc
  ·rename_i m' hr;rw[hr]at hg;obtain⟨fr1,cs1,w1,s1,hm1⟩:=hg;rw[hC]at hm1;simp only[jq,Bool.or_eq_true]at hc;obtain⟨⟨hp,h0⟩,h1,h2⟩:=hc;obtain⟨r,N9⟩:=LY h0 (a.den ρ) (b.den ρ);have hmm:=XB N9;have hh:holds ρ op a b=r:=by unfold holds;rw[N9]
   have hv:(aL.ask n op a b t e).dt.val ρ=bif r then t.dt.val ρ else e.dt.val ρ:=by
    conv=>lhs;unfold aL.dt DT.val
    rw[hh];cases r<;>rfl
   have ZT:=ho.cons N9;have MI:=hm1.ext (ho.ext ZT) hp;have fin:∀d2:aL,(aL.ask n op a b t e).dt.val ρ=d2.dt.val ρ→(∃v fR w' μ G u H nx,v.kf=true∧d2.dt.val ρ=v.sub ρ∧Steps P (lone fr1 (cs1++rest) w1) (lone fR rest w')∧fR.fn=f∧fR.leaving P w' (.returned u)∧aX ρ μ v u∧μ0.le μ∧bB P ρ w0 μ G (Key.toNat nx) w'∧HSub H G)→
     ∃v fR w' μ G u H nx,v.kf=true∧(aL.ask n op a b t e).dt.val ρ=v.sub ρ∧Steps P (lone fr (cs++rest) w) (lone fR rest w')∧fR.fn=f∧fR.leaving P w' (.returned u)∧aX ρ μ v u∧μ0.le μ∧bB P ρ w0 μ G (Key.toNat nx) w'∧HSub H G:=by
    rintro d2 e2 ⟨v,fR,w',μ,G,u,H,nx,q1,q2,q3,q4⟩;exact⟨v,fR,w',μ,G,u,H,nx,q1,e2.trans q2,s1.trans q3,q4⟩
   cases r with
   |true=>
    rcases h1 with h1|h1
    ·exact(M3.O2 ((qH hF a b).BQ hmm) h1).elim
    ·exact fin t hv (aL.sound hC hX t m' ((a,b,UT op) ::F) _ ⟨hmm,hF⟩ ZT h1 MI)
   |false=>
    rcases h2 with h2|h2
    ·exact(M3.O2 ((qH hF a b).BQ hmm) h2).elim
    ·exact fin e hv (aL.sound hC hX e m' ((a,b,(UT op).not) ::F) _ ⟨hmm,hF⟩ ZT h2 MI)
  ·cases hc
theorem aqh{C:iV→bP}(hC:∀o,(C o).orc=o)(hX:∀o,fk ρ' o→∀w0:W0,ji P heap0 w0→Ctx P ρ' w0 (C o)){f:Nat}{p:fq}(hp:I3 P f=some p){l:List AV}(hl:AV.Ey l=true){nx0:Key}(hn:P.globals.size≤nx0.toNat)
  (d:aL) (hc:aL.cu C f d ⟨ai f p l,[],heap0,nx0⟩ [] []=true):∀w0:W0,ji P heap0 w0→∀H nx,LV P ρ w0 f (AV.gX ρ' l) H nx (d.dt.val ρ') H nx:=by
 intro w0 hL H nx args w μ G hM hH dI;have hL1:ji P heap0 ⟨w,μ.fz⟩:=hL.ang hM.below hM.zle;have hM1:=It (ρ:=ρ') (w0:=⟨w,μ.fz⟩) hL1 hM.Xw (nx:=nx0.toNat) hn;have ha1:aB ρ' (gMu P heap0 μ.fz) l args.toList:=aB.kf (μ:=μ) (μ':=gMu P heap0 μ.fz) (fun _ _ _ h=>h) (aB.Fi l dI) hl;have aB9:Calls P f args w fun e w'=>∃v u μ1 G nx',v.kf=true∧d.dt.val ρ'=v.sub ρ'∧e=.returned u∧aX ρ' μ1 v u∧(gMu P heap0 μ.fz).le μ1∧bB P ρ' ⟨w,μ.fz⟩ μ1 G (Key.toNat nx') w':=by
  intro cs;have hm:BN P ρ' [] ⟨w,μ.fz⟩ (gMu P heap0 μ.fz) ⟨ai f p l,[],heap0,nx0⟩ (Frame.enter P f args .normal) [] w:=
   ⟨_,_,Mu.le_refl _,hM1,fun _ _ h=>h,yH hp ha1 false,trivial,by simp[bL,pk,ai]⟩
  obtain⟨v,fR,w',μ1,G1,u,H2,bu,q1,q2,s1,s2,s3,s4,s5,s6,s7⟩:=aL.sound (rest:=cs) hC (fun o ho=>hX o ho _ hL1) d _ [] [] trivial (fk.nil ρ') hc hm;exact⟨.returned u,w',fR,⟨v,u,μ1,G1,bu,q1,q2,rfl,s4,s5,s6⟩,s1,s2,s3⟩
 refine aB9.mono ?_;rintro e w' ⟨v,u,μ1,G1,bu,hv,Ol,rfl,hvr,hle,hM2⟩;have hb:Below w.heap.size w w':=hM2.below;have Yl:∀c i x,μ1.fz c i=some x→w.heap.size≤c∨μ.fz c i=some x:=hM2.fzo;have PC:μ.le ⟨μ.loc,μ1.fz⟩:=⟨fun _ _ h=>h,fun c i x h=>hle.f c i x h⟩;rw[Ol];refine⟨u,⟨μ.loc,μ1.fz⟩,G,rfl,aX.sub (aX.kf (μ:=μ1) (μ':=⟨μ.loc,μ1.fz⟩) (fun _ _ _ h=>h) hvr hv),PC,?_,hH,⟨fun _ _ _=>rfl,fun _ _=>rfl,fun _ h _=>h,fE _⟩⟩;have abm:∀b l,μ b=some l→w'.heap[l.c]?=w.heap[l.c]?:=fun b l h=>hb.block _ (hM.AX b l h);refine⟨?_,hM.sep,?_,hM.own,hM.Qq,hM.new,hM.below.trans (hb.mono hM.below.size),hM2.Xw,?_,?_,?_,?_,Nat.le_trans hM.dr hM2.dr⟩
 ·intro b B hg;obtain⟨l,o,h1,h2,h3⟩:=hM.BO b B hg;exact⟨l,o,h1,by rw[abm b l h1];exact h2,h3.mono PC⟩
 ·intro b l h;exact O5 (hM.AX b l h) hb.size
 ·intro b B l n hg hm lV i hi;show μ1.fz l.c i=none;cases h:μ1.fz l.c i with
  |none=>rfl
  |some x=>
   rcases Yl _ _ _ h with h'|h'
   ·exact absurd (hM.AX b l hm) (Nat.not_lt.2 h')
   ·rw[hM.fzf b B l n hg hm lV i hi]at h';cases h'
 ·intro c i x h;exact hle.f c i x (hM.zle c i x h)
 ·intro c i x h;rcases Yl c i x h with h'|h'
  ·exact .inl (Nat.le_trans hM.below.size h')
  ·exact hM.fzo c i x h'
 ·intro b L l hg hm;rcases hM.rof b L l hg hm with h|h
  ·exact .inl h
  ·refine .inr fun arr e f i x ha hx=>hle.f _ _ _ (h arr e f i x ?_ hx);rw[←abm b l hm];exact ha
end
structure Im where
 f:Nat
 Q:Type
 args:Q→List AV
 res:Q→AV
 inj:∀q q',args q=args q'→res q=res q'
section
variable{P:Program}{heap0:T ah}
structure js(P:Program)(heap0:T ah)(F:Im):Prop where
 has:∃p,I3 P F.f=some p
 Oh:∀q,Ent P heap0 F.f (F.args q) (F.res q)
open Classical in
noncomputable def Ej:List Im→Nat→List AV→T ah→Key→Option (AV×T ah×Key)
 | [],_,_,_,_=>none
 |F ::r,f,l,h,nx=>if H:F.f=f∧∃q,F.args q=l then some (F.res H.2.choose,h,nx)else Ej r f l h nx
theorem OA:∀{Fs:List Im},(∀F∈Fs,js P heap0 F)→∀{f:Nat} {l:List AV} {h:T ah} {nx:Key} {r:AV×T ah×Key},Ej Fs f l h nx=some r→(∃p,I3 P f=some p)∧∃v,Ent P heap0 f l v∧r=(v,h,nx)
 | [],_,_,_,_,_,_,e=>by cases e
 |F ::Fs,ho,f,l,h,nx,r,e=>by
  unfold Ej at e;by_cases H:F.f=f∧∃q,F.args q=l
  ·rw[dif_pos H]at e;obtain⟨rfl,hq⟩:=H;refine⟨(ho F (by simp)).has,_,?_,(Option.some.inj e).symm⟩;have:=(ho F (by simp)).Oh hq.choose;rw[hq.choose_spec]at this;exact this
  ·rw[dif_neg H]at e;exact OA (fun G hG=>ho G (by simp[hG])) e
theorem PF:∀{Fs:List Im} {f:Nat} (_:∀F∈Fs,F.f≠f) (l:List AV) (h:T ah) (nx:Key),Ej Fs f l h nx=none
 | [],_,_,_,_,_=>rfl
 |F ::Fs,f,hf,l,h,nx=>by unfold Ej;rw[dif_neg (fun H=>hf F (by simp) H.1)];exact PF (fun G hG=>hf G (by simp[hG])) l h nx
theorem bK:∀{Fs:List Im} {F:Im} (_:F∈Fs) (_:Fs.Pairwise fun a b=>a.f≠b.f) (q:F.Q) (h:T ah) (nx:Key),Ej Fs F.f (F.args q) h nx=some (F.res q,h,nx)
 |G ::Fs,F,hm,hp,q,h,nx=>by
  rw[List.pairwise_cons]at hp;rcases GP.1 hm with rfl|hm
  ·unfold Ej;have H:F.f=F.f∧∃q',F.args q'=F.args q:=⟨rfl,q,rfl⟩;rw[dif_pos H,F.inj _ _ H.2.choose_spec]
  ·unfold Ej;rw[dif_neg (fun H=>hp.1 F hm H.1)];exact bK hm hp.2 q h nx
noncomputable def an8(fns:T fq)(raw ma:Nat→Bool)(Fs:List Im):bP:=⟨[],fns,Ej Fs,raw,ma⟩
theorem axH{ρ:Nat→Int}{fns:T fq}{abo:List (Nat×fq)}(hb:fns=HG abo)(ha:MV P abo)(axr:P.follows .mixedOrders=true){Fs:List Im}(ht:∀F∈Fs,js P heap0 F)(raw ma:Nat→Bool)(w0:W0)(hL:ji P heap0 w0):Ctx P ρ w0 (an8 fns raw ma Fs):=by
 refine⟨?_,?_,fk.nil ρ,fun f p h=>abp hb ha (tab:=[]) h,axr⟩
 ·intro f l H nx a H' nx' hs;obtain⟨_,v,h1,h2⟩:=OA ht hs;cases h2;exact h1 ρ w0 hL H nx
 ·intro f l H nx r hs;obtain⟨⟨p,hp⟩,_⟩:=OA ht hs;obtain⟨fn,c,f1,f2,f3,_⟩:=vo hp;exact⟨fn,f1,by rw[f2];rfl,f3⟩
end
end Go.Sx
namespace Ln
structure U where
 k:Int
 n:Int
deriving DecidableEq,Inhabited
structure Ev where
 kind:Int
 client:Int
 name:Nat×Nat
 args:List U
 res:U
deriving DecidableEq,Inhabited
structure Op where
 client:Int
 b:Nat
 e:Int
 lost:Int
 name:Nat×Nat
 args:List U
 res:U
deriving DecidableEq,Inhabited
def sH(u:U):Bool:=decide (u.k=0∨u.k=1∧(u.n=0∨u.n=1)∨u.k=2∧u.n=0)
def zU(u:U):Bool:=decide (u.k=0∧u.n=0)
def zk(x:Ev):Bool:=decide (0≤x.kind∧x.kind≤2∧0≤x.client∧x.client≤3∧
 ((x.kind=0∧zU x.res=true∧x.name≠(0,0)∧x.name.1≤16∧x.args.length≤16∧x.args.all sH=true)∨
  (x.kind=1∧x.name=(0,0)∧x.args=[]∧sH x.res=true)∨
  (x.kind=2∧x.client=0∧x.name=(0,0)∧x.args=[]∧zU x.res=true)))
def CW(i:Nat)(x:Ev):Op:=⟨x.client,i,-1,-1,x.name,x.args,⟨0,0⟩⟩
def kn(i:Nat)(x:Ev)(o:Op):Op:=
 if o.e<0∧o.lost<0 then(if x.kind=2 then {o with lost:=i}else if x.kind=1∧x.client=o.client then {o with e:=i,res:=x.res}else o)else o
def follow(o:Op):Nat→List Ev→Op
 |_,[]=>o
 |i,x ::l=>follow (kn i x o) (i+1) l
def aR:Nat→List Ev→List Op
 |_,[]=>[]
 |i,x ::l=>(if x.kind=0 then [follow (CW i x) (i+1) l]else [])++aR (i+1) l
def kC(c:Int):List Ev→Int
 | []=>-1
 |x ::r=>if x.kind=2∨x.kind=1∧x.client=c then -1 else if x.kind=0∧x.client=c then r.length else kC c r
def BS(p:List Ev)(x:Ev):Nat:=if zk x=false then 1 else if x.kind=0∧0≤kC x.client p then 2 else if x.kind=1∧kC x.client p<0 then 3 else 0
def cM:List Ev→List Ev→Nat
 |_,[]=>0
 |p,x ::l=>match BS p x with
  |0=>cM (x ::p) l
  |n=>n
structure Sc where
 ops:List Op
 o0:Int
 o1:Int
 o2:Int
 o3:Int
def Sc.op(s:Sc)(c:Int):Int:=if c=0 then s.o0 else if c=1 then s.o1 else if c=2 then s.o2 else s.o3
def Sc.set(s:Sc)(c:Int)(v:Int):Sc:=if c=0 then {s with o0:=v}else if c=1 then {s with o1:=v}else if c=2 then {s with o2:=v}else {s with o3:=v}
def nQ(i:Nat)(v:Int)(l:List Op):List Op:=if 0≤v then l.modify v.toNat fun o=>{o with lost:=i}else l
def vY(s:Sc)(x:Ev):Nat:=if zk x=false then 1 else if x.kind=0∧0≤s.op x.client then 2 else if x.kind=1∧s.op x.client<0 then 3 else 0
def kz(i:Nat)(s:Sc)(x:Ev):Sc:=
 if x.kind=0 then {s.set x.client s.ops.length with ops:=s.ops ++ [CW i x]}
 else if x.kind=1 then {s.set x.client (-1)with ops:=s.ops.modify (s.op x.client).toNat fun o=>{o with e:=i,res:=x.res}}
 else⟨nQ i s.o3 (nQ i s.o2 (nQ i s.o1 (nQ i s.o0 s.ops))),-1,-1,-1,-1⟩
def scan:Nat→Sc→List Ev→Nat×List Op
 |_,s,[]=>(0,s.ops)
 |i,s,x ::l=>match vY s x with
  |0=>scan (i+1) (kz i s x) l
  |n=>(n,[])
theorem PJ(y:Ev):∀(l:List Ev) (o:Op) (i:Nat),follow o i (l ++ [y])=kn (i+l.length) y (follow o i l)
 | [],o,i=>rfl
 |x ::l,o,i=>by simp only[List.cons_append,follow,PJ y l,List.length_cons];rw[show i+1+l.length=i+(l.length+1) by omega]
theorem CM(y:Ev):∀(l:List Ev) (i:Nat),aR i (l ++ [y])=(aR i l).map (kn (i+l.length) y)++(if y.kind=0 then [CW (i+l.length) y]else [])
 | [],i=>by simp[aR,follow]
 |x ::l,i=>by simp only[List.cons_append,aR,CM y l,List.length_cons,PJ];rw[show i+1+l.length=i+(l.length+1) by omega];split<;>simp
structure Kp(p:List Ev)(s:Sc):Prop where
 ops:s.ops=aR 0 p.reverse
 sign:∀c,0≤c→c≤3→(0≤s.op c↔0≤kC c p)
 neg:∀c,s.op c<0→s.op c=-1
 here:∀c,0≤c→c≤3→0≤s.op c→∃o,s.ops[(s.op c).toNat]?=some o∧o.client=c∧o.e<0∧o.lost<0
 only:∀(j:Nat) (o:Op),s.ops[j]?=some o→0≤o.client∧o.client≤3∧(o.e<0→o.lost<0→s.op o.client=j)
theorem aop(s:Sc){c d:Int}(v:Int)(h:0≤c∧c≤3)(k:0≤d∧d≤3):(s.set c v).op d=if d=c then v else s.op d:=by
 unfold Sc.set Sc.op;have hc:c=0∨c=1∨c=2∨c=3:=by omega
 have hd:d=0∨d=1∨d=2∨d=3:=by omega
 rcases hc with rfl|rfl|rfl|rfl<;>rcases hd with rfl|rfl|rfl|rfl<;>simp
theorem aih{c:Int}{x:Ev}{p:List Ev}(e:x.kind=0):kC c (x ::p)=if c=x.client then(p.length:Int)else kC c p:=by
 show(if x.kind=2∨x.kind=1∧x.client=c then(-1:Int)else if x.kind=0∧x.client=c then(p.length:Int)else kC c p)=_;rw[if_neg (by omega)];by_cases h:c=x.client
 ·rw[if_pos h,if_pos ⟨e,h.symm⟩]
 ·rw[if_neg h,if_neg (fun q=>h q.2.symm)]
theorem aii{c:Int}{x:Ev}{p:List Ev}(e:x.kind=1):kC c (x ::p)=if c=x.client then -1 else kC c p:=by
 show(if x.kind=2∨x.kind=1∧x.client=c then(-1:Int)else if x.kind=0∧x.client=c then(p.length:Int)else kC c p)=_;by_cases h:c=x.client
 ·rw[if_pos h,if_pos (.inr ⟨e,h.symm⟩)]
 ·rw[if_neg h,if_neg (by rintro(q|q)<;>omega),if_neg (by omega)]
theorem aij{c:Int}{x:Ev}{p:List Ev}(e:x.kind=2):kC c (x ::p)=-1:=by show(if x.kind=2∨x.kind=1∧x.client=c then(-1:Int)else if x.kind=0∧x.client=c then(p.length:Int)else kC c p)=_;rw[if_pos (.inl e)]
theorem axM(s:Sc)(l:List Op)(c:Int):({s with ops:=l}:Sc).op c=s.op c:=rfl
theorem W9{i:Nat}{x:Ev}{o:Op}(h:x.kind=0):kn i x o=o:=by unfold kn;split<;>simp[h]
theorem aoq{i:Nat}{x:Ev}{o:Op}(h:¬(o.e<0∧o.lost<0)):kn i x o=o:=by unfold kn;rw[if_neg h]
theorem gm{α:Type}(l:List α)(i j:Nat)(f:α→α):(l.modify i f)[j]?=(l[j]?).map fun a=>if i=j then f a else a:=by rw[List.getElem?_modify];rfl
theorem aik{p:List Ev}{s:Sc}{x:Ev}(h:Kp p s)(hx:zk x=true)(hb:vY s x=0):Kp (x ::p) (kz p.length s x):=by
 have ZB:=hx;unfold zk at ZB;rw[decide_eq_true_eq]at ZB;obtain⟨k0,k2,c0,c3,hk⟩:=ZB;have axN:aR 0 (x ::p).reverse=(aR 0 p.reverse).map (kn p.length x)++(if x.kind=0 then [CW p.length x]else []):=by rw[List.reverse_cons,CM];simp
 have Fk:x.kind=0∨x.kind=1∨x.kind=2:=by omega
 rcases Fk with e|e|e
 ·have cQ:s.op x.client<0:=by unfold vY at hb;rw[hx]at hb;simp[e]at hb;exact hb
  have hn:kz p.length s x={s.set x.client s.ops.length with ops:=s.ops ++ [CW p.length x]}:=by unfold kz;rw[if_pos e]
  have lf:∀c,0≤c→c≤3→(kz p.length s x).op c=if c=x.client then(s.ops.length:Int)else s.op c:=fun c a b=>by rw[hn];exact aop s _ ⟨c0,c3⟩ ⟨a,b⟩
  refine⟨?_,?_,?_,?_,?_⟩
  ·rw[axN,hn,h.ops];simp only[if_pos e];congr 1;symm;exact(List.map_congr_left fun o _=>W9 e).trans (List.map_id _)
  ·intro c a b;rw[lf c a b,aih e];by_cases hc:c=x.client
   ·rw[if_pos hc,if_pos hc];omega
   ·rw[if_neg hc,if_neg hc];exact h.sign c a b
  ·intro c hc;rw[hn]at hc ⊢;show({s.set x.client s.ops.length with ops:=_}:Sc).op c=-1;rw[axM];have hc:(s.set x.client s.ops.length).op c<0:=hc;have hd:(s.set x.client s.ops.length).op c=s.op c∨(s.set x.client s.ops.length).op c=s.ops.length:=by
    unfold Sc.set Sc.op
    repeat' split
    all_goals first|exact .inl rfl|exact .inr rfl
   rcases hd with hd|hd
   ·rw[hd]at hc ⊢;exact h.neg c hc
   ·rw[hd]at hc;omega
  ·intro c a b;rw[lf c a b,hn];show 0≤_→∃o,(s.ops ++ [CW p.length x])[_]?=some o∧_;by_cases hc:c=x.client
   ·subst hc;rw[if_pos rfl];intro _;exact⟨CW p.length x,by simp,rfl,by simp[CW],by simp[CW]⟩
   ·rw[if_neg hc];intro h0;obtain⟨o,h1,h2⟩:=h.here c a b h0;have hl:(s.op c).toNat<s.ops.length:=by have:=(List.getElem?_eq_some_iff.1 h1).1;exact this
    exact⟨o,by rw[List.getElem?_append_left hl];exact h1,h2⟩
  ·intro j o;rw[hn];show(s.ops ++ [CW p.length x])[j]?=some o→_;intro ho;rcases Nat.lt_or_ge j s.ops.length with hj|hj
   ·rw[List.getElem?_append_left hj]at ho;obtain⟨a,b,q⟩:=h.only j o ho;refine⟨a,b,fun e1 e2=>?_⟩;have:=q e1 e2;rw[←hn,lf _ a b];by_cases hc:o.client=x.client
    ·rw[hc]at this;omega
    ·rw[if_neg hc];exact this
   ·rw[List.getElem?_append_right hj]at ho;have hj0:j-s.ops.length=0:=by
     rcases Nat.eq_zero_or_pos (j-s.ops.length)with h|h
     ·exact h
     ·rw[List.getElem?_eq_none (by simp;omega)]at ho;cases ho
    rw[hj0]at ho;simp at ho;subst ho;refine⟨c0,c3,fun _ _=>?_⟩;rw[←hn];show(kz p.length s x).op x.client=_;rw[lf _ c0 c3,if_pos rfl];omega
 ·have P9:0≤s.op x.client:=by unfold vY at hb;rw[hx]at hb;simp[e]at hb;omega
  obtain⟨o,h1,h2,h3,h4⟩:=h.here _ c0 c3 P9;have hn:kz p.length s x={s.set x.client (-1)with ops:=s.ops.modify (s.op x.client).toNat fun o=>{o with e:=p.length,res:=x.res}}:=by unfold kz;rw[if_neg (by omega),if_pos e]
  have lf:∀c,0≤c→c≤3→(kz p.length s x).op c=if c=x.client then(-1:Int)else s.op c:=fun c a b=>by rw[hn];exact aop s _ ⟨c0,c3⟩ ⟨a,b⟩
  have Oo:s.ops.modify (s.op x.client).toNat (fun o=>{o with e:=(p.length:Int),res:=x.res})=s.ops.map (kn p.length x):=by
   apply List.ext_getElem?;intro j;rw[gm,List.getElem?_map];cases ho:s.ops[j]? with
   |none=>simp
   |some o2=>
    simp only[Option.map_some,Option.some.injEq];by_cases hj:(s.op x.client).toNat=j
    ·subst hj;rw[h1]at ho;cases ho;rw[if_pos rfl];unfold kn;rw[if_pos ⟨h3,h4⟩,if_neg (by omega),if_pos ⟨e,h2.symm⟩]
    ·rw[if_neg hj];have:kn p.length x o2=o2:=by
      unfold kn;split
      ·rename_i PK;have:=(h.only j o2 ho).2.2 PK.1 PK.2;rw[if_neg (by omega),if_neg];rintro⟨_,hc⟩;rw[←hc]at this;omega
      ·rfl
     rw[this]
  refine⟨?_,?_,?_,?_,?_⟩
  ·rw[axN,hn,←h.ops,if_neg (by omega)];simpa using Oo
  ·intro c a b;rw[lf c a b,aii e];by_cases hc:c=x.client
   ·rw[if_pos hc,if_pos hc]
   ·rw[if_neg hc,if_neg hc];exact h.sign c a b
  ·intro c hc;rw[hn]at hc ⊢;have hd:(s.set x.client (-1)).op c=s.op c∨(s.set x.client (-1)).op c=-1:=by
    unfold Sc.set Sc.op
    repeat' split
    all_goals first|exact .inl rfl|exact .inr rfl
   have hc:(s.set x.client (-1)).op c<0:=hc;show(s.set x.client (-1)).op c=-1;rcases hd with hd|hd
   ·rw[hd]at hc ⊢;exact h.neg c hc
   ·exact hd
  ·intro c a b;rw[lf c a b,hn];show 0≤_→∃o,(s.ops.modify _ _)[_]?=some o∧_;by_cases hc:c=x.client
   ·subst hc;rw[if_pos rfl];intro h;omega
   ·rw[if_neg hc];intro h0;obtain⟨o2,q1,q2,q3,q4⟩:=h.here c a b h0;have bW:(s.op x.client).toNat≠(s.op c).toNat:=by intro he;rw[he,q1]at h1;cases h1;exact hc (q2.symm.trans h2)
    exact⟨o2,by rw[gm,q1];simp[bW],q2,q3,q4⟩
  ·intro j o2;rw[hn];show(s.ops.modify _ _)[j]?=some o2→_;rw[gm];intro ho;cases hj:s.ops[j]? with
   |none=>rw[hj]at ho;cases ho
   |some o3=>
    rw[hj]at ho;simp only[Option.map_some,Option.some.injEq]at ho;obtain⟨a,b,q⟩:=h.only j o3 hj;split at ho
    ·subst ho;exact⟨a,b,fun q _=>by simp at q;omega⟩
    ·rename_i bW;subst ho;refine⟨a,b,fun e1 e2=>?_⟩;have:=q e1 e2;rw[←hn,lf _ a b];by_cases hc:o3.client=x.client
     ·rw[hc]at this;omega
     ·rw[if_neg hc];exact this
 ·have hn:kz p.length s x=⟨nQ p.length s.o3 (nQ p.length s.o2 (nQ p.length s.o1 (nQ p.length s.o0 s.ops))),-1,-1,-1,-1⟩:=by unfold kz;rw[if_neg (by omega),if_neg (by omega)]
  have lf:∀c,(kz p.length s x).op c=-1:=fun c=>by rw[hn];unfold Sc.op;simp
  have key:∀(v:Int) (l:List Op) (j:Nat),(nQ p.length v l)[j]?=(l[j]?).map fun o=>if v=j then {o with lost:=(p.length:Int)}else o:=by
   intro v l j;unfold nQ;split
   ·rename_i h0;rw[gm];cases l[j]? with
    |none=>rfl
    |some o=>
     simp only[Option.map_some];by_cases hv:v=j
     ·subst hv;simp
     ·rw[if_neg hv,if_neg (by omega)]
   ·cases l[j]? with
    |none=>rfl
    |some o=>simp only[Option.map_some];rw[if_neg (by omega)]
  have Oo:nQ p.length s.o3 (nQ p.length s.o2 (nQ p.length s.o1 (nQ p.length s.o0 s.ops)))=s.ops.map (kn p.length x):=by
   apply List.ext_getElem?;intro j;rw[key,key,key,key,List.getElem?_map];cases ho:s.ops[j]? with
   |none=>rfl
   |some o=>
    simp only[Option.map_some,Option.some.injEq];obtain⟨a,b,q⟩:=h.only j o ho;by_cases PK:o.e<0∧o.lost<0
    ·have hq:=q PK.1 PK.2;have hu:kn p.length x o={o with lost:=(p.length:Int)}:=by unfold kn;rw[if_pos PK,if_pos e]
     rw[hu];unfold Sc.op at hq
     repeat' split at hq
     all_goals simp only[hq,if_pos]
     all_goals repeat' split
     all_goals rfl
    ·rw[aoq PK];have AB:∀c:Int,0≤c→c≤3→s.op c≠j:=by intro c a b hc;obtain⟨o2,q1,q2,q3,q4⟩:=h.here c a b (by omega);rw[hc]at q1;simp only[Int.toNat_natCast]at q1;rw[ho]at q1;cases q1;exact PK ⟨q3,q4⟩
     have n0:s.o0≠j:=AB 0 (by omega) (by omega);have n1:s.o1≠j:=AB 1 (by omega) (by omega);have n2:s.o2≠j:=AB 2 (by omega) (by omega);have n3:s.o3≠j:=AB 3 (by omega) (by omega);rw[if_neg n0,if_neg n1,if_neg n2,if_neg n3]
  refine⟨?_,?_,?_,?_,?_⟩
  ·rw[axN,hn,←h.ops,if_neg (by omega)];simpa using Oo
  ·intro c a b;rw[lf c,aij e]
  ·intro c _;exact lf c
  ·intro c _ _ h0;rw[lf c]at h0;omega
  ·intro j o;rw[hn];show(nQ _ _ _)[j]?=some o→_;rw[Oo,List.getElem?_map];intro ho;cases hj:s.ops[j]? with
   |none=>rw[hj]at ho;cases ho
   |some o3=>
    rw[hj]at ho;simp only[Option.map_some,Option.some.injEq]at ho;obtain⟨a,b,q⟩:=h.only j o3 hj;have hc:o.client=o3.client:=by rw[←ho];unfold kn;repeat' split<;>rfl
    refine⟨by omega,by omega,fun e1 e2=>?_⟩;exfalso;rw[←ho]at e1 e2;unfold kn at e1 e2;split at e1
    ·rw[if_pos e]at e2;rename_i hh;rw[if_pos hh]at e2;simp at e2;omega
    ·rename_i hh;rw[if_neg hh]at e2;exact hh ⟨e1,e2⟩
theorem aor{p:List Ev}{s:Sc}(h:Kp p s)(x:Ev):vY s x=BS p x:=by
 unfold vY BS;cases hx:zk x with
 |false=>rfl
 |true=>
  have ZB:=hx;unfold zk at ZB;rw[decide_eq_true_eq]at ZB;have q:=h.sign x.client ZB.2.2.1 ZB.2.2.2.1;have q1:s.op x.client<0↔kC x.client p<0:=by omega
  simp only[q,q1]
theorem ail:∀(l p:List Ev) (s:Sc),Kp p s→scan p.length s l=(cM p l,if cM p l=0 then aR 0 (p.reverse++l)else [])
 | [],p,s,h=>by simp[scan,cM,h.ops]
 |x ::l,p,s,h=>by
  unfold scan cM;rw[aor h x];cases hb:BS p x with
  |zero=>
   have hx:zk x=true:=by
    cases hx:zk x with
    |true=>rfl
    |false=>unfold BS at hb;rw[hx]at hb;simp at hb
   have ih:=ail l (x ::p) _ (aik h hx (by rw[aor h x];exact hb));simp only[List.length_cons]at ih;rw[ih];simp
  |succ n=>simp
theorem abU(l:List Ev):scan 0 ⟨[],-1,-1,-1,-1⟩ l=(cM [] l,if cM [] l=0 then aR 0 l else []):=by
 have:=ail l [] ⟨[],-1,-1,-1,-1⟩ ⟨rfl,?_,?_,?_,?_⟩
 ·simpa using this
 ·intro c a b;unfold Sc.op kC;repeat' split<;>simp
 ·intro c _;unfold Sc.op;simp
 ·intro c a b h;unfold Sc.op at h;simp at h
 ·intro j o h;simp at h
def before(a b:Op):Bool:=decide (0≤a.e∧a.e<b.b∨0≤a.lost∧a.lost<b.b)
def at_(os:List Op)(x:Int):Op:=os.getD x.toNat default
structure Lin(os:List Op)(ord:List Int):Prop where
 rng:∀x∈ord,0≤x∧x<os.length
 ended:∀(i:Nat) (o:Op),os[i]?=some o→o.e≠-1→(i:Int)∈ord
 pair:ord.Pairwise fun x y=>x≠y∧before (at_ os y) (at_ os x)=false
open Classical in
noncomputable def jt(os:List Op)(ord:List Int):Bool:=decide (Lin os ord)
theorem O6{os:List Op}{ord:List Int}(h:Lin os ord):jt os ord=true:=by unfold jt;exact @decide_eq_true _ (Classical.propDecidable _) h
theorem mW{os:List Op}{ord:List Int}(h:¬Lin os ord):jt os ord=false:=by unfold jt;exact @decide_eq_false _ (Classical.propDecidable _) h
end Ln
namespace Ln
open Go.Sx Go
def eU(u:U):List AV:=[I u.k,I u.n,.str 0 0,.nils]
def aV(l:List U):AV:=match l with
 | []=>.nils
 |l=>.sl (aq eU l) l.length 4 .any
def eE(x:Ev):List AV:=[I x.kind,I x.client,.str x.name.1 x.name.2,aV x.args,I x.res.k,I x.res.n,.str 0 0,.nils]
def eO(o:Op):List AV:=[I o.client,I o.b,I o.e,I o.lost,.str o.name.1 o.name.2,aV o.args,I o.res.k,I o.res.n,.str 0 0,.nils]
theorem Cu:Flat 4 eU where
 len _:=rfl
 wU x y hy:=by
  simp[eU]at hy;rcases hy with rfl|rfl|rfl|rfl
  ·exact c5 _ _
  ·exact c5 _ _
  ·exact jj _ _
  ·exact qG
 cell x y hy:=by simp[eU]at hy;rcases hy with rfl|rfl|rfl|rfl<;>rfl
 lits x:=rfl
theorem gx(l:List U):KD (aV l):=by
 cases l with
 |nil=>exact qG
 |cons a l=>exact KE _ _ _
theorem du(l:List U):(aV l).aM=true∧(aV l).cells=[aV l]:=by cases l<;>exact⟨rfl,rfl⟩
theorem Cv(l:List U):AV.lits (aV l)=true:=by
 cases l with
 |nil=>rfl
 |cons a l=>simp only[aV,AV.lits];exact Cu.atr _
theorem nZ:Flat 8 eE where
 len _:=rfl
 wU x y hy:=by
  simp[eE]at hy;rcases hy with rfl|rfl|rfl|rfl|rfl|rfl|rfl|rfl
  ·exact c5 _ _
  ·exact c5 _ _
  ·exact jj _ _
  ·exact gx _
  ·exact c5 _ _
  ·exact c5 _ _
  ·exact jj _ _
  ·exact qG
 cell x y hy:=by simp[eE]at hy;rcases hy with rfl|rfl|rfl|rfl|rfl|rfl|rfl|rfl<;>first|rfl|exact(du _).1
 lits x:=by simp[eE,AV.dU,AV.lits,Cv,I]
theorem gV:Flat 10 eO where
 len _:=rfl
 wU x y hy:=by
  simp[eO]at hy;rcases hy with rfl|rfl|rfl|rfl|rfl|rfl|rfl|rfl|rfl|rfl
  ·exact c5 _ _
  ·exact c5 _ _
  ·exact c5 _ _
  ·exact c5 _ _
  ·exact jj _ _
  ·exact gx _
  ·exact c5 _ _
  ·exact c5 _ _
  ·exact jj _ _
  ·exact qG
 cell x y hy:=by simp[eO]at hy;rcases hy with rfl|rfl|rfl|rfl|rfl|rfl|rfl|rfl|rfl|rfl<;>first|rfl|exact(du _).1
 lits x:=by simp[eO,AV.dU,AV.lits,Cv,I]
@[simp] theorem aDy(n c m d:Nat):opS .eql n c m d=some (.bool (decide (n=m∧c=d))):=by simp only[opS];by_cases h1:n=m<;>by_cases h2:c=d<;>simp[h1,h2]
@[simp] theorem aDz(n c m d:Nat):opS .neq n c m d=some (.bool (decide (¬(n=m∧c=d)))):=by simp only[opS];by_cases h1:n=m<;>by_cases h2:c=d<;>simp[h1,h2]
structure St where
 k:Int
 n:Int
 kids:List U
deriving DecidableEq,Inhabited
def eS(s:St):List AV:=[I s.k,I s.n,.str 0 0,aV s.kids]
def vI(i:Nat):AV:=.int .i64 (.var i)
def uS(b:Nat):List AV:=[vI b,vI (b+1),.str 0 0,.nils]
def aAe(b:Nat):Nat→AV
 |0=>.nils
 |1=>.sl (uS (b+2)) 1 4 .any
 |2=>.sl (uS (b+2)++uS (b+4)) 2 4 .any
 |_=>.sl (uS (b+2)++(uS (b+4)++uS (b+6))) 3 4 .any
def stS(b n:Nat):AV:=.agg [vI b,vI (b+1),.str 0 0,aAe b n]
def avs:Nat→AV
 |0=>.nils
 |_=>.sl (uS 8) 1 4 .any
def aAf:AV:=.agg (uS 10)
def kid(l:List U)(i:Nat):U:=l.getD i ⟨0,0⟩
def alx(s:St):List Int:=[s.k,s.n,(kid s.kids 0).k,(kid s.kids 0).n,(kid s.kids 1).k,(kid s.kids 1).n,(kid s.kids 2).k,(kid s.kids 2).n]
def RE(l:List Int)(i:Nat):Int:=l.getD i 0
def yz(s:St)(aZZ:List U)(r:U)(w:Int):Nat→Int:=RE (alx s ++ [(kid aZZ 0).k,(kid aZZ 0).n,r.k,r.n,w])
def yA(s t:St):Nat→Int:=RE (alx s++alx t)
theorem aly{s:St}{aZZ:List U}{r:U}{w:Int}(h:s.kids.length≤3):AV.sub (yz s aZZ r w) (stS 0 s.kids.length)=.agg (eS s):=by
 obtain⟨k,n,l⟩:=s
 match l,h with
 | [],_=>rfl
 | [_],_=>rfl
 | [_,_],_=>rfl
 | [_,_,_],_=>rfl
 |_ ::_ ::_ ::_ ::l,h=>exact absurd h (by simp)
theorem ag7{s:St}{aZZ:List U}{r:U}{w:Int}(h:aZZ.length≤1):AV.sub (yz s aZZ r w) (avs aZZ.length)=aV aZZ:=by
 obtain⟨k,n,l⟩:=s
 match aZZ,h with
 | [],_=>rfl
 | [_],_=>rfl
 |_ ::_ ::l,h=>exact absurd h (by simp)
theorem aqp{s:St}{aZZ:List U}{r:U}{w:Int}:AV.sub (yz s aZZ r w) aAf=.agg (eU r):=by cases aZZ<;>rfl
theorem sub_one{s t:St}(h:s.kids.length≤3):AV.sub (yA s t) (stS 0 s.kids.length)=.agg (eS s):=by
 obtain⟨k,n,l⟩:=s
 match l,h with
 | [],_=>rfl
 | [_],_=>rfl
 | [_,_],_=>rfl
 | [_,_,_],_=>rfl
 |_ ::_ ::_ ::_ ::l,h=>exact absurd h (by simp)
theorem aqq{s t:St}(h:t.kids.length≤3):AV.sub (yA s t) (stS 8 t.kids.length)=.agg (eS t):=by
 obtain⟨k,n,l⟩:=s;obtain⟨k2,n2,l2⟩:=t
 match l2,h with
 | [],_=>rfl
 | [_],_=>rfl
 | [_,_],_=>rfl
 | [_,_,_],_=>rfl
 |_ ::_ ::_ ::_ ::l,h=>exact absurd h (by simp)
def RF(p:AV→Bool):DT→GN→Bool
 |.leaf u,_=>p u
 |.ask op a b t e,F=>isCmp op&&((((Ja F a b).and (UT op)).no||RF p t ((a,b,UT op) ::F))&&(((Ja F a b).and (UT op).not).no||RF p e ((a,b,(UT op).not) ::F)))
theorem LX{ρ:Nat→Int}{p:AV→Bool}:∀{d:DT} {F:GN},RF p d F=true→Ii ρ F→∃u,p u=true∧d.val ρ=u.sub ρ
 |.leaf u,F,h,_=>⟨u,h,rfl⟩
 |.ask op a b t e,F,h,hF=>by
  unfold RF at h;simp only[jq,Bool.or_eq_true]at h;obtain⟨h0,h1,h2⟩:=h;obtain⟨r,hr⟩:=LY h0 (a.den ρ) (b.den ρ);have hm:=XB hr;have hh:holds ρ op a b=r:=by unfold holds;rw[hr]
  have hv:(DT.ask op a b t e).val ρ=bif r then t.val ρ else e.val ρ:=by
   conv=>lhs;unfold DT.val
   rw[hh];cases r<;>rfl
  rw[hv];cases r with
  |true=>
   rcases h1 with h1|h1
   ·exact(M3.O2 ((qH hF a b).BQ hm) h1).elim
   ·exact LX h1 ⟨hm,hF⟩
  |false=>
   rcases h2 with h2|h2
   ·exact(M3.O2 ((qH hF a b).BQ hm) h2).elim
   ·exact LX h2 ⟨hm,hF⟩
def alz:AV→Bool
 |.tuple [.bool _,.int .i64 (.lit _)]=>true
 |_=>false
def adR:AV→Bool
 |.tuple [.bool b,_]=>b
 |_=>false
def RD:AV→Int
 |.tuple [_,.int _ (.lit e)]=>e
 |_=>0
theorem alA{u:AV}{ρ:Nat→Int}(h:alz u=true):u.sub ρ=.tuple [.bool (adR (u.sub ρ)),I (RD (u.sub ρ))]:=by
 unfold alz at h;split at h
 ·rfl
 ·cases h
theorem ZZ{d:DT}{ρ:Nat→Int}(h:RF alz d []=true):d.val ρ=.tuple [.bool (adR (d.val ρ)),I (RD (d.val ρ))]:=by obtain⟨u,h1,h2⟩:=LX (ρ:=ρ) h trivial;rw[h2];exact alA h1
def alB:List AV→Option Nat
 | []=>some 0
 |.int .i64 _ ::.int .i64 _ ::.str 0 0 ::.nils ::l=>(alB l).map (· + 1)
 |_=>none
def avt(m:Nat):AV→Bool
 |.nils=>true
 |.sl l n 4 .any=>!l.isEmpty&&alB l==some n&&Nat.ble n m
 |_=>false
def alC(m:Nat):AV→Bool
 |.tuple [.agg [.int .i64 _,.int .i64 _,.str 0 0,K],.int .i64 (.lit _)]=>avt m K
 |_=>false
def XC:List AV→List U
 |.int _ (.lit a) ::.int _ (.lit b) ::_ ::_ ::l=>⟨a,b⟩ ::XC l
 |_=>[]
def aqr:AV→List U
 |.sl l _ _ _=>XC l
 |_=>[]
def aiM:AV→St
 |.tuple [.agg [.int _ (.lit a),.int _ (.lit b),_,K],_]=>⟨a,b,aqr K⟩
 |_=>⟨0,0,[]⟩
theorem Z5{ρ:Nat→Int}:∀{l:List AV} {n:Nat},alB l=some n→AV.gX ρ l=aq eU (XC (AV.gX ρ l))∧(XC (AV.gX ρ l)).length=n
 | [],n,h=>by cases h;exact⟨rfl,rfl⟩
 |a ::l,n,h=>by
  unfold alB at h;split at h
  ·rename_i e;cases e
  ·rename_i x y r e;cases e;cases hr:alB r with
   |none=>rw[hr]at h;cases h
   |some m=>
    rw[hr]at h;cases h;obtain⟨h1,h2⟩:=Z5 (ρ:=ρ) hr;constructor
    ·show _ ::_ ::_ ::_ ::AV.gX ρ r=_
     conv=>lhs;rw[h1]
     rfl
    ·show(_ ::XC (AV.gX ρ r)).length=_;simp[h2]
  ·cases h
theorem alD{ρ:Nat→Int}{m:Nat}{K:AV}(h:avt m K=true):K.sub ρ=aV (aqr (K.sub ρ))∧(aqr (K.sub ρ)).length≤m:=by
 unfold avt at h;split at h
 ·exact⟨rfl,Nat.zero_le _⟩
 ·rename_i l n;simp only[jq,beq_iff_eq,Bool.not_eq_true']at h;obtain⟨⟨h0,h1⟩,h2⟩:=h;obtain⟨e1,e2⟩:=Z5 (ρ:=ρ) h1;have bW:XC (AV.gX ρ l)≠[]:=by
   intro e;rw[e]at e1;have:(AV.gX ρ l).length=0:=by rw[e1];rfl
   rw[AV.LZ]at this;cases l with
   |nil=>cases h0
   |cons=>simp at this
  constructor
  ·show AV.sl (AV.gX ρ l) n 4 .any=aV (XC (AV.gX ρ l));cases hr:XC (AV.gX ρ l)with
   |nil=>exact absurd hr bW
   |cons u t=>show _=AV.sl (aq eU (u ::t)) (u ::t).length 4 .any;rw[←hr,←e1,e2]
  ·show(XC (AV.gX ρ l)).length≤m;rw[e2];exact Nat.le_of_ble_eq_true h2
 ·cases h
theorem alE{u:AV}{ρ:Nat→Int}{m:Nat}(h:alC m u=true):u.sub ρ=.tuple [.agg (eS (aiM (u.sub ρ))),I (RD (u.sub ρ))]∧(aiM (u.sub ρ)).kids.length≤m:=by
 unfold alC at h;split at h
 ·rename_i a b K e;obtain⟨h1,h2⟩:=alD (ρ:=ρ) h;refine⟨?_,h2⟩;show AV.tuple [.agg [_,_,_,K.sub ρ],_]=.tuple [.agg [_,_,_,aV (aqr (K.sub ρ))],_];rw[←h1];rfl
 ·cases h
theorem Z1{d:DT}{ρ:Nat→Int}{m:Nat}(h:RF (alC m) d []=true):d.val ρ=.tuple [.agg (eS (aiM (d.val ρ))),I (RD (d.val ρ))]∧(aiM (d.val ρ)).kids.length≤m:=by obtain⟨u,h1,h2⟩:=LX (ρ:=ρ) h trivial;rw[h2];exact alE h1
def wT:List Int→List Int→Int
 | [],[]=>0
 | [],_ ::_=>-1
 |_ ::_,[]=>1
 |a ::l,b ::m=>if a<b then -1 else if b<a then 1 else wT l m
def RG(f:Int→AV):List SI→List SI→DT
 | [],[]=>.leaf (f 0)
 | [],_ ::_=>.leaf (f (-1))
 |_ ::_,[]=>.leaf (f 1)
 |a ::l,b ::m=>.ask .lss a b (.leaf (f (-1))) (.ask .gtr a b (.leaf (f 1)) (RG f l m))
theorem Wk{ρ:Nat→Int}{f:Int→AV}(hf:∀i,(f i).sub ρ=f i):∀l m:List SI,(RG f l m).val ρ=f (wT (l.map (SI.den ρ)) (m.map (SI.den ρ)))
 | [],[]=>hf 0
 | [],_ ::_=>hf (-1)
 |_ ::_,[]=>hf 1
 |a ::l,b ::m=>by
  unfold RG;simp only[ZC,wT];unfold DT.val;by_cases h:a.den ρ<b.den ρ
  ·have:holds ρ .lss a b=true:=by unfold holds;simp[fS,h]
   rw[this,if_pos h];exact hf (-1)
  ·have:holds ρ .lss a b=false:=by unfold holds;simp[fS,h]
   rw[this,if_neg h];show(DT.ask .gtr a b _ _).val ρ=_;unfold DT.val;by_cases h2:b.den ρ<a.den ρ
   ·have:holds ρ .gtr a b=true:=by unfold holds;simp[fS,h2]
    rw[this,if_pos h2];exact hf 1
   ·have:holds ρ .gtr a b=false:=by unfold holds;simp[fS,h2]
    rw[this,if_neg h2];exact Wk hf l m
def kL:List U→List Int
 | []=>[]
 |u ::l=>u.k ::u.n ::kL l
def sL(s:St):List Int:=s.k ::s.n ::kL s.kids
def qz(s t:St):Int:=wT (sL s) (sL t)
def vars(b:Nat):Nat→List SI
 |0=>[.var b,.var (b+1)]
 |1=>[.var b,.var (b+1),.var (b+2),.var (b+3)]
 |2=>[.var b,.var (b+1),.var (b+2),.var (b+3),.var (b+4),.var (b+5)]
 |_=>[.var b,.var (b+1),.var (b+2),.var (b+3),.var (b+4),.var (b+5),.var (b+6),.var (b+7)]
theorem aqs{s t:St}(h:s.kids.length≤3):(vars 0 s.kids.length).map (SI.den (yA s t))=sL s:=by
 obtain⟨k,n,l⟩:=s
 match l,h with
 | [],_=>rfl
 | [_],_=>rfl
 | [_,_],_=>rfl
 | [_,_,_],_=>rfl
 |_ ::_ ::_ ::_ ::l,h=>exact absurd h (by simp)
theorem aqt{s t:St}(h:t.kids.length≤3):(vars 8 t.kids.length).map (SI.den (yA s t))=sL t:=by
 obtain⟨k,n,l⟩:=s;obtain⟨k2,n2,l2⟩:=t
 match l2,h with
 | [],_=>rfl
 | [_],_=>rfl
 | [_,_],_=>rfl
 | [_,_,_],_=>rfl
 |_ ::_ ::_ ::_ ::l,h=>exact absurd h (by simp)
theorem XD{s t:St}(h1:s.kids.length≤3)(h2:t.kids.length≤3){f:Int→AV}(hf:∀(ρ:Nat→Int) i,(f i).sub ρ=f i){d:DT}(hd:DT.same d (RG f (vars 0 s.kids.length) (vars 8 t.kids.length)) []=true):d.val (yA s t)=f (qz s t):=by rw[DT.uX (ρ:=yA s t) hd trivial,Wk (hf _),aqs h1,aqt h2];rfl
theorem Ij:∀l m:List Int,wT l m<0↔0<wT m l
 | [],[]=>by simp[wT]
 | [],_ ::_=>by simp[wT]
 |_ ::_,[]=>by simp[wT]
 |a ::l,b ::m=>by
  unfold wT;by_cases h:a<b
  ·rw[if_pos h,if_neg (by omega),if_pos h];decide
  ·rw[if_neg h];by_cases h2:b<a
   ·rw[if_pos h2,if_pos h2];decide
   ·rw[if_neg h2,if_neg h2,if_neg h];exact Ij l m
theorem ag8:∀{l m:List Int},wT l m=0→l=m
 | [],[],_=>rfl
 | [],_ ::_,h=>by simp[wT]at h
 |_ ::_,[],h=>by simp[wT]at h
 |a ::l,b ::m,h=>by
  unfold wT at h;split at h
  ·cases h
  ·split at h
   ·cases h
   ·rw[ag8 h,show a=b by omega]
theorem Wl:∀l:List Int,wT l l=0
 | []=>rfl
 |a ::l=>by unfold wT;rw[if_neg (by omega),if_neg (by omega)];exact Wl l
theorem KF:∀{l m n:List Int},wT l m<0→wT m n<0→wT l n<0
 | [],[],_,h,_=>by simp[wT]at h
 | [],_ ::_,[],_,h=>by simp[wT]at h
 | [],_ ::_,_ ::_,_,_=>by simp[wT]
 |_ ::_,[],_,h,_=>by simp[wT]at h
 |_ ::_,_ ::_,[],_,h=>by simp[wT]at h
 |a ::l,b ::m,c ::n,h1,h2=>by
  unfold wT at h1 h2 ⊢;split at h1
  ·split at h2
   ·rw[if_pos (by omega)];decide
   ·split at h2
    ·simp at h2
    ·rw[if_pos (by omega)];decide
  ·split at h1
   ·simp at h1
   ·split at h2
    ·rw[if_pos (by omega)];decide
    ·split at h2
     ·simp at h2
     ·rw[if_neg (by omega),if_neg (by omega)];exact KF h1 h2
theorem alF:∀{l m:List U},kL l=kL m→l=m
 | [],[],_=>rfl
 | [],_ ::_,h=>by cases h
 |_ ::_,[],h=>by cases h
 |⟨a,b⟩ ::l,⟨c,d⟩ ::m,h=>by simp only[kL,List.cons.injEq]at h;obtain⟨rfl,rfl,h⟩:=h;rw[alF h]
theorem Ik{s t:St}:qz s t=0↔s=t:=by
 constructor
 ·intro h;have:=ag8 h;obtain⟨k,n,l⟩:=s;obtain⟨k2,n2,l2⟩:=t;simp only[sL,List.cons.injEq]at this;obtain⟨rfl,rfl,h3⟩:=this;rw[alF h3]
 ·rintro rfl;exact Wl _
inductive cd where
 |put|get|inc|readC|add|write|readR
deriving DecidableEq,Inhabited
def cd.fm:cd→Nat
 |.put=>0|.get=>0|.inc=>1|.readC=>1|.add=>1|.write=>2|.readR=>2
def cd.name:cd→Nat×Nat
 |.put=>(3,7632240)|.get=>(3,7628135)|.inc=>(3,6516329)|.readC=>(4,1684104562)|.add=>(3,6579297)|.write=>(5,435744764535)|.readR=>(4,1684104562)
def cd.ar:cd→Nat
 |.put=>1|.get=>0|.inc=>0|.readC=>0|.add=>1|.write=>1|.readR=>0
def NU:Nat→Nat×Nat
 |0=>(5,435761280369)|1=>(7,32199698088816483)|_=>(8,8243122732010005874)
abbrev fT(i:Nat):AV:=.str (NU i).1 (NU i).2
def aZ:Nat→List cd
 |0=>[.put,.get]|1=>[.inc,.readC,.add]|_=>[.write,.readR]
def y9(i:Nat)(name:Nat×Nat):Option cd:=(aZ i).find? fun c=>c.name==name
def AX:Nat→Nat
 |0=>3|_=>0
def iW:AV:=.agg [I 200,I 50]
structure Kn where
 rows:List AV
 dec:Nat→List AV
 cmd:Nat→Nat→List AV
 UR:cd→St→List U→Bool
 US:cd→St→List U→Int
 zf:cd→St→List U→U→Bool
 zg:cd→St→List U→U→Int
 Ct:cd→St→List U→U→St
 Ez:cd→St→List U→U→Int
def Kn.m(X:Kn):AV:=.agg [.sl X.rows 7 45 .any]
def bJ:Nat→St
 |0=>⟨2,0,[]⟩|_=>⟨0,0,[]⟩
def jL(i:Nat)(s:St):Prop:=s.kids.length≤AX i
def Kn.take(X:Kn)(c:cd)(o:Op)(s:St):Option St:=
 if X.US c s o.args≠0∨X.UR c s o.args=false then none
 else if 0≤o.e∧(X.zg c s o.args o.res≠0∨X.zf c s o.args o.res=false)then none
 else if X.Ez c s o.args o.res≠0 then none
 else some (X.Ct c s o.args o.res)
structure Kn.Ok(X:Kn):Prop where
 aeE:∀i,Flat 23 (X.cmd i)
 aBx:∀i,i<3→(X.dec i)[36]?=some (.sl (aq (X.cmd i) (List.range (aZ i).length)) (aZ i).length 23 .any)
 aIR:∀i,i<3→∀(t:Nat) (c:cd),(aZ i)[t]?=some c→(X.cmd i t)[0]?=some (.str c.name.1 c.name.2)
 aIS:∀i,i<3→∀(t:Nat) (c:cd),(aZ i)[t]?=some c→∃d,(X.cmd i t)[1]?=some d∧(d=.nils∧c.ar=0∨∃l z,d=.sl l c.ar z .any)
 aur:∀i,i<3→(X.dec i).length=45
 aRl:∀i,i<3→∀y∈X.dec i,KD y
 aIT:∀i,i<3→∀y∈X.dec i,y.aM=true
 take:∀c o s t,jL c.fm s→o.args.length=c.ar→X.take c o s=some t→jL c.fm t
theorem Tq{i:Nat}{name:Nat×Nat}{c:cd}(h:y9 i name=some c):c.name=name∧c∈aZ i:=by unfold y9 at h;have h1:=List.find?_some h;exact⟨beq_iff_eq.1 h1,List.mem_of_find?_eq_some h⟩
theorem ajy{i:Nat}(hi:i<3){name:Nat×Nat}{c:cd}(h:y9 i name=some c):c.fm=i:=by
 have:=(Tq h).2
 match i,hi with
 |0,_=>simp[aZ]at this;rcases this with rfl|rfl<;>rfl
 |1,_=>simp[aZ]at this;rcases this with rfl|rfl|rfl<;>rfl
 |2,_=>simp[aZ]at this;rcases this with rfl|rfl<;>rfl
theorem adW(i:Nat):AX i≤3:=by unfold AX;split<;>omega
end Ln
namespace Ln
open Go.Sx Go Go.Proofs
def Cg:aK→List Nat→aK
 |c,[]=>c
 |.seq a _,0 ::p=>Cg a p
 |.seq _ b,_ ::p=>Cg b p
 |.cond _ a _,0 ::p=>Cg a p
 |.cond _ _ b,_ ::p=>Cg b p
 |.block _ c,_ ::p=>Cg c p
 |.loop c,_ ::p=>Cg c p
 |_,_ ::_=>.skip
noncomputable def Ki{α:Type}:List (Key×α)→T α
 | []=>.nil
 |(k,v) ::r=>yL k (some v) (Ki r) fun t=>t
def adB:List AV:=[I 0,I 0,I 0,.str 5 465557548909,I 0,I 6,I 0,.str 5 435761280369,I 3,I 11,I 0,.str 1 40,I 0,I 12,I 0,.str 1 115,I 3,I 13,I 0,.str 1 58,I 3,I 15,I 0,.str 1 91,I 0,I 16,I 0,.str 3 7630441,I 3,I 19,I 0,.str 1 93,I 3,I 21,I 0,.str 1 61,I 3,I 23,I 0,.str 1 91,I 3,I 24,I 0,.str 1 93,I 3,I 25,I 0,.str 1 41,I 3,I 27,I 0,.str 1 123,I 0,I 29,I 0,.str 7 28268862397837155,I 0,I 37,I 0,.str 3 7632240,I 3,I 40,I 0,.str 1 40,I 0,I 41,I 0,.str 1 120,I 3,I 42,I 0,.str 1 58,I 0,I 44,I 0,.str 3 7630441,I 3,I 48,I 0,.str 2 11580,I 0,I 51,I 0,.str 4 1801677168,I 2,I 56,I 0,.str 1 48,I 3,I 57,I 0,.str 2 11822,I 2,I 59,I 2,.str 1 50,I 3,I 60,I 0,.str 1 41,I 0,I 62,I 0,.str 3 6648432,I 0,I 66,I 0,.str 4 1702521203,I 3,I 70,I 0,.str 1 40,I 0,I 71,I 0,.str 1 115,I 3,I 72,I 0,.str 1 41,I 3,I 74,I 0,.str 1 60,I 2,I 76,I 3,.str 1 51,I 0,I 78,I 0,.str 4 1954047342,I 0,I 83,I 0,.str 4 1752397168,I 3,I 87,I 0,.str 1 40,I 0,I 88,I 0,.str 1 115,I 3,I 89,I 0,.str 1 44,I 0,I 91,I 0,.str 1 120,I 3,I 92,I 0,.str 1 41,I 0,I 94,I 0,.str 4 1953722224,I 0,I 99,I 0,.str 1 114,I 3,I 101,I 0,.str 2 15677,I 2,I 104,I 0,.str 1 48,I 3,I 105,I 0,.str 1 59,I 0,I 107,I 0,.str 7 28268862397837155,I 0,I 115,I 0,.str 3 7628135,I 3,I 118,I 0,.str 1 40,I 3,I 119,I 0,.str 1 41,I 0,I 121,I 0,.str 3 6648432,I 2,I 125,I 0,.str 1 48,I 3,I 127,I 0,.str 1 60,I 0,I 129,I 0,.str 4 1702521203,I 3,I 133,I 0,.str 1 40,I 0,I 134,I 0,.str 1 115,I 3,I 135,I 0,.str 1 41,I 0,I 137,I 0,.str 4 1954047342,I 0,I 142,I 0,.str 4 1886351972,I 3,I 146,I 0,.str 1 40,I 0,I 147,I 0,.str 1 115,I 3,I 148,I 0,.str 1 44,I 2,I 150,I 1,.str 1 49,I 3,I 151,I 0,.str 1 41,I 0,I 153,I 0,.str 4 1953722224,I 0,I 158,I 0,.str 1 114,I 3,I 160,I 0,.str 2 15677,I 0,I 163,I 0,.str 2 29793,I 3,I 165,I 0,.str 1 40,I 0,I 166,I 0,.str 1 115,I 3,I 167,I 0,.str 1 44,I 2,I 169,I 0,.str 1 48,I 3,I 170,I 0,.str 1 41,I 3,I 171,I 0,.str 1 59,I 3,I 173,I 0,.str 1 125,I 0,I 175,I 0,.str 5 465557548909,I 0,I 181,I 0,.str 7 32199698088816483,I 3,I 188,I 0,.str 1 40,I 0,I 189,I 0,.str 1 115,I 3,I 190,I 0,.str 1 58,I 0,I 192,I 0,.str 3 7630441,I 3,I 196,I 0,.str 1 61,I 2,I 198,I 0,.str 1 48,I 3,I 199,I 0,.str 1 41,I 3,I 201,I 0,.str 1 123,I 0,I 203,I 0,.str 7 28268862397837155,I 0,I 211,I 0,.str 3 6516329,I 3,I 214,I 0,.str 1 40,I 3,I 215,I 0,.str 1 41,I 0,I 217,I 0,.str 3 6648432,I 0,I 221,I 0,.str 1 115,I 3,I 223,I 0,.str 1 60,I 2,I 225,I 99,.str 2 14649,I 0,I 228,I 0,.str 4 1954047342,I 0,I 233,I 0,.str 1 115,I 3,I 235,I 0,.str 1 43,I 2,I 237,I 1,.str 1 49,I 0,I 239,I 0,.str 4 1953722224,I 0,I 244,I 0,.str 1 114,I 3,I 246,I 0,.str 2 15677,I 0,I 249,I 0,.str 1 115,I 3,I 251,I 0,.str 1 43,I 2,I 253,I 1,.str 1 49,I 3,I 254,I 0,.str 1 59,I 0,I 256,I 0,.str 7 28268862397837155,I 0,I 264,I 0,.str 4 1684104562,I 3,I 268,I 0,.str 1 40,I 3,I 269,I 0,.str 1 41,I 0,I 271,I 0,.str 3 6648432,I 0,I 275,I 0,.str 4 1702195828,I 0,I 280,I 0,.str 4 1954047342,I 0,I 285,I 0,.str 1 115,I 0,I 287,I 0,.str 4 1953722224,I 0,I 292,I 0,.str 1 114,I 3,I 294,I 0,.str 2 15677,I 0,I 297,I 0,.str 1 115,I 3,I 298,I 0,.str 1 59,I 0,I 300,I 0,.str 7 28268862397837155,I 0,I 308,I 0,.str 3 6579297,I 3,I 311,I 0,.str 1 40,I 0,I 312,I 0,.str 1 121,I 3,I 313,I 0,.str 1 58,I 0,I 315,I 0,.str 3 7630441,I 3,I 319,I 0,.str 2 11580,I 0,I 322,I 0,.str 4 1801677168,I 2,I 327,I 0,.str 1 48,I 3,I 328,I 0,.str 2 11822,I 2,I 330,I 2,.str 1 50,I 3,I 331,I 0,.str 1 41,I 0,I 333,I 0,.str 3 6648432,I 0,I 337,I 0,.str 4 1702195828,I 0,I 342,I 0,.str 4 1954047342,I 0,I 347,I 0,.str 1 115,I 3,I 349,I 0,.str 1 43,I 0,I 351,I 0,.str 1 121,I 0,I 353,I 0,.str 4 1953722224,I 0,I 358,I 0,.str 1 114,I 3,I 360,I 0,.str 2 15677,I 0,I 363,I 0,.str 1 115,I 3,I 365,I 0,.str 1 43,I 0,I 367,I 0,.str 1 121,I 3,I 368,I 0,.str 1 59,I 3,I 370,I 0,.str 1 125,I 0,I 372,I 0,.str 5 465557548909,I 0,I 378,I 0,.str 8 8243122732010005874,I 3,I 386,I 0,.str 1 40,I 0,I 387,I 0,.str 1 115,I 3,I 388,I 0,.str 1 58,I 0,I 390,I 0,.str 3 7630441,I 3,I 394,I 0,.str 1 61,I 2,I 396,I 0,.str 1 48,I 3,I 397,I 0,.str 1 41,I 3,I 399,I 0,.str 1 123,I 0,I 401,I 0,.str 7 28268862397837155,I 0,I 409,I 0,.str 5 435744764535,I 3,I 414,I 0,.str 1 40,I 0,I 415,I 0,.str 1 120,I 3,I 416,I 0,.str 1 58,I 0,I 418,I 0,.str 3 7630441,I 3,I 422,I 0,.str 2 11580,I 0,I 425,I 0,.str 4 1801677168,I 2,I 430,I 0,.str 1 48,I 3,I 431,I 0,.str 2 11822,I 2,I 433,I 2,.str 1 50,I 3,I 434,I 0,.str 1 41,I 0,I 436,I 0,.str 3 6648432,I 0,I 440,I 0,.str 4 1702195828,I 0,I 445,I 0,.str 4 1954047342,I 0,I 450,I 0,.str 1 120,I 0,I 452,I 0,.str 4 1953722224,I 0,I 457,I 0,.str 1 114,I 3,I 459,I 0,.str 2 15677,I 2,I 462,I 0,.str 1 48,I 3,I 463,I 0,.str 1 59,I 0,I 465,I 0,.str 7 28268862397837155,I 0,I 473,I 0,.str 4 1684104562,I 3,I 477,I 0,.str 1 40,I 3,I 478,I 0,.str 1 41,I 0,I 480,I 0,.str 3 6648432,I 0,I 484,I 0,.str 4 1702195828,I 0,I 489,I 0,.str 4 1954047342,I 0,I 494,I 0,.str 1 115,I 0,I 496,I 0,.str 4 1953722224,I 0,I 501,I 0,.str 1 114,I 3,I 503,I 0,.str 2 15677,I 0,I 506,I 0,.str 1 115,I 3,I 507,I 0,.str 1 59,I 3,I 509,I 0,.str 1 125,I 0,I 511,I 0,.str 6 120282512849267,I 0,I 518,I 0,.str 4 1735289202,I 3,I 522,I 0,.str 1 40,I 0,I 523,I 0,.str 1 115,I 3,I 524,I 0,.str 1 58,I 3,I 526,I 0,.str 1 91,I 0,I 527,I 0,.str 3 7630441,I 3,I 530,I 0,.str 1 93,I 3,I 532,I 0,.str 1 61,I 3,I 534,I 0,.str 1 91,I 3,I 535,I 0,.str 1 93,I 3,I 536,I 0,.str 1 41,I 0,I 538,I 0,.str 7 32199706694346098,I 3,I 546,I 0,.str 1 91,I 3,I 547,I 0,.str 1 93,I 3,I 549,I 0,.str 1 123,I 0,I 551,I 0,.str 2 28783,I 0,I 554,I 0,.str 3 7632240,I 3,I 557,I 0,.str 1 40,I 0,I 558,I 0,.str 1 120,I 3,I 559,I 0,.str 1 58,I 0,I 561,I 0,.str 3 7630441,I 3,I 564,I 0,.str 1 41,I 3,I 566,I 0,.str 1 123,I 0,I 568,I 0,.str 4 1885697139,I 0,I 573,I 0,.str 4 1752397168,I 3,I 577,I 0,.str 1 40,I 0,I 578,I 0,.str 1 115,I 3,I 579,I 0,.str 1 44,I 0,I 581,I 0,.str 1 120,I 3,I 582,I 0,.str 1 41,I 3,I 583,I 0,.str 1 44,I 2,I 585,I 0,.str 1 48,I 3,I 586,I 0,.str 1 59,I 3,I 588,I 0,.str 1 125,I 0,I 590,I 0,.str 2 28783,I 0,I 593,I 0,.str 3 7628135,I 3,I 596,I 0,.str 1 40,I 3,I 597,I 0,.str 1 41,I 3,I 599,I 0,.str 1 123,I 0,I 601,I 0,.str 4 1885697139,I 0,I 606,I 0,.str 4 1886351972,I 3,I 610,I 0,.str 1 40,I 0,I 611,I 0,.str 1 115,I 3,I 612,I 0,.str 1 44,I 2,I 614,I 1,.str 1 49,I 3,I 615,I 0,.str 1 41,I 3,I 616,I 0,.str 1 44,I 0,I 618,I 0,.str 2 29793,I 3,I 620,I 0,.str 1 40,I 0,I 621,I 0,.str 1 115,I 3,I 622,I 0,.str 1 44,I 2,I 624,I 0,.str 1 48,I 3,I 625,I 0,.str 1 41,I 3,I 626,I 0,.str 1 59,I 3,I 628,I 0,.str 1 125,I 3,I 630,I 0,.str 1 125,I 0,I 632,I 0,.str 6 120282512849267,I 0,I 639,I 0,.str 4 1819043171,I 3,I 643,I 0,.str 1 40,I 0,I 644,I 0,.str 1 115,I 3,I 645,I 0,.str 1 58,I 0,I 647,I 0,.str 3 7630441,I 3,I 651,I 0,.str 1 61,I 2,I 653,I 0,.str 1 48,I 3,I 654,I 0,.str 1 41,I 0,I 656,I 0,.str 7 32199706694346098,I 0,I 664,I 0,.str 1 115,I 3,I 666,I 0,.str 1 123,I 0,I 668,I 0,.str 2 28783,I 0,I 671,I 0,.str 3 6516329,I 3,I 674,I 0,.str 1 40,I 3,I 675,I 0,.str 1 41,I 3,I 677,I 0,.str 1 123,I 0,I 679,I 0,.str 4 1885697139,I 0,I 684,I 0,.str 1 115,I 3,I 686,I 0,.str 1 43,I 2,I 688,I 1,.str 1 49,I 3,I 689,I 0,.str 1 44,I 0,I 691,I 0,.str 1 115,I 3,I 693,I 0,.str 1 43,I 2,I 695,I 1,.str 1 49,I 3,I 696,I 0,.str 1 59,I 3,I 698,I 0,.str 1 125,I 0,I 700,I 0,.str 2 28783,I 0,I 703,I 0,.str 4 1684104562,I 3,I 707,I 0,.str 1 40,I 3,I 708,I 0,.str 1 41,I 3,I 710,I 0,.str 1 123,I 0,I 712,I 0,.str 4 1885697139,I 0,I 717,I 0,.str 1 115,I 3,I 718,I 0,.str 1 44,I 0,I 720,I 0,.str 1 115,I 3,I 721,I 0,.str 1 59,I 3,I 723,I 0,.str 1 125,I 0,I 725,I 0,.str 2 28783,I 0,I 728,I 0,.str 3 6579297,I 3,I 731,I 0,.str 1 40,I 0,I 732,I 0,.str 1 121,I 3,I 733,I 0,.str 1 58,I 0,I 735,I 0,.str 3 7630441,I 3,I 738,I 0,.str 1 41,I 3,I 740,I 0,.str 1 123,I 0,I 742,I 0,.str 4 1885697139,I 0,I 747,I 0,.str 1 115,I 3,I 749,I 0,.str 1 43,I 0,I 751,I 0,.str 1 121,I 3,I 752,I 0,.str 1 44,I 0,I 754,I 0,.str 1 115,I 3,I 756,I 0,.str 1 43,I 0,I 758,I 0,.str 1 121,I 3,I 759,I 0,.str 1 59,I 3,I 761,I 0,.str 1 125,I 3,I 763,I 0,.str 1 125,I 0,I 765,I 0,.str 6 120282512849267,I 0,I 772,I 0,.str 4 2003790963,I 3,I 776,I 0,.str 1 40,I 0,I 777,I 0,.str 1 115,I 3,I 778,I 0,.str 1 58,I 0,I 780,I 0,.str 3 7630441,I 3,I 784,I 0,.str 1 61,I 2,I 786,I 0,.str 1 48,I 3,I 787,I 0,.str 1 41,I 0,I 789,I 0,.str 7 32199706694346098,I 0,I 797,I 0,.str 1 115,I 3,I 799,I 0,.str 1 123,I 0,I 801,I 0,.str 2 28783,I 0,I 804,I 0,.str 3 6516329,I 3,I 807,I 0,.str 1 40,I 3,I 808,I 0,.str 1 41,I 3,I 810,I 0,.str 1 123,I 0,I 812,I 0,.str 4 1885697139,I 0,I 817,I 0,.str 1 115,I 3,I 818,I 0,.str 1 44,I 0,I 820,I 0,.str 1 115,I 3,I 821,I 0,.str 1 59,I 0,I 823,I 0,.str 4 1885697139,I 0,I 828,I 0,.str 1 108,I 3,I 830,I 0,.str 1 43,I 2,I 832,I 1,.str 1 49,I 3,I 833,I 0,.str 1 44,I 0,I 835,I 0,.str 1 108,I 3,I 837,I 0,.str 1 43,I 2,I 839,I 1,.str 1 49,I 3,I 840,I 0,.str 1 59,I 3,I 842,I 0,.str 1 125,I 0,I 844,I 0,.str 2 28783,I 0,I 847,I 0,.str 4 1684104562,I 3,I 851,I 0,.str 1 40,I 3,I 852,I 0,.str 1 41,I 3,I 854,I 0,.str 1 123,I 0,I 856,I 0,.str 4 1885697139,I 0,I 861,I 0,.str 1 115,I 3,I 862,I 0,.str 1 44,I 0,I 864,I 0,.str 1 115,I 3,I 865,I 0,.str 1 59,I 3,I 867,I 0,.str 1 125,I 0,I 869,I 0,.str 2 28783,I 0,I 872,I 0,.str 3 6579297,I 3,I 875,I 0,.str 1 40,I 0,I 876,I 0,.str 1 121,I 3,I 877,I 0,.str 1 58,I 0,I 879,I 0,.str 3 7630441,I 3,I 882,I 0,.str 1 41,I 3,I 884,I 0,.str 1 123,I 0,I 886,I 0,.str 4 1885697139,I 0,I 891,I 0,.str 1 115,I 3,I 892,I 0,.str 1 44,I 0,I 894,I 0,.str 1 115,I 3,I 896,I 0,.str 1 43,I 0,I 898,I 0,.str 1 121,I 3,I 899,I 0,.str 1 59,I 0,I 901,I 0,.str 4 1885697139,I 0,I 906,I 0,.str 1 108,I 3,I 907,I 0,.str 1 44,I 0,I 909,I 0,.str 1 108,I 3,I 910,I 0,.str 1 59,I 3,I 912,I 0,.str 1 125,I 3,I 914,I 0,.str 1 125,I 0,I 916,I 0,.str 6 120282512849267,I 0,I 923,I 0,.str 6 133532402673005,I 3,I 929,I 0,.str 1 40,I 0,I 930,I 0,.str 1 115,I 3,I 931,I 0,.str 1 58,I 0,I 933,I 0,.str 3 7630441,I 3,I 937,I 0,.str 1 61,I 2,I 939,I 0,.str 1 48,I 3,I 940,I 0,.str 1 41,I 0,I 942,I 0,.str 7 32199706694346098,I 0,I 950,I 0,.str 1 115,I 3,I 952,I 0,.str 1 123,I 0,I 954,I 0,.str 2 28783,I 0,I 957,I 0,.str 5 435744764535,I 3,I 962,I 0,.str 1 40,I 0,I 963,I 0,.str 1 120,I 3,I 964,I 0,.str 1 58,I 0,I 966,I 0,.str 3 7630441,I 3,I 969,I 0,.str 1 41,I 3,I 971,I 0,.str 1 123,I 0,I 973,I 0,.str 4 1885697139,I 0,I 978,I 0,.str 1 120,I 3,I 979,I 0,.str 1 44,I 2,I 981,I 0,.str 1 48,I 3,I 982,I 0,.str 1 59,I 3,I 984,I 0,.str 1 125,I 0,I 986,I 0,.str 2 28783,I 0,I 989,I 0,.str 4 1684104562,I 3,I 993,I 0,.str 1 40,I 3,I 994,I 0,.str 1 41,I 3,I 996,I 0,.str 1 123,I 0,I 998,I 0,.str 4 1885697139,I 0,I 1003,I 0,.str 1 115,I 3,I 1004,I 0,.str 1 44,I 0,I 1006,I 0,.str 1 115,I 3,I 1007,I 0,.str 1 59,I 3,I 1009,I 0,.str 1 125,I 3,I 1011,I 0,.str 1 125]
def pW:List AV:=[I 4,.str 5 435761280369,I 6,.nils,.nils,I 0,.str 0 0,.nils,I 0,.str 0 0,I 0,.nils,.nils,.nils,I 0,I 0,I 0,.str 0 0,.nils,.nils,.nils,I 0,.nils,.nils,.nils,.nils,I 2,.str 0 0,.sl [I 0,.str 0 0,.nils] 1 3 .any,I 5,.str 0 0,I 0,.nils,.nils,.nils,I 23,.sl [.str 3 7632240,.sl [.str 1 120,I 0,.str 0 0,.nils,I 1,.str 0 0,.nils,.sl [I 0,.str 0 0,I 0,.nils,.nils,.nils,I 56,I 0,.str 0 0,I 2,.nils,.nils,.nils,I 59] 2 7 .any,.nils,I 51,.bool false] 1 11 .any,I 9,.str 1 60,I 0,.nils,.nils,.sl [I 3,.str 4 1702521203,I 0,.nils,.nils,.sl [I 2,.str 1 115,I 0,.nils,.nils,.nils,I 71] 1 7 .any,I 66,I 0,.str 0 0,I 3,.nils,.nils,.nils,I 76] 2 7 .any,I 66,I 3,.str 4 1752397168,I 0,.nils,.nils,.sl [I 2,.str 1 115,I 0,.nils,.nils,.nils,I 88,I 2,.str 1 120,I 0,.nils,.nils,.nils,I 91] 2 7 .any,I 83,I 9,.str 2 15677,I 0,.nils,.nils,.sl [I 2,.str 1 114,I 0,.nils,.nils,.nils,I 99,I 0,.str 0 0,I 0,.nils,.nils,.nils,I 104] 2 7 .any,I 99,.str 3 7628135,.nils,I 9,.str 1 60,I 0,.nils,.nils,.sl [I 0,.str 0 0,I 0,.nils,.nils,.nils,I 125,I 3,.str 4 1702521203,I 0,.nils,.nils,.sl [I 2,.str 1 115,I 0,.nils,.nils,.nils,I 134] 1 7 .any,I 129] 2 7 .any,I 125,I 3,.str 4 1886351972,I 0,.nils,.nils,.sl [I 2,.str 1 115,I 0,.nils,.nils,.nils,I 147,I 0,.str 0 0,I 1,.nils,.nils,.nils,I 150] 2 7 .any,I 142,I 9,.str 2 15677,I 0,.nils,.nils,.sl [I 2,.str 1 114,I 0,.nils,.nils,.nils,I 158,I 3,.str 2 29793,I 0,.nils,.nils,.sl [I 2,.str 1 115,I 0,.nils,.nils,.nils,I 166,I 0,.str 0 0,I 0,.nils,.nils,.nils,I 169] 2 7 .any,I 163] 2 7 .any,I 158] 2 23 .any,.nils,I 0,.str 0 0,I 0,.nils,.nils,.nils,I 0,I 4,.str 7 32199698088816483,I 181,.nils,.nils,I 0,.str 0 0,.nils,I 0,.str 0 0,I 0,.nils,.nils,.nils,I 0,I 0,I 0,.str 0 0,.nils,.nils,.nils,I 0,.nils,.nils,.nils,.nils,I 0,.str 0 0,.nils,I 0,.str 0 0,I 0,.nils,.nils,.nils,I 198,.sl [.str 3 6516329,.nils,I 9,.str 1 60,I 0,.nils,.nils,.sl [I 2,.str 1 115,I 0,.nils,.nils,.nils,I 221,I 0,.str 0 0,I 99,.nils,.nils,.nils,I 225] 2 7 .any,I 221,I 9,.str 1 43,I 0,.nils,.nils,.sl [I 2,.str 1 115,I 0,.nils,.nils,.nils,I 233,I 0,.str 0 0,I 1,.nils,.nils,.nils,I 237] 2 7 .any,I 233,I 9,.str 2 15677,I 0,.nils,.nils,.sl [I 2,.str 1 114,I 0,.nils,.nils,.nils,I 244,I 9,.str 1 43,I 0,.nils,.nils,.sl [I 2,.str 1 115,I 0,.nils,.nils,.nils,I 249,I 0,.str 0 0,I 1,.nils,.nils,.nils,I 253] 2 7 .any,I 249] 2 7 .any,I 244,.str 4 1684104562,.nils,I 1,.str 0 0,I 1,.nils,.nils,.nils,I 275,I 2,.str 1 115,I 0,.nils,.nils,.nils,I 285,I 9,.str 2 15677,I 0,.nils,.nils,.sl [I 2,.str 1 114,I 0,.nils,.nils,.nils,I 292,I 2,.str 1 115,I 0,.nils,.nils,.nils,I 297] 2 7 .any,I 292,.str 3 6579297,.sl [.str 1 121,I 0,.str 0 0,.nils,I 1,.str 0 0,.nils,.sl [I 0,.str 0 0,I 0,.nils,.nils,.nils,I 327,I 0,.str 0 0,I 2,.nils,.nils,.nils,I 330] 2 7 .any,.nils,I 322,.bool false] 1 11 .any,I 1,.str 0 0,I 1,.nils,.nils,.nils,I 337,I 9,.str 1 43,I 0,.nils,.nils,.sl [I 2,.str 1 115,I 0,.nils,.nils,.nils,I 347,I 2,.str 1 121,I 0,.nils,.nils,.nils,I 351] 2 7 .any,I 347,I 9,.str 2 15677,I 0,.nils,.nils,.sl [I 2,.str 1 114,I 0,.nils,.nils,.nils,I 358,I 9,.str 1 43,I 0,.nils,.nils,.sl [I 2,.str 1 115,I 0,.nils,.nils,.nils,I 363,I 2,.str 1 121,I 0,.nils,.nils,.nils,I 367] 2 7 .any,I 363] 2 7 .any,I 358] 3 23 .any,.nils,I 0,.str 0 0,I 0,.nils,.nils,.nils,I 0,I 4,.str 8 8243122732010005874,I 378,.nils,.nils,I 0,.str 0 0,.nils,I 0,.str 0 0,I 0,.nils,.nils,.nils,I 0,I 0,I 0,.str 0 0,.nils,.nils,.nils,I 0,.nils,.nils,.nils,.nils,I 0,.str 0 0,.nils,I 0,.str 0 0,I 0,.nils,.nils,.nils,I 396,.sl [.str 5 435744764535,.sl [.str 1 120,I 0,.str 0 0,.nils,I 1,.str 0 0,.nils,.sl [I 0,.str 0 0,I 0,.nils,.nils,.nils,I 430,I 0,.str 0 0,I 2,.nils,.nils,.nils,I 433] 2 7 .any,.nils,I 425,.bool false] 1 11 .any,I 1,.str 0 0,I 1,.nils,.nils,.nils,I 440,I 2,.str 1 120,I 0,.nils,.nils,.nils,I 450,I 9,.str 2 15677,I 0,.nils,.nils,.sl [I 2,.str 1 114,I 0,.nils,.nils,.nils,I 457,I 0,.str 0 0,I 0,.nils,.nils,.nils,I 462] 2 7 .any,I 457,.str 4 1684104562,.nils,I 1,.str 0 0,I 1,.nils,.nils,.nils,I 484,I 2,.str 1 115,I 0,.nils,.nils,.nils,I 494,I 9,.str 2 15677,I 0,.nils,.nils,.sl [I 2,.str 1 114,I 0,.nils,.nils,.nils,I 501,I 2,.str 1 115,I 0,.nils,.nils,.nils,I 506] 2 7 .any,I 501] 2 23 .any,.nils,I 0,.str 0 0,I 0,.nils,.nils,.nils,I 0,I 5,.str 4 1735289202,I 518,.nils,.nils,I 0,.str 0 0,.nils,I 0,.str 0 0,I 0,.nils,.nils,.nils,I 0,I 0,I 0,.str 0 0,.nils,.nils,.nils,I 0,.nils,.nils,.nils,.nils,I 2,.str 0 0,.sl [I 0,.str 0 0,.nils] 1 3 .any,I 5,.str 0 0,I 0,.nils,.nils,.nils,I 534,.nils,.sl [.str 3 7632240,.sl [.str 1 120,I 0,.str 0 0,.nils] 1 4 .any,.sl [I 3,.str 4 1752397168,I 0,.nils,.nils,.sl [I 2,.str 1 115,I 0,.nils,.nils,.nils,I 578,I 2,.str 1 120,I 0,.nils,.nils,.nils,I 581] 2 7 .any,I 573,I 0,.str 0 0,I 0,.nils,.nils,.nils,I 585] 1 14 .any,.str 3 7628135,.nils,.sl [I 3,.str 4 1886351972,I 0,.nils,.nils,.sl [I 2,.str 1 115,I 0,.nils,.nils,.nils,I 611,I 0,.str 0 0,I 1,.nils,.nils,.nils,I 614] 2 7 .any,I 606,I 3,.str 2 29793,I 0,.nils,.nils,.sl [I 2,.str 1 115,I 0,.nils,.nils,.nils,I 621,I 0,.str 0 0,I 0,.nils,.nils,.nils,I 624] 2 7 .any,I 618] 1 14 .any] 2 3 .any,I 5,.str 0 0,I 0,.nils,.nils,.nils,I 546,I 5,.str 4 1819043171,I 639,.nils,.nils,I 0,.str 0 0,.nils,I 0,.str 0 0,I 0,.nils,.nils,.nils,I 0,I 0,I 0,.str 0 0,.nils,.nils,.nils,I 0,.nils,.nils,.nils,.nils,I 0,.str 0 0,.nils,I 0,.str 0 0,I 0,.nils,.nils,.nils,I 653,.nils,.sl [.str 3 6516329,.nils,.sl [I 9,.str 1 43,I 0,.nils,.nils,.sl [I 2,.str 1 115,I 0,.nils,.nils,.nils,I 684,I 0,.str 0 0,I 1,.nils,.nils,.nils,I 688] 2 7 .any,I 684,I 9,.str 1 43,I 0,.nils,.nils,.sl [I 2,.str 1 115,I 0,.nils,.nils,.nils,I 691,I 0,.str 0 0,I 1,.nils,.nils,.nils,I 695] 2 7 .any,I 691] 1 14 .any,.str 4 1684104562,.nils,.sl [I 2,.str 1 115,I 0,.nils,.nils,.nils,I 717,I 2,.str 1 115,I 0,.nils,.nils,.nils,I 720] 1 14 .any,.str 3 6579297,.sl [.str 1 121,I 0,.str 0 0,.nils] 1 4 .any,.sl [I 9,.str 1 43,I 0,.nils,.nils,.sl [I 2,.str 1 115,I 0,.nils,.nils,.nils,I 747,I 2,.str 1 121,I 0,.nils,.nils,.nils,I 751] 2 7 .any,I 747,I 9,.str 1 43,I 0,.nils,.nils,.sl [I 2,.str 1 115,I 0,.nils,.nils,.nils,I 754,I 2,.str 1 121,I 0,.nils,.nils,.nils,I 758] 2 7 .any,I 754] 1 14 .any] 3 3 .any,I 2,.str 1 115,I 0,.nils,.nils,.nils,I 664,I 5,.str 4 2003790963,I 772,.nils,.nils,I 0,.str 0 0,.nils,I 0,.str 0 0,I 0,.nils,.nils,.nils,I 0,I 0,I 0,.str 0 0,.nils,.nils,.nils,I 0,.nils,.nils,.nils,.nils,I 0,.str 0 0,.nils,I 0,.str 0 0,I 0,.nils,.nils,.nils,I 786,.nils,.sl [.str 3 6516329,.nils,.sl [I 2,.str 1 115,I 0,.nils,.nils,.nils,I 817,I 2,.str 1 115,I 0,.nils,.nils,.nils,I 820,I 9,.str 1 43,I 0,.nils,.nils,.sl [I 2,.str 1 108,I 0,.nils,.nils,.nils,I 828,I 0,.str 0 0,I 1,.nils,.nils,.nils,I 832] 2 7 .any,I 828,I 9,.str 1 43,I 0,.nils,.nils,.sl [I 2,.str 1 108,I 0,.nils,.nils,.nils,I 835,I 0,.str 0 0,I 1,.nils,.nils,.nils,I 839] 2 7 .any,I 835] 2 14 .any,.str 4 1684104562,.nils,.sl [I 2,.str 1 115,I 0,.nils,.nils,.nils,I 861,I 2,.str 1 115,I 0,.nils,.nils,.nils,I 864] 1 14 .any,.str 3 6579297,.sl [.str 1 121,I 0,.str 0 0,.nils] 1 4 .any,.sl [I 2,.str 1 115,I 0,.nils,.nils,.nils,I 891,I 9,.str 1 43,I 0,.nils,.nils,.sl [I 2,.str 1 115,I 0,.nils,.nils,.nils,I 894,I 2,.str 1 121,I 0,.nils,.nils,.nils,I 898] 2 7 .any,I 894,I 2,.str 1 108,I 0,.nils,.nils,.nils,I 906,I 2,.str 1 108,I 0,.nils,.nils,.nils,I 909] 2 14 .any] 3 3 .any,I 2,.str 1 115,I 0,.nils,.nils,.nils,I 797,I 5,.str 6 133532402673005,I 923,.nils,.nils,I 0,.str 0 0,.nils,I 0,.str 0 0,I 0,.nils,.nils,.nils,I 0,I 0,I 0,.str 0 0,.nils,.nils,.nils,I 0,.nils,.nils,.nils,.nils,I 0,.str 0 0,.nils,I 0,.str 0 0,I 0,.nils,.nils,.nils,I 939,.nils,.sl [.str 5 435744764535,.sl [.str 1 120,I 0,.str 0 0,.nils] 1 4 .any,.sl [I 2,.str 1 120,I 0,.nils,.nils,.nils,I 978,I 0,.str 0 0,I 0,.nils,.nils,.nils,I 981] 1 14 .any,.str 4 1684104562,.nils,.sl [I 2,.str 1 115,I 0,.nils,.nils,.nils,I 1003,I 2,.str 1 115,I 0,.nils,.nils,.nils,I 1006] 1 14 .any] 2 3 .any,I 2,.str 1 115,I 0,.nils,.nils,.nils,I 950]
def vMs:AV:=.sl pW 7 45 .any
def vM:AV:=.agg [vMs]
end Ln
