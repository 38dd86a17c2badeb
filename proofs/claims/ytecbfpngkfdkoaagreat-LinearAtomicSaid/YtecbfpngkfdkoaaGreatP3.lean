/- A part of the proof. No condition. -/
import Derived.Test.YtecbfpngkfdkoaaGreatP2
import Derived.Lib.ConvBytes
set_option linter.unusedSimpArgs false
set_option linter.unusedVariables false
set_option linter.unusedSectionVars false
namespace Go.Sx
open Go.RowKit
theorem WW{α:Type}{b:Bool}{x:Option α}{y:α}(h:(bif b then none else x)=some y):b=false∧x=some y:=by
 cases b with
 |false=>exact⟨rfl,h⟩
 |true=>cases h
theorem PW{α:Type}(zs:List α)(hz:0<zs.length):∀(n i:Nat),i<n*zs.length→(List.replicate n zs).flatten[i]?=zs[i%zs.length]?
 |0,i,h=>by simp at h
 |n+1,i,h=>by
  rw[List.replicate_succ,zqk];by_cases hi:i<zs.length
  ·rw[List.getElem?_append_left hi,Nat.mod_eq_of_lt hi]
  ·rw[List.getElem?_append_right (by omega),PW zs hz n (i-zs.length) (by rw[Nat.add_mul]at h;omega)];congr 1;rw[Nat.mod_eq_sub_mod (by omega:zs.length≤i)]
theorem PY{α:Type}(zs:List α)(n:Nat):(List.replicate n zs).flatten.length=n*zs.length:=by
 induction n with
 |zero=>simp
 |succ n ih=>rw[List.replicate_succ,zqk,DG,ih,Nat.add_mul];omega
section
variable{P:Program}{ρ:Nat→Int}{w0:W0}{w:World}{μ:Mu}{G:Key→Option ah}{nx:Nat}{orc:iV}{nt:Nat}{tm:T AV}{H:T ah}{ev:Operand→Value}
theorem Xg{zs:List AV}{z:Array Value}(h:aB ρ μ zs z.toList)(n:Nat) :
  aB ρ μ (List.replicate n zs).flatten ((Array.range (n*z.size)).map (z[· % z.size]!)).toList:=by
 have hlen:zs.length=z.size:=by rw[h.length];simp
 by_cases h0:z.size=0
 ·have:zs=[]:=zqr (by omega);subst this;have e:(List.replicate n ([]:List AV)).flatten=[]:=by simp
  rw[e,h0];simp;exact .nil
 ·refine aB.Ry ?_ ?_
  ·rw[PY];simp[hlen]
  ·intro i a ha;have hi:i<n*zs.length:=by
    rcases KA i (n*zs.length)with h'|h'
    ·exact h'
    ·rw[zqo (by rw[PY];exact h')]at ha;cases ha
   rw[PW zs (by omega) n i hi]at ha;obtain⟨v,hv,hr⟩:=h.get _ a ha;refine⟨v,?_,hr⟩;rw[hlen]at hi hv;have Xv:z[i%z.size]?=some v:=by simpa using hv
   have cQ:i%z.size<z.size:=Nat.mod_lt _ (by omega);simp[hi];rw[getElem!_pos z _ cQ];rw[getElem?_pos z _ cQ]at Xv;simpa using Xv
theorem agQ{L:List AV}{vs:Array Value}(h:aB ρ μ L vs.toList)(c:Nat)(elem:TypeId):Mz P ρ μ (.cells L .fix) ⟨c,0,vs.size⟩ (.cells vs elem (0,0)):=by
 have hl:L.length=vs.size:=by rw[h.length];simp
 refine .cells L .fix _ vs elem (0,0) ?_ (by simp) (Nat.le_of_eq hl) (fun _=>rfl) (fun _ _=>hl);intro i a ha;obtain⟨v,hv,hr⟩:=h.get i a ha;exact⟨v,by simpa using hv,hr⟩
theorem me(elem:TypeId)(cells:Array Value):(newRow elem cells).run P w=.ok ⟨w.heap.size,0,none⟩ (w.alloc (.cells cells elem)):=rfl
theorem wrap_small(n:Nat)(hn:n≤1048576):IntKind.i64.wrap (n:Int)=n:=by
 rw[←eK];have hm:Int.emod (n:Int) 18446744073709551616=n:=by show(n:Int)%18446744073709551616=n;omega
 have cQ:Wm (n:Int) 9223372036854775808=true:=by rw[Oz,decide_eq_true_eq];omega
 simp only[bD,full,half,hm,cQ,cond_true]
def Made(P:Program)(ρ:Nat→Int)(w0:W0)(μ:Mu)(G:Key→Option ah)(w:World)(o:Oper)(ev:Operand→Value)(a:AV)(k:Key)(B:ah)(nx':Nat):Prop:=
 ∃v w' l,(Go.execOp ev o).run P w=.ok (.value v) w'∧μ.le (μ.put k l)∧bB P ρ w0 (μ.put k l) (kn G k (some B)) nx' w'∧aX ρ (μ.put k l) a v
theorem Ni(hM:bB P ρ w0 μ G nx w){k:Key}(hk:μ k=none){nx':Nat}(hn:nx≤nx')(Nv:k.toNat<nx'){L:List AV}{vs:Array Value}(hL:aB ρ μ L vs.toList)(elem:TypeId) :
  μ.le (μ.put k ⟨w.heap.size,0,vs.size⟩)∧bB P ρ w0 (μ.put k ⟨w.heap.size,0,vs.size⟩) (kn G k (some (.cells L .fix))) nx' (w.alloc (.cells vs elem)):=by
 have hle:μ.le (μ.put k ⟨w.heap.size,0,vs.size⟩):=Mu.G9 (.inl hk);exact hM.alloc k (.cells L .fix) (.cells vs elem) vs.size hk (agQ (hL.mono hle) _ _) hn Nv
theorem PB(hM:bB P ρ w0 μ G nx w){o:Oper}{op:Lr}(hp:jJ P nt o=some op)
  (hE:Co P ρ μ nt o.op.operands.toList tm ev) {f:Key→AV} {B:ah} (hl:allocOp op tm=some (f,B)) {k:Key} (hk:μ k=none) {nx':Nat} (hn:nx≤nx') (Nv:k.toNat<nx') :
  Made P ρ w0 μ G w o ev (f k) k B nx':=by
 obtain⟨dst,Ir,ty,pos,after,guard⟩:=o;cases Ir with
 |alloc t=>
  simp only[jJ]at hp;split at hp
  ·rename_i ti hti;obtain⟨i,d,z,hi,hd,hz,Yy,yw,Rz⟩:=kq hti;cases hp;simp only[allocOp,dP,Prod.mk.injEq]at hl;obtain⟨rfl,rfl⟩:=hl;have hzr:aB ρ μ ti.zero.cells z.cells.toList:=(iE wN z ti.zero Yy).cells;obtain⟨h1,h2⟩:=Ni hM hk hn Nv hzr t;refine⟨.pointer (some ⟨w.heap.size,0,none⟩),w.alloc (.cells z.cells t),_,?_,h1,h2,.ptr _ _ _ _ (Mu.eL _ _ _) rfl⟩;simp only[Go.execOp];refine fN ?_;simp[Instr.alloc,qc hi hz,newVar,me]
  ·cases hp
 |box t x=>
  obtain⟨px,hx,rfl⟩:=map_some hp;simp only[allocOp]at hl;split at hl
  ·rename_i u hu;simp only[dP,Prod.mk.injEq]at hl;obtain⟨rfl,rfl⟩:=hl;have hv:=(hE x (by simp[Op.operands]) px u hx hu).cells;obtain⟨h1,h2⟩:=Ni hM hk hn Nv hv t;refine⟨.pointer (some ⟨w.heap.size,0,none⟩),w.alloc (.cells (ev x).cells t),_,?_,h1,h2,.ptr _ _ _ _ (Mu.eL _ _ _) rfl⟩;simp only[Go.execOp];refine fN ?_;simp[Instr.box,newVar,me]
  ·cases hl
 |buildSlice t len parts=>
  simp only[jJ]at hp;split at hp
  ·rename_i e hu;split at hp
   ·rename_i ie Qu;obtain⟨i,d,z,hi,hd,hz,Yy,yw,Rz⟩:=kq Qu;replace hp:=aU hp;obtain⟨hc,hp⟩:=hp;simp only[jq,Nat.ble_eq,bltN_eq,decide_eq_true_eq]at hc;have hzl:=o5 hc.2;split at hp
    ·rename_i ps hps;cases hp;simp only[allocOp]at hl;split at hl
     ·rename_i cs Oc;simp only[dP,Prod.mk.injEq]at hl;obtain⟨rfl,rfl⟩:=hl;have hzr:aB ρ μ ie.zero.cells z.cells.toList:=(iE wN z ie.zero Yy).cells;have hzs:z.cells.size=i.size:=by rw[←yw,←hzl,hzr.length];simp
      have ayj:=Xg hzr len;rw[repL_eq,List.append_nil]at Oc;have IS:∀y∈parts.toList.map (·.2),y∈(Op.buildSlice t len parts).operands.toList:=by intro y hy;simpa[Op.operands]using hy
      obtain⟨vs',hf,hr⟩:=Bp (vs:=(Array.range (len*z.cells.size)).map (z.cells[· % z.cells.size]!)) hps Oc (hE.sub IS) ayj;obtain⟨h1,h2⟩:=Ni hM hk hn Nv hr e;have hvl:vs'.size=len*ie.size:=by
       have hlen:∀(place:Nat→Option (Nat×Nat)) (l:List (Nat×Value)) (a b:Array Value),Instr.fill place a l=some b→b.size=a.size:=by
        intro place l
        induction l with
        |nil=>intro a b h;simp only[Instr.fill,dP]at h;rw[h]
        |cons x l ih=>
         obtain⟨i,v⟩:=x;intro a b h;simp only[Instr.fill]at h;split at h
         ·cases h
         ·split at h
          ·cases h
          ·rw[ih _ _ h];rw[←Array.foldl_toList];have hf:∀(l:List (Value×Nat)) (a:Array Value) (off:Nat),(l.foldl (fun(cs:Array Value) (p:Value×Nat)=>cs.setIfInBounds (off+p.2) p.1) a).size=a.size:=by
            intro l
            induction l with
            |nil=>intros;rfl
            |cons x l ih=>intro a off;rw[List.foldl_cons,ih];simp
           exact hf _ _ _
       rw[hlen _ _ _ _ hf];simp[hzs,yw]
      refine⟨.slice (some ⟨w.heap.size,0,none⟩) len len,w.alloc (.cells vs' e),_,?_,h1,h2,?_⟩
      ·simp only[Go.execOp];refine fN ?_;have Oo:(parts.map fun(i,x)=>(i,ev x)).toList=parts.toList.map fun(i,x)=>(i,ev x):=by simp
       have hle:¬(len*i.size>2^24):=by rw[←yw];omega
       simp only[Instr.buildSlice,sJ,az hu,o4,bG hi,if_neg hle];by_cases h0:len*i.size=0
       ·have aC5:len=0:=by
         rcases Nat.mul_eq_zero.1 h0 with h|h
         ·exact h
         ·omega
        subst aC5;have:(Array.range (0*z.cells.size)).map (z.cells[· % z.cells.size]!)=#[]:=by simp
        rw[this]at hf;simp only[h0,if_true,sJ,xA,o4];rw[Oo];have e0:(Array.map (fun x=>(#[]:Array Value)[x%(#[]:Array Value).size]!) (Array.range 0))=#[]:=by simp
        rw[e0,←yw,hf];simp[me]
       ·simp only[h0,if_false,sJ,qc hi hz,o4,xA];rw[Oo];rw[hzs]at hf;rw[←yw]at hf ⊢;rw[hzs,←yw,hf];simp[me]
      ·refine .slice k 0 len ie.size len _ _ (Mu.eL _ _ _) (by simp[hvl]) (fE _) (.inr rfl)
     ·cases hl
    ·cases hp
   ·cases hp
  ·cases hp
 |makeMap t r=>
  cases r with
  |some r=>simp[jJ]at hp
  |none=>simp only[jJ,dP]at hp;subst hp;simp only[allocOp,dP,Prod.mk.injEq]at hl;obtain⟨rfl,rfl⟩:=hl;obtain⟨h1,h2⟩:=hM.alloc k (.map []) (.map #[] 0) 0 hk (.map _ _ _ _ trivial) hn Nv;refine⟨.map (some w.heap.size),w.alloc (.map #[] 0),_,?_,h1,h2,.map _ _ _ (Mu.eL _ _ _) rfl⟩;simp[Go.execOp,Instr.makeMap]
 |makeSlice t l c=>
  simp only[jJ]at hp;split at hp
  ·rename_i e hu;split at hp
   ·rename_i ie pl pc Qu xz hpc;obtain⟨i,d,z,hi,hd,hz,Yy,yw,Rz⟩:=kq Qu;split at hp
    ·rename_i i' Vr;rw[hi]at Vr;cases Vr;replace hp:=aU hp;obtain⟨hc,hp⟩:=hp;simp only[jq,Nat.ble_eq,bltN_eq,decide_eq_true_eq]at hc;have hzl:=o5 hc.1.2;cases hp;simp only[allocOp]at hl;split at hl
     ·rename_i va vc ha Nt;split at hl
      ·rename_i nl nc hnl hnc;replace hl:=aU hl;obtain⟨hlc,hl⟩:=hl;simp only[jq,Nat.ble_eq]at hlc;simp only[dP,Prod.mk.injEq]at hl;obtain⟨rfl,rfl⟩:=hl;obtain⟨k1,e1⟩:=iQ hnl (hE l (by simp[Op.operands]) pl _ xz ha);obtain⟨k2,e2⟩:=iQ hnc (hE c (by simp[Op.operands]) pc _ hpc Nt);have hzr:aB ρ μ ie.zero.cells z.cells.toList:=(iE wN z ie.zero Yy).cells;have hzs:z.cells.size=i.size:=by rw[←yw,←hzl,hzr.length];simp
       have ayj:=Xg hzr nc;rw[repL_eq,List.append_nil];obtain⟨h1,h2⟩:=Ni hM hk hn Nv ayj e;have hwr:∀n:Nat,n≤1048576→IntKind.i64.wrap (n:Int)=n:=fun n hn=>wrap_small n hn;refine⟨.slice (some ⟨w.heap.size,0,none⟩) nl nc,w.alloc (.cells ((Array.range (nc*z.cells.size)).map (z.cells[· % z.cells.size]!)) e),_,?_,h1,h2,?_⟩
       ·simp only[Go.execOp];refine fN ?_;have hb:i.bytes*nc≤65536*1048576:=Nat.mul_le_mul hc.2 hlc.2;have fF:¬((i.bytes:Int)*(nc:Int)>2^48):=by
         have:((i.bytes*nc:Nat):Int)≤((65536*1048576:Nat):Int):=by exact_mod_cast hb
         have e:((i.bytes*nc:Nat):Int)=(i.bytes:Int)*(nc:Int):=by simp
         rw[←e];omega
        have aAN:¬((nc:Int)<0):=by omega
        have aC6:¬((nl:Int)<0):=by omega
        have Pt:¬((nl:Int)>(nc:Int)):=by omega
        simp only[e1,e2,Instr.makeSlice,sJ,az hu,o4,asInt,asIntOf,xA,kD hi,hwr nl (by omega),hwr nc (by omega),decide_eq_false aAN,decide_eq_false fF,decide_eq_false aC6,decide_eq_false Pt,Bool.or_self,Wh,if_false,run_askRoom,Int.toNat_natCast,bG hi];by_cases h0:nc*i.size=0
        ·have aK7:nc=0:=by
          rcases Nat.mul_eq_zero.1 h0 with h|h
          ·exact h
          ·omega
         subst aK7;simp only[h0,if_true,sJ,xA,o4,me];have e0:(Array.map (fun x=>(#[]:Array Value)[x%(#[]:Array Value).size]!) (Array.range 0))=#[]:=by simp
         have e1:(Array.map (fun x=>z.cells[x%z.cells.size]!) (Array.range (0*z.cells.size)))=#[]:=by simp
         rw[e0,e1]
        ·simp only[h0,if_false,sJ,qc hi hz,o4,xA];simp[me,hzs]
       ·refine .slice k 0 nl ie.size nc _ _ (Mu.eL _ _ _) ?_ (by omega) (.inr rfl);simp[hzs,yw]
      ·cases hl
     ·cases hl
    ·cases hp
   ·cases hp
  ·cases hp
 |move x=>obtain⟨px,hx,rfl⟩:=map_some hp;simp[allocOp]at hl
 |assign x=>obtain⟨px,hx,rfl⟩:=map_some hp;simp[allocOp]at hl
 |nilCheck x=>obtain⟨px,hx,rfl⟩:=map_some hp;simp[allocOp]at hl
 |unOp uop t x=>obtain⟨px,hx,rfl⟩:=map_some hp;simp[allocOp]at hl
 |panic x=>obtain⟨px,hx,rfl⟩:=map_some hp;simp[allocOp]at hl
 |makeFunc fn first cap=>
  exfalso;cases fn<;>simp only[jJ]at hp
  all_goals repeat' (first|(cases hp;done)|split at hp)
  all_goals (cases hp;simp[allocOp]at hl;done)
 |slice t x lo hi mx=>
  exfalso;cases mx<;>simp only[jJ]at hp
  all_goals repeat' (first|(cases hp;done)|(replace hp:=aU hp;replace hp:=hp.2)|split at hp)
  all_goals (cases hp;simp[allocOp]at hl;done)
 |_=>
  exfalso;simp only[jJ]at hp
  repeat' (first|(cases hp;done)|(replace hp:=aU hp;replace hp:=hp.2)|(replace hp:=WW hp;replace hp:=hp.2)|split at hp)
  all_goals first
   |(cases hp;simp[allocOp]at hl;done)
   |(obtain⟨px,hx,rfl⟩:=map_some hp;simp[allocOp]at hl;done)
   |skip
end
section
variable{P:Program}{ρ:Nat→Int}{w0:W0}{w:World}{μ:Mu}{G:Key→Option ah}{nx:Key}{orc:iV}{nt:Nat}{tm:T AV}{H:T ah}{ev:Operand→Value}
def Next.rel(ρ:Nat→Int)(μ:Mu)(a:AV):Next→Prop
 |.value v=>aX ρ μ a v
 |.skip=>a=.tuple []
 |_=>False
structure Kept(H H':T ah)(nx nx':Key)(μ μ':Mu)(G G':Key→Option ah):Prop where
 g:∀b,ag b H=none→b.toNat<nx.toNat→G' b=G b
 m:∀b,b.toNat<nx.toNat→μ' b=μ b
 h:∀b,ag b H=none→b.toNat<nx.toNat→ag b H'=none
 n:nx.toNat≤nx'.toNat
theorem Kept.refl(H:T ah)(nx:Key)(μ:Mu)(G:Key→Option ah):Kept H H nx nx μ μ G G:=⟨fun _ _ _=>rfl,fun _ _=>rfl,fun _ h _=>h,fE _⟩
theorem Kept.trans{H1 H2 H3:T ah}{n1 n2 n3:Key}{m1 m2 m3:Mu}{G1 G2 G3:Key→Option ah}(a:Kept H1 H2 n1 n2 m1 m2 G1 G2)(b:Kept H2 H3 n2 n3 m2 m3 G2 G3):Kept H1 H3 n1 n3 m1 m3 G1 G3:=
 ⟨fun k hk hl=>(b.g k (a.h k hk hl) (O5 hl a.n)).trans (a.g k hk hl),fun k hl=>(b.m k (O5 hl a.n)).trans (a.m k hl),
  fun k hk hl=>b.h k (a.h k hk hl) (O5 hl a.n),Nat.le_trans a.n b.n⟩
def Oy(P:Program)(ρ:Nat→Int)(w0:W0)(μ:Mu)(G:Key→Option ah)(H:T ah)(nx:Key)(w:World)(s:Sem Next)(a:AV)(H':T ah)(nx':Key):Prop:=
 ∃n w' μ' G',s.run P w=.ok n w'∧Next.rel ρ μ' a n∧μ.le μ'∧bB P ρ w0 μ' G' nx'.toNat w'∧HSub H' G'∧Kept H H' nx nx' μ μ' G G'
theorem bB.uZ(hM:bB P ρ w0 μ G nx.toNat w):μ nx=none:=by
 cases h:μ nx with
 |none=>rfl
 |some l=>exact absurd (hM.new nx l h) (Nat.lt_irrefl _)
theorem aeL{s:Sem Next}{v:Value}{a:AV}(hM:bB P ρ w0 μ G nx.toNat w)(hH:HSub H G)(h:s.run P w=.ok (.value v) w)(hr:aX ρ μ a v):Oy P ρ w0 μ G H nx w s a H nx:=
 ⟨_,w,μ,G,h,hr,μ.le_refl,hM,hH,Kept.refl _ _ _ _⟩
theorem ar8{f:Key→AV}{B:ah}{a:AV}{H':T ah}{nx':Key}(h:newB f B H nx=.val a H' nx'):a=f nx∧H'=aw nx (some B) H∧nx'=nx.succ:=by simp only[newB,sTCe,OR.val.injEq]at h;exact⟨h.1.symm,h.2.1.symm,h.2.2.symm⟩
theorem ne_of_lt{b:Key}(h:b.toNat<nx.toNat):b≠nx:=by intro e;subst e;exact absurd h (Nat.lt_irrefl _)
theorem Iq(l:Loc)(B B':Option ah):Kept H (aw nx B' H) nx nx.succ μ (μ.put nx l) G (kn G nx B):=by have hs:=kTSu nx;exact⟨fun b _ hl=>bN _ _ (ne_of_lt hl),fun b hl=>bN _ _ (ne_of_lt hl),fun b hb hl=>by rw[aP _ _ _ _ (ne_of_lt hl)];exact hb,by omega⟩
theorem aeM(hM:bB P ρ w0 μ G nx.toNat w)(hH:HSub H G){o:Oper}{op:Lr}(hp:jJ P nt o=some op)(hE:Co P ρ μ nt o.op.operands.toList tm ev)
  {f:Key→AV} {B:ah} (hl:allocOp op tm=some (f,B)):Oy P ρ w0 μ G H nx w (Go.execOp ev o) (f nx) (aw nx (some B) H) nx.succ:=by
 have hs:=kTSu nx;obtain⟨v,w',l,h1,h2,h3,h4⟩:=PB hM hp hE hl (hM.uZ) (nx':=nx.succ.toNat) (by omega) (by omega);exact⟨.value v,w',_,_,h1,h4,h2,h3,hH.set nx (some B),Iq _ _ _⟩
theorem ahk(hM:bB P ρ w0 μ G nx.toNat w){b:Key}{L:List AV}{ck:CK}(hb:G b=some (.cells L ck))(LQ:ck≠.ro)(hrp:ck≠.rop){l:Loc}(hl:μ b=some l){off:Nat}{vs:List AV}{us:List Value}
  (hv:aB ρ μ vs us) (ng:∀u∈us,u.oneCell'=true) (hle:off+vs.length≤L.length) :
  ∃w',(storeCells ⟨l.c,l.base+off,none⟩ us).run P w=.ok () w'∧μ.le (μ.put b l)∧bB P ρ w0 (μ.put b l) (kn G b (some (.cells (L.take off++vs++L.drop (off+vs.length)) ck))) nx.toNat w':=by
 obtain⟨l',arr,elem,fz,h1,h2,hc,hs,hlen,hf,he⟩:=hM.cells hb;rw[hl]at h1;cases h1;have Yl:=hf LQ;subst Yl;have hvl:=hv.length;obtain⟨w',e1,e2,e3,e4⟩:=qP P l.c (l.base+off) elem us 0 w arr h2 (by omega) ng;have tY:w0.heap.size≤l.c:=(hM.own b _ l hb hl).resolve_left (by cases ck<;>simp[ah.ro]at LQ ⊢);have aeg:μ.le (μ.put b l):=Mu.G9 (.inr hl);have lV:(ah.cells L ck).lo l=some 0:=by cases ck<;>first|rfl|exact absurd rfl LQ|exact absurd rfl hrp
 refine⟨w',e1,hM.put b _ l _ (.inr hl) e2 e4 ?_ (fun b' B' l' g m ne=>hM.sep b' b B' _ l' l g hb m hl ne) tY (fE _) (hM.new b l hl) (hM.lo0 hb hl lV)⟩;refine .cells _ ck l _ elem (0,0) ?_ (by rw[oa];exact hs) (by simp;omega) (fun _=>rfl) (fun hk ZF=>by have:=he hk ZF;simp;omega);intro i a ha;rw[jZ us arr _ _ (by omega)];by_cases h1:i<off
 ·rw[if_neg (by omega)];rw[List.append_assoc,List.getElem?_append_left (by simp;omega),List.getElem?_take_of_lt h1]at ha;obtain⟨v,Xv,hr⟩:=hc i a ha;exact⟨v,Xv,hr.mono aeg⟩
 ·by_cases h2:i<off+vs.length
  ·rw[if_pos (by omega)];rw[List.append_assoc,List.getElem?_append_right (by simp;omega),List.getElem?_append_left (by simp;omega)]at ha;have e:i-(L.take off).length=i-off:=by simp;omega
   rw[e]at ha;obtain⟨v,Xv,hr⟩:=hv.get _ a ha;refine⟨v,?_,hr.mono aeg⟩;rw[←Xv];congr 1;omega
  ·rw[if_neg (by omega)];rw[List.getElem?_append_right (by simp;omega),List.getElem?_drop]at ha;have e:off+vs.length+(i-(L.take off++vs).length)=i:=by simp;omega
   rw[e]at ha;obtain⟨v,Xv,hr⟩:=hc i a ha;exact⟨v,Xv,hr.mono aeg⟩
theorem DM{vs:List AV}{us:List Value}(hv:aB ρ μ vs us)(h:vs.all AV.aM=true):∀u∈us,u.oneCell'=true:=by
 induction vs generalizing us with
 |nil=>cases hv;simp
 |cons a vs ih=>
  cases hv with|cons _ _ u us h1 h2=>
  simp only[List.all_cons,jq]at h;intro x hx;cases hx with
  |head=>have:=h1.aqX h.1;cases u<;>simp_all [Value.oneCell']
  |tail _ hx=>exact ih h2 h.2 x hx
theorem Cy{b:Key}{B:ah}(hb:ag b H=some B){l:Loc}(hl:μ b=some l)(x y:Option ah):Kept H (aw b y H) nx nx μ (μ.put b l) G (kn G b x):=by
 have ne:∀b',ag b' H=none→b'≠b:=by intro b' h e;subst e;rw[hb]at h;cases h
 refine⟨fun b' h _=>bN _ _ (ne b' h),fun b' _=>?_,fun b' h _=>by rw[aP _ _ _ _ (ne b' h)];exact h,fE _⟩;by_cases h:b'=b
 ·subst h;rw[Mu.eL,hl]
 ·exact Mu.wZ _ _ h
def Shape(P:Program)(nt:Nat)(Ir:Op):Lr→Prop
 |.store n pa pv=>∃t x v i,Ir=.store t x v∧P.info? t=some i∧n=i.size∧pX P nt x=some pa∧pX P nt v=some pv
 |.mapupd sk pm pk pv=>∃t m k v kt e kd,(Ir=.mapUpdate t m k v∨Ir=.insert t m k v)∧P.underlying t=some (.map kt e)∧Ec P kt sk kd∧pX P nt m=some pm∧pX P nt k=some pk∧pX P nt v=some pv
 |.strb px=>∃src dst x e,Ir=.convert src dst x∧P.underlying src=some .string∧P.underlying dst=some (.slice e)∧P.underlying e=some (.int .u8)∧pX P nt x=some px
 |.append sz ps px=>∃c s x t u e i ie,Ir=.call c∧c.callee=.builtin .append∧c.args=#[s,x]∧c.argTypes=#[t,u]∧P.underlying t=some (.slice e)∧((∃e',P.underlying u=some (.slice e'))∨P.underlying u=some .string)∧
   tyI P e=some ie∧P.info? e=some i∧sz=ie.size∧0<ie.size∧ie.zero.cells.length=ie.size∧i.bytes≤65536∧pX P nt s=some ps∧pX P nt x=some px
 | .callF f l => ∃ c fn, Ir = .call c ∧ c.callee = .value (.func f) ∧ Rh P nt c.args.toList = some l ∧ P.funcs[f]? = some fn ∧ fn.body.isSome = true ∧ fn.name ≠ "runtime.NumGoroutine"
 |.callV v l=>∃c x,Ir=.call c∧c.callee=.value x∧pX P nt x=some v∧Rh P nt c.args.toList=some l
 |.dfr v l=>∃c x,Ir=.defer c∧c.callee=.value x∧pX P nt x=some v∧Rh P nt c.args.toList=some l
 |.panic px=>∃x,Ir=.panic x∧pX P nt x=some px
 |.recover=>∃c,Ir=.call c∧c.callee=.builtin .recover∧c.args=#[]
 |_=>True
theorem ar9{xs:List Operand}(h:Rh P nt xs=some []):xs=[]:=by
 cases xs with
 |nil=>rfl
 |cons x xs=>simp only[Rh]at h;split at h<;>cases h
theorem kH{o:Oper}{op:Lr}(hp:jJ P nt o=some op):Shape P nt o.op op:=by
 obtain⟨dst,Ir,ty,pos,after,guard⟩:=o;cases Ir with
 |move x=>obtain⟨px,hx,rfl⟩:=map_some hp;trivial
 |assign x=>obtain⟨px,hx,rfl⟩:=map_some hp;trivial
 |nilCheck x=>obtain⟨px,hx,rfl⟩:=map_some hp;trivial
 |unOp uop t x=>obtain⟨px,hx,rfl⟩:=map_some hp;trivial
 |box t x=>obtain⟨px,hx,rfl⟩:=map_some hp;trivial
 |panic x=>obtain⟨px,hx,rfl⟩:=map_some hp;exact⟨x,rfl,hx⟩
 |makeMap t r=>cases r<;>simp only[jJ,dP]at hp<;>first|(cases hp;done)|(subst hp;trivial)
 |makeFunc fn first cap=>
  cases fn<;>simp only[jJ]at hp
  all_goals repeat' (first|(cases hp;done)|split at hp)
  all_goals (cases hp;trivial)
 |slice t x lo hi mx=>
  cases mx<;>simp only[jJ]at hp
  all_goals repeat' (first|(cases hp;done)|(replace hp:=aU hp;replace hp:=hp.2)|split at hp)
  all_goals (cases hp;trivial)
 |makeInterface t x=>
  simp only[jJ]at hp;split at hp
  ·cases hp
  ·cases hp
  ·obtain⟨px,hx,rfl⟩:=map_some hp;trivial
 |store t x v=>
  simp only[jJ]at hp;split at hp
  ·rename_i i px pv' h1 h2 h3;simp only[dP]at hp;subst hp;exact⟨t,x,v,i,rfl,h1,rfl,h2,h3⟩
  ·cases hp
 |mapUpdate t m k v=>
  simp only[jJ]at hp;split at hp
  ·rename_i kt e hu;split at hp
   ·cases hp;exact⟨t,m,k,v,kt,e,_,.inl rfl,hu,⟨‹_›,by simp⟩,‹_›,‹_›,‹_›⟩
   ·cases hp;exact⟨t,m,k,v,kt,e,_,.inl rfl,hu,⟨‹_›,by simp⟩,‹_›,‹_›,‹_›⟩
   ·cases hp
  ·cases hp
 |insert t m k v=>
  simp only[jJ]at hp;split at hp
  ·rename_i kt e hu;split at hp
   ·cases hp;exact⟨t,m,k,v,kt,e,_,.inr rfl,hu,⟨‹_›,by simp⟩,‹_›,‹_›,‹_›⟩
   ·cases hp;exact⟨t,m,k,v,kt,e,_,.inr rfl,hu,⟨‹_›,by simp⟩,‹_›,‹_›,‹_›⟩
   ·cases hp
  ·cases hp
 |defer c=>
  simp only[jJ]at hp;split at hp
  ·rename_i x hc;split at hp
   ·cases hp;exact⟨c,x,rfl,hc,‹_›,‹_›⟩
   ·cases hp
  ·cases hp
 |call c=>
  simp only[jJ]at hp;split at hp
  ·rename_i f hc;split at hp
   ·rename_i l fn h1 h2;replace hp:=aU hp;obtain⟨hb,hp⟩:=hp;cases hp;simp only[jq,Bool.not_eq_true',beq_eq_false_iff_ne]at hb;exact⟨c,fn,rfl,hc,h1,h2,hb.1,hb.2⟩
   ·cases hp
  ·rename_i x bW hc;split at hp
   ·cases hp;exact⟨c,x,rfl,hc,‹_›,‹_›⟩
   ·cases hp
  ·cases hp
  ·rename_i b hc;split at hp
   ·split at hp
    ·split at hp
     all_goals first|(cases hp;done)|(cases hp;trivial)
    ·cases hp
   ·rename_i ps px dI;obtain⟨s,x,e1,h1,h2⟩:=ahQ dI;have Gi:c.args=#[s,x]:=by apply Array.ext';simpa using e1
    split at hp
    ·rename_i t u hty;have arQ:c.argTypes=#[t,u]:=by apply Array.ext';simpa using hty
     split at hp
     ·rename_i e e' hu hu';split at hp
      ·rename_i ie i Qu hi;replace hp:=aU hp;obtain⟨hb,hp⟩:=hp;cases hp;simp only[jq,Nat.ble_eq,bltN_eq,decide_eq_true_eq]at hb;exact⟨c,s,x,t,u,e,i,ie,rfl,hc,Gi,arQ,hu,.inl ⟨_,hu'⟩,Qu,hi,rfl,hb.1.1,o5 hb.1.2,hb.2,h1,h2⟩
      ·cases hp
     ·rename_i e hu hu';split at hp
      ·rename_i ie i Qu hi;replace hp:=aU hp;obtain⟨hb,hp⟩:=hp;cases hp;simp only[jq,Nat.ble_eq,bltN_eq,decide_eq_true_eq]at hb;exact⟨c,s,x,t,u,e,i,ie,rfl,hc,Gi,arQ,hu,.inr hu',Qu,hi,rfl,hb.1.1,o5 hb.1.2,hb.2,h1,h2⟩
      ·cases hp
     ·cases hp
    ·cases hp
   ·cases hp;trivial
   ·cases hp;trivial
   ·rename_i dI;cases hp;exact⟨c,rfl,hc,by apply Array.ext';simpa using ar9 dI⟩
   ·cases hp
 |convert src aJ0 x=>
  simp only[jJ]at hp;split at hp
  ·cases hp;trivial
  ·split at hp
   ·cases hp;exact⟨src,aJ0,x,_,rfl,‹_›,‹_›,‹_›,‹_›⟩
   ·cases hp
  ·cases hp
 |_=>
  simp only[jJ]at hp
  repeat' (first|(cases hp;done)|(replace hp:=aU hp;replace hp:=hp.2)|(replace hp:=WW hp;replace hp:=hp.2)|split at hp)
  all_goals (cases hp;trivial)
theorem abN(hM:bB P ρ w0 μ G nx.toNat w)(hH:HSub H G){o:Oper}{n:Nat}{pa pv:PX}(hp:jJ P nt o=some (.store n pa pv))(hE:Co P ρ μ nt o.op.operands.toList tm ev)
  {a:AV} {H':T ah} {nx':Key} (h:aOp orc (.store n pa pv) tm H nx=.val a H' nx'):Oy P ρ w0 μ G H nx w (Go.execOp ev o) a H' nx':=by
 obtain⟨dst,Ir,ty,pos,after,guard⟩:=o;obtain⟨t,x,v,i,e0,hi,rfl,hx,hv⟩:=kH hp;simp only at e0;subst e0;simp only[aOp]at h;split at h
 ·rename_i b off u hpa hpv;cases hc:(Nat.beq (lenL u.cells) i.size&&u.cells.all AV.aM)with
  |false=>rw[hc]at h;cases h
  |true=>
   rw[hc]at h;simp only[cond_true]at h;simp only[jq]at hc;have yw:=o5 hc.1;rw[lenL_eq]at yw;have hrv:=hE v (by simp[Op.operands]) pv u hv hpv;have hra:=hE x (by simp[Op.operands]) pa _ hx hpa;have main:∀(L:List AV) (ck:CK),ag b H=some (.cells L ck)→ck≠.ro→ck≠.rop→
     aag u.cells off L (OR.bad 4) (fun l=>yL b (some (.cells l ck)) H fun h=>.val (.tuple []) h nx)=.val a H' nx'→Oy P ρ w0 μ G H nx w (Go.execOp ev ⟨dst,.store t x v,ty,pos,after,guard⟩) a H' nx':=by
    intro L ck hL LQ hrp h;rw[putC_eq]at h;split at h
    ·rename_i hle;rw[sTCe]at h;simp only[OR.val.injEq]at h;obtain⟨rfl,rfl,rfl⟩:=h;generalize pg:ev x=xx at hra;cases hra with|ptr _ _ l ad hm qO=>
     subst qO;obtain⟨w',e1,e2,e3⟩:=ahk hM (hH _ _ hL) LQ hrp hm hrv.cells (DM hrv.cells hc.2) hle;refine⟨.skip,w',_,_,?_,rfl,e2,e3,hH.set b _,Cy hL hm _ _⟩;have SX:(ev v).cells.size=i.size:=by rw[←yw,hrv.cells.length];simp
     simp[Go.execOp,pg,Instr.storeAt,Instr.sureAddr,storeVar,bG hi,SX,e1]
    ·cases h
   split at h
   ·cases h
   ·cases h
   ·rename_i L ck bW amA hL;exact main L ck hL (fun e=>bW e) (fun e=>amA e) h
   ·cases h
 ·cases h
end
section
variable{P:Program}{ρ:Nat→Int}{w0:W0}{w:World}{μ:Mu}{G:Key→Option ah}{nx:Key}{orc:iV}{nt:Nat}{tm:T AV}{H:T ah}{ev:Operand→Value}
theorem Uc(ho:fk ρ orc){kt:TypeId}{kd:TypeDesc}{sk:Bool}(hu:Ec P kt sk kd){k u:AV}{x v:Value}(hx:aX ρ μ k x)(hv:aX ρ μ u v) :
  ∀{l r:List (AV×AV)} {es:List MapEntry} (i:Nat),Be ρ μ l es→setK orc sk k u l=some r→
   (Instr.findNow kd x es i=some none∧∀b,Be ρ μ r (es ++ [⟨x,v,b⟩]))∨
   (∃j e,Instr.findNow kd x es i=some (some (i+j,e.val))∧es[j]?=some e∧Instr.sameNow kd x e.key=some true∧Be ρ μ r (es.set j {e with key:=x,val:=v}))
 | [],r,[],i,hp,h=>by simp only[setK,dP]at h;subst h;exact .inl ⟨rfl,fun b=>⟨hx,hv,trivial⟩⟩
 | [],_,_ ::_,i,hp,h=>hp.elim
 |(_,_) ::_,_,[],i,hp,h=>hp.elim
 |(a,c) ::l,r,e ::es,i,hp,h=>by
  obtain⟨h1,h2,h3⟩:=hp;simp only[setK]at h;split at h
  ·rename_i hk;cases h;have hs:=By ho hu hx h1 hk;exact .inr ⟨0,e,by simp[Instr.findNow,hs],by simp,hs,⟨hx,hv,h3⟩⟩
  ·rename_i hk;have hs:=By ho hu hx h1 hk;split at h
   ·rename_i r' hr';cases h;rcases Uc ho hu hx hv (i+1) h3 hr' with⟨f,g⟩|⟨j,e',f,g1,g2,g3⟩
    ·exact .inl ⟨by simp[Instr.findNow,hs,f],fun b=>⟨h1,h2,g b⟩⟩
    ·refine .inr ⟨j+1,e',?_,by simpa using g1,g2,?_⟩
     ·simp[Instr.findNow,hs,f];omega
     ·simp only[List.set_cons_succ];exact⟨h1,h2,g3⟩
   ·cases h
  ·cases h
theorem acP{kt:TypeId}{kd:TypeDesc}{sk:Bool}(hu:Ec P kt sk kd){x y:Value}(h:Instr.sameNow kd x y=some true):Instr.sameBits 10000 y x=true:=by
 obtain⟨_,hk⟩:=hu;cases sk with
 |true=>
  have:kd=.string:=by simpa using hk
  subst this;cases x<;>cases y<;>simp only[Instr.sameNow,dP]at h<;>first|(cases h;done)|skip
  rw[beq_toListBytes]at h;have h:=eq_of_beq h;simp[Instr.sameBits,beq_toListBytes,h]
 |false=>
  obtain⟨k,rfl⟩:∃k,kd=.int k:=by simpa using hk
  cases x<;>cases y<;>simp[Instr.sameNow]at h;obtain⟨rfl,rfl⟩:=h;simp[Instr.sameBits]
theorem Y3(hM:bB P ρ w0 μ G nx.toNat w)(hH:HSub H G)(ho:fk ρ orc){o:Oper}{sk:Bool}{pm pk pv:PX}(hp:jJ P nt o=some (.mapupd sk pm pk pv))(hE:Co P ρ μ nt o.op.operands.toList tm ev)
  {a:AV} {H':T ah} {nx':Key} (h:aOp orc (.mapupd sk pm pk pv) tm H nx=.val a H' nx'):Oy P ρ w0 μ G H nx w (Go.execOp ev o) a H' nx':=by
 obtain⟨dst,Ir,ty,pos,after,guard⟩:=o;obtain⟨t,m,k,v,kt,e,kd,e0,hu,FQ,hm,hk,hv⟩:=kH hp;simp only at e0;have hex:Go.execOp ev ⟨dst,Ir,ty,pos,after,guard⟩=(do Instr.mapUpdate t (ev m) (ev k) (ev v);pure .skip):=by rcases e0 with e0|e0<;>subst e0<;>rfl
 have IS:m∈Ir.operands.toList∧k∈Ir.operands.toList∧v∈Ir.operands.toList:=by rcases e0 with e0|e0<;>subst e0<;>simp[Op.operands]
 simp only[aOp]at h;split at h
 ·rename_i b ka va hb hka hva;split at h
  ·rename_i L hL;split at h
   ·rename_i L' hL';rw[sTCe]at h;simp only[OR.val.injEq]at h;obtain⟨rfl,rfl,rfl⟩:=h;have hrm:=hE m IS.1 pm _ hm hb;have hrk:=hE k IS.2.1 pk _ hk hka;have hrv:=hE v IS.2.2 pv _ hv hva;generalize hmm:ev m=mm at hrm;cases hrm with|map _ l r DL hr=>
    subst hr;have hg:=hH _ _ hL;obtain⟨l',o',h1,h2,h3⟩:=hM.BO b _ hg;rw[DL]at h1;cases h1;cases h3 with|map _ _ es clock YA=>
    have FV:(getObj l.c).run P w=.ok (.map es clock) w:=by simp[getObj,Sem.run,h2]
    have auP:∀o2,(setObj l.c o2).run P w=.ok () {w with heap:=w.heap.setIfInBounds l.c o2}:=by intro o2;simp[setObj,Sem.run,h2]
    have Oc:l.c<w.heap.size:=hM.AX b l DL;have tY:w0.heap.size≤l.c:=(hM.own b _ l hg DL).resolve_left (by simp[ah.ro]);have aeg:μ.le (μ.put b l):=Mu.G9 (.inr DL);have fin:∀(es':Array MapEntry) (Y4:Nat),Be ρ μ L' es'.toList→(Instr.mapUpdate t (ev m) (ev k) (ev v)).run P w=.ok () {w with heap:=w.heap.setIfInBounds l.c (.map es' Y4)}→
      Oy P ρ w0 μ G H nx w (Go.execOp ev ⟨dst,Ir,ty,pos,after,guard⟩) (.tuple []) (aw b (some (.map L')) H) nx:=by
     intro es' Y4 hp' eM;obtain⟨g1,g2⟩:=hM.put (w':={w with heap:=w.heap.setIfInBounds l.c (.map es' Y4)}) b (.map L') l (.map es' Y4) (.inr DL)
      ⟨rfl,rfl,rfl,by simp,fun j hj _=>by show(w.heap.setIfInBounds l.c _)[j]?=_;rw[zqn (Ne.symm hj)],fE _⟩
      (by show(w.heap.setIfInBounds l.c _)[l.c]?=_;simp[Oc]) (.map _ _ _ _ (hp'.mono aeg)) (fun b' B' l' g m' ne=>hM.sep b' b B' _ l' l g hg m' DL ne) tY (fE _) (hM.new b l DL) (hM.lo0 hg DL rfl)
     refine⟨.skip,_,_,_,?_,rfl,g1,g2,hH.set b _,Cy hL DL _ _⟩;rw[hex];simp[eM]
    rcases Uc ho FQ hrk hrv 0 YA hL' with⟨f,g⟩|⟨j,e1,f,g1,g2,g3⟩
    ·refine fin (es.push {key:=ev k,val:=ev v,born:=clock}) (clock+1) (by simpa using g clock) ?_;simp[hmm,Instr.mapUpdate,az hu,FV,run_checkKey FQ _ 9999,run_findKey FQ.1 f,auP]
    ·have Jk:es[j]?=some e1:=by simpa using g1
     have da:j<es.size:=by
      rcases KA j es.size with h'|h'
      ·exact h'
      ·rw[ZS h']at Jk;cases Jk
     refine fin (es.modify j fun e=>{e with key:=ev k,val:=ev v}) clock ?_ ?_
     ·have:(es.modify j fun e=>{e with key:=ev k,val:=ev v}).toList=es.toList.set j {e1 with key:=ev k,val:=ev v}:=by
       apply List.ext_getElem?;intro q;rw[Array.getElem?_toList,Array.getElem?_modify];by_cases hq:j=q
       ·subst hq;rw[if_pos rfl,Jk,List.getElem?_set_self (by simpa using da)];rfl
       ·rw[if_neg hq,List.getElem?_set_ne hq];simp
      rw[this];exact g3
     ·have hf:=run_findKey (w:=w) FQ.1 f;have hs:=acP FQ g2;simp[hmm,Instr.mapUpdate,az hu,FV,run_checkKey FQ _ 9999,hf,auP,Instr.keyThatStays,Jk,hs]
   ·cases h
  ·cases h
 ·cases h
end
noncomputable def bA(g:AV→T ah→AV×T ah):List AV→T ah→List AV×T ah
 | [],h=>([],h)
 |v ::l,h=>((g v h).1 ::(bA g l (g v h).2).1,(bA g l (g v h).2).2)
noncomputable def JC(ih:AV→T ah→AV×T ah)(v:AV)(h:T ah):AV×T ah:=
 match v with
 |.slice b off len sz=>match ag b h with
  |some (.cells l .fix)=>if len*sz≤(l.drop off).length then(.sl (bA ih ((l.drop off).take (len*sz)) (aw b (some (.cells l .ro)) h)).1 len sz .any,(bA ih ((l.drop off).take (len*sz)) (aw b (some (.cells l .ro)) h)).2)else(v,h)
  |some (.cells l .ro)=>if len*sz≤(l.drop off).length then(.sl (bA ih ((l.drop off).take (len*sz)) h).1 len sz .any,(bA ih ((l.drop off).take (len*sz)) h).2)else(v,h)
  |some (.cells l .part)=>if len*sz≤(l.drop off).length then(.sl (bA ih ((l.drop off).take (len*sz)) (aw b (some (.cells l .rop)) h)).1 len sz .any,(bA ih ((l.drop off).take (len*sz)) (aw b (some (.cells l .rop)) h)).2)else(v,h)
  |some (.cells l .rop)=>if len*sz≤(l.drop off).length then(.sl (bA ih ((l.drop off).take (len*sz)) h).1 len sz .any,(bA ih ((l.drop off).take (len*sz)) h).2)else(v,h)
  |_=>(v,h)
 |.sl l len sz _=>(.sl l len sz .any,h)
 |.agg cs=>(.agg (bA ih cs h).1,(bA ih cs h).2)
 |v=>(v,h)
noncomputable def aS:Nat→AV→T ah→AV×T ah
 |0,v,h=>(v,h)
 |n+1,v,h=>JC (aS n) v h
section
variable{R:Type}
theorem yv{g:AV→T ah→(AV→T ah→R)→R}{ga:AV→T ah→AV×T ah}(hg:∀v h c,g v h c=c (ga v h).1 (ga v h).2):∀(l:List AV) (h:T ah) (c:List AV→T ah→R),LM g l h c=c (bA ga l h).1 (bA ga l h).2
 | [],h,c=>rfl
 |v ::l,h,c=>by show g v h (fun v h=>LM g l h fun r h=>c (v ::r) h)=_;rw[hg,yv hg l];rfl
theorem GD:∀(n:Nat) (v:AV) (h:T ah) (c:AV→T ah→R),ZM n v h c=c (aS n v h).1 (aS n v h).2
 |0,v,h,c=>rfl
 |n+1,v,h,c=>by
  show Cx (ZM n) v h c=_;have hL:=yv (R:=R) (GD n);cases v with
  |slice b off len sz=>
   simp only[aS,JC,Cx];cases hb:ag b h with
   |none=>rfl
   |some B=>
    cases B with
    |cells l ck=>cases ck<;>simp only[takeC_eq,dropL_eq,sTCe,hL]<;>split<;>rfl
    |_=>rfl
  |agg cs=>simp only[aS,JC,Cx,hL]
  |_=>rfl
end
section
variable{P:Program}{ρ:Nat→Int}{w0:W0}{w:World}{nx:Key}
structure iu(P:Program)(ρ:Nat→Int)(w0:W0)(w:World)(nx:Key)(μ:Mu)(G:Key→Option ah)(H:T ah)(μ':Mu)(G':Key→Option ah)(H':T ah):Prop where
 le:μ.le μ'
 m:∀b,μ' b=μ b
 M:bB P ρ w0 μ' G' nx.toNat w
 hs:HSub H' G'
 g:∀b,ag b H=none→G' b=G b∧ag b H'=none
theorem iu.refl{μ:Mu}{G:Key→Option ah}{H:T ah}(hM:bB P ρ w0 μ G nx.toNat w)(hH:HSub H G):iu P ρ w0 w nx μ G H μ G H:=⟨μ.le_refl,fun _=>rfl,hM,hH,fun _ h=>⟨rfl,h⟩⟩
theorem iu.trans{μ μ1 μ2:Mu}{G G1 G2:Key→Option ah}{H H1 H2:T ah}(a:iu P ρ w0 w nx μ G H μ1 G1 H1)(b:iu P ρ w0 w nx μ1 G1 H1 μ2 G2 H2):iu P ρ w0 w nx μ G H μ2 G2 H2:=
 ⟨Mu.le_trans a.le b.le,fun k=>(b.m k).trans (a.m k),b.M,b.hs,fun k hk=>⟨((b.g k (a.g k hk).2).1).trans (a.g k hk).1,(b.g k (a.g k hk).2).2⟩⟩
theorem iu.kept{μ μ':Mu}{G G':Key→Option ah}{H H':T ah}(h:iu P ρ w0 w nx μ G H μ' G' H'):Kept H H' nx nx μ μ' G G':=
 ⟨fun b hb _=>(h.g b hb).1,fun b _=>h.m b,fun b hb _=>(h.g b hb).2,fE _⟩
def Mu.am5(μ:Mu)(c:Nat)(arr:Array Value):Mu:=⟨μ.loc,fun c' i=>match μ.fz c' i with|some v=>some v|none=>if c'=c then arr[i]? else none⟩
theorem apt{μ:Mu}{G:Key→Option ah}{H:T ah}(hM:bB P ρ w0 μ G nx.toNat w)(hH:HSub H G){b:Key}{L:List AV}{ck:CK}(hb:ag b H=some (.cells L ck))(X:Option ah)(hX:(X=some (.cells L .ro)∧ck≠.part∧ck≠.rop)∨(X=some (.cells L .rop)∧ck≠.ro)) :
  ∃l arr elem f μ',μ b=some l∧w.heap[l.c]?=some (.cells arr elem f)∧iu P ρ w0 w nx μ G H μ' (kn G b X) (aw b X H)∧(∀i v,arr[i]?=some v→μ'.fz l.c i=some v)∧
   (∀i a,L[i]?=some a→∃v,arr[l.base+i]?=some v∧aX ρ μ' a v)∧l.base+l.ext≤arr.size∧L.length≤l.ext:=by
 have hg:=hH _ _ hb;obtain⟨l,arr,elem,f,h1,h2,hc,hs,hl,hf,he⟩:=hM.cells hg;have hle:μ.le (μ.am5 l.c arr):=by refine⟨fun _ _ h=>h,fun c i v h=>?_⟩;show(match μ.fz c i with|some v=>some v|none=>if c=l.c then arr[i]? else none)=some v;rw[h]
 have hold:∀i v,μ.fz l.c i=some v→arr[i]?=some v:=by intro i v h;obtain⟨KB,Wi,f',e1,e2⟩:=hM.Xw _ _ _ h;rw[h2]at e1;cases e1;exact e2
 have Yl:∀i v,arr[i]?=some v→(μ.am5 l.c arr).fz l.c i=some v:=by
  intro i v h;show(match μ.fz l.c i with|some v=>some v|none=>if l.c=l.c then arr[i]? else none)=some v;cases hz:μ.fz l.c i with
  |none=>simp[h]
  |some u=>have:=hold i u hz;rw[h]at this;cases this;rfl
 refine⟨l,arr,elem,f,μ.am5 l.c arr,h1,h2,⟨hle,fun _=>rfl,?_,?_,?_⟩,Yl,fun i a ha=>?_,hs,hl⟩
 ·refine⟨?_,?_,hM.AX,?_,hM.Qq,hM.new,hM.below,?_,?_,fun c i v e=>hle.f _ _ _ (hM.zle c i v e),?_,?_,hM.dr⟩
  ·intro b' B' e;by_cases wK:b'=b
   ·subst wK;rw[fA]at e;rcases hX with⟨rfl,IL,al6⟩|⟨rfl,IL⟩<;>cases e
    ·exact⟨l,_,h1,h2,.cells L .ro l arr elem f (fun i a ha=>let ⟨v,hv,hr⟩:=hc i a ha;⟨v,hv,hr.mono hle⟩) hs hl (fun h=>absurd rfl h) (fun _ _=>he IL al6)⟩
    ·exact⟨l,_,h1,h2,.cells L .rop l arr elem f (fun i a ha=>let ⟨v,hv,hr⟩:=hc i a ha;⟨v,hv,hr.mono hle⟩) hs hl (fun _=>hf IL) (fun _ h=>absurd rfl h)⟩
   ·rw[bN _ _ wK]at e;obtain⟨l',o',e1,e2,e3⟩:=hM.BO b' B' e;exact⟨l',o',e1,e2,e3.mono hle⟩
  ·intro b1 b2 B1 B2 l1 l2 e1 e2 m1 m2 bW;have:∀x B,kn G b X x=some B→∃B',G x=some B':=by
    intro x B e;by_cases wK:x=b
    ·subst wK;exact⟨_,hg⟩
    ·rw[bN _ _ wK]at e;exact⟨_,e⟩
   obtain⟨B1',Gi⟩:=this _ _ e1;obtain⟨B2',e2'⟩:=this _ _ e2;exact hM.sep b1 b2 B1' B2' l1 l2 Gi e2' m1 m2 bW
  ·intro b' B' l' e m;by_cases wK:b'=b
   ·subst wK;rw[fA]at e;rcases hX with⟨rfl,IL⟩|⟨rfl,IL⟩<;>cases e
    ·exact .inl trivial
    ·exact .inr ((hM.own b' _ l' hg m).resolve_left (by cases ck<;>simp[ah.ro]at IL ⊢))
   ·rw[bN _ _ wK]at e;exact hM.own b' B' l' e m
  ·intro c i v e;have e2:(match μ.fz c i with|some v=>some v|none=>if c=l.c then arr[i]? else none)=some v:=e;clear e;cases hz:μ.fz c i with
   |some u=>rw[hz]at e2;cases e2;exact hM.Xw _ _ _ hz
   |none=>
    rw[hz]at e2;by_cases Nt:c=l.c
    ·subst Nt;simp only[if_true]at e2;exact⟨arr,elem,f,h2,e2⟩
    ·simp only[Nt,if_false]at e2;cases e2
  ·intro b' B' l' n e m lV i hi;by_cases wK:b'=b
   ·subst wK;rw[fA]at e;rcases hX with⟨rfl,IL⟩|⟨rfl,IL⟩<;>cases e<;>cases lV
   ·rw[bN _ _ wK]at e;have bW:l'.c≠l.c:=hM.sep b' b B' _ l' l e hg m h1 wK;have:=hM.fzf b' B' l' n e m lV i hi;show(match μ.fz l'.c i with|some v=>some v|none=>if l'.c=l.c then arr[i]? else none)=none;rw[this];simp[bW]
  ·intro c i v e;have e2:(match μ.fz c i with|some v=>some v|none=>if c=l.c then arr[i]? else none)=some v:=e;clear e;cases hz:μ.fz c i with
   |some u=>rw[hz]at e2;cases e2;exact hM.fzo c i v hz
   |none=>
    rw[hz]at e2;by_cases Nt:c=l.c
    ·subst Nt;simp only[if_true]at e2;cases ck with
     |fix=>exact .inl ((hM.own b _ l hg h1).resolve_left (by simp[ah.ro]))
     |part=>exact .inl ((hM.own b _ l hg h1).resolve_left (by simp[ah.ro]))
     |rop=>exact .inl ((hM.own b _ l hg h1).resolve_left (by simp[ah.ro]))
     |ro=>
      rcases hM.rof b L l hg h1 with h'|h'
      ·exact .inl h'
      ·have:=h' arr elem f i v h2 e2;rw[hz]at this;cases this
    ·simp only[Nt,if_false]at e2;cases e2
  ·intro b' L' l' e m;by_cases wK:b'=b
   ·subst wK;have m:μ b'=some l':=m;rw[h1]at m;cases m;refine .inr fun KB ee ff i v ha hv=>?_;rw[h2]at ha;cases ha;exact Yl i v hv
   ·rw[bN _ _ wK]at e;rcases hM.rof b' L' l' e m with h'|h'
    ·exact .inl h'
    ·exact .inr fun KB ee ff i v ha hv=>hle.f _ _ _ (h' KB ee ff i v ha hv)
 ·exact hH.set b _
 ·intro b' fF;have bW:b'≠b:=by intro e;subst e;rw[hb]at fF;cases fF
  exact⟨bN _ _ bW,by rw[aP _ _ _ _ bW];exact fF⟩
 ·obtain⟨v,hv,hr⟩:=hc i a ha;exact⟨v,hv,hr.mono hle⟩
def aiE(P:Program)(ρ:Nat→Int)(w0:W0)(w:World)(nx:Key)(g:AV→T ah→AV×T ah):Prop:=∀(v:AV) (u:Value) (μ:Mu) (G:Key→Option ah) (H:T ah),bB P ρ w0 μ G nx.toNat w→HSub H G→aX ρ μ v u→
 ∃μ' G',iu P ρ w0 w nx μ G H μ' G' (g v H).2∧aX ρ μ' (g v H).1 u
theorem pZ{g:AV→T ah→AV×T ah}(hg:aiE P ρ w0 w nx g):∀(l:List AV) (us:List Value) (μ:Mu) (G:Key→Option ah) (H:T ah),bB P ρ w0 μ G nx.toNat w→HSub H G→aB ρ μ l us→
  ∃μ' G',iu P ρ w0 w nx μ G H μ' G' (bA g l H).2∧aB ρ μ' (bA g l H).1 us
 | [],us,μ,G,H,hM,hH,h=>by cases h;exact⟨μ,G,iu.refl hM hH,.nil⟩
 |v ::l,us,μ,G,H,hM,hH,h=>by
  cases h with|cons _ _ u us h1 h2=>
  obtain⟨μ1,G1,f1,r1⟩:=hg v u μ G H hM hH h1;obtain⟨μ2,G2,f2,r2⟩:=pZ hg l us μ1 G1 _ f1.M f1.hs (h2.mono f1.le);exact⟨μ2,G2,f1.trans f2,.cons _ _ _ _ (r1.mono f2.le) r2⟩
theorem ac7{ih:AV→T ah→AV×T ah}(hi:aiE P ρ w0 w nx ih):aiE P ρ w0 w nx (JC ih):=by
 intro v u μ G H hM hH hv;unfold JC;split
 ·rename_i b off len sz;have go:∀(L:List AV) (ck:CK) (X:Option ah),((X=some (.cells L .ro)∧ck≠.part∧ck≠.rop)∨(X=some (.cells L .rop)∧ck≠.ro))→ag b H=some (.cells L ck)→len*sz≤(L.drop off).length→∃μ1 G1 vs,iu P ρ w0 w nx μ G H μ1 G1 (aw b X H)∧aB ρ μ1 ((L.drop off).take (len*sz)) vs∧
    ∃cap c o a,u=.slice (some a) len cap∧len≤cap∧(cap=0∨a=⟨c,o,none⟩)∧(∀i v,vs[i]?=some v→μ1.fz c (o+i)=some v):=by
   intro L ck X hX hb hle;obtain⟨l,arr,elem,f,μ',h1,h2,h3,h4,h5,h6,h7⟩:=apt hM hH hb X hX;cases hv with|slice _ _ _ _ cap l' a hm BT hlen ha=>
   rw[h1]at hm;cases hm;by_cases h0:len*sz=0
   ·refine⟨μ',_,[],h3,by rw[h0];simp;exact .nil,cap,l.c,l.base+off,a,rfl,hlen,ha,?_⟩;intro i v hv;simp at hv
   ·refine⟨μ',_,(arr.toList.drop (l.base+off)).take (len*sz),h3,Cs h5 (by omega) (by simp at hle;omega),cap,l.c,l.base+off,a,rfl,hlen,ha,?_⟩;intro i v hv;have hi:i<len*sz:=by
     rcases KA i (len*sz)with h'|h'
     ·exact h'
     ·rw[zqo (by simp;omega)]at hv;cases hv
    rw[List.getElem?_take_of_lt hi,List.getElem?_drop]at hv;exact h4 _ _ (by simpa using hv)
  have fin:∀(L:List AV) (ck:CK) (H1:T ah) (μ1:Mu) (G1:Key→Option ah) (vs:List Value),len*sz≤(L.drop off).length→iu P ρ w0 w nx μ G H μ1 G1 H1→aB ρ μ1 ((L.drop off).take (len*sz)) vs→
    (∃cap c o a,u=.slice (some a) len cap∧len≤cap∧(cap=0∨a=⟨c,o,none⟩)∧(∀i v,vs[i]?=some v→μ1.fz c (o+i)=some v))→
    ∃μ' G',iu P ρ w0 w nx μ G H μ' G' (bA ih ((L.drop off).take (len*sz)) H1).2∧aX ρ μ' (.sl (bA ih ((L.drop off).take (len*sz)) H1).1 len sz .any) u:=by
   intro L ck H1 μ1 G1 vs hle f1 r1 hx;obtain⟨cap,c,o,a,rfl,hlen,ha,hf⟩:=hx;obtain⟨μ2,G2,f2,r2⟩:=pZ hi _ _ μ1 G1 H1 f1.M f1.hs r1;refine⟨μ2,G2,f1.trans f2,.sl _ len sz .any cap c o a vs r2 ?_ hlen ha (fun i v hv=>f2.le.f _ _ _ (hf i v hv)) trivial⟩;rw[r2.length,←r1.length,UD];omega
  split
  ·rename_i L hb;split
   ·rename_i hle;obtain⟨μ1,G1,vs,f1,r1,hx⟩:=go L .fix _ (.inl ⟨rfl,by simp,by simp⟩) hb hle;exact fin L .fix _ μ1 G1 vs hle f1 r1 hx
   ·exact⟨μ,G,iu.refl hM hH,hv⟩
  ·rename_i L hb;split
   ·rename_i hle;obtain⟨μ1,G1,vs,f1,r1,hx⟩:=go L .ro _ (.inl ⟨rfl,by simp,by simp⟩) hb hle;have f1':iu P ρ w0 w nx μ G H μ1 G1 H:=⟨f1.le,f1.m,f1.M,fun b' B' e=>by
      refine f1.hs b' B' ?_;by_cases wK:b'=b
      ·subst wK;rw[hb]at e;cases e;rw[gTSm]
      ·rw[aP _ _ _ _ wK];exact e,fun b' fF=>⟨(f1.g b' fF).1,fF⟩⟩
    exact fin L .ro _ μ1 G1 vs hle f1' r1 hx
   ·exact⟨μ,G,iu.refl hM hH,hv⟩
  ·rename_i L hb;split
   ·rename_i hle;obtain⟨μ1,G1,vs,f1,r1,hx⟩:=go L .part _ (.inr ⟨rfl,by simp⟩) hb hle;exact fin L .part _ μ1 G1 vs hle f1 r1 hx
   ·exact⟨μ,G,iu.refl hM hH,hv⟩
  ·rename_i L hb;split
   ·rename_i hle;obtain⟨μ1,G1,vs,f1,r1,hx⟩:=go L .rop _ (.inr ⟨rfl,by simp⟩) hb hle;have f1':iu P ρ w0 w nx μ G H μ1 G1 H:=⟨f1.le,f1.m,f1.M,fun b' B' e=>by
      refine f1.hs b' B' ?_;by_cases wK:b'=b
      ·subst wK;rw[hb]at e;cases e;rw[gTSm]
      ·rw[aP _ _ _ _ wK];exact e,fun b' fF=>⟨(f1.g b' fF).1,fF⟩⟩
    exact fin L .rop _ μ1 G1 vs hle f1' r1 hx
   ·exact⟨μ,G,iu.refl hM hH,hv⟩
  ·exact⟨μ,G,iu.refl hM hH,hv⟩
 ·rename_i l len sz fl;cases hv with|sl _ _ _ _ cap c o a vs hr hn hl ha hf hg=>
  exact⟨μ,G,iu.refl hM hH,.sl _ _ _ _ cap c o a vs hr hn hl ha hf trivial⟩
 ·rename_i cs;cases hv with|agg _ vs hr=>
  obtain⟨μ1,G1,f1,r1⟩:=pZ hi _ _ μ G H hM hH hr;exact⟨μ1,G1,f1,.agg _ _ r1⟩
 ·exact⟨μ,G,iu.refl hM hH,hv⟩
theorem DC:∀(n:Nat),aiE P ρ w0 w nx (aS n)
 |0=>fun v u μ G H hM hH hv=>⟨μ,G,iu.refl hM hH,hv⟩
 |n+1=>ac7 (DC n)
theorem DO(g:AV→T ah→AV×T ah):∀(l:List AV) (H:T ah),(bA g l H).1.length=l.length
 | [],H=>rfl
 |v ::l,H=>by simp[bA,DO g l]
end
theorem Ww(wY:Nat):∀(r c:Nat),c<wY→Builtin.growBy wY r c≤wY+(wY+768) / 4
 |0,c,h=>by simp[Builtin.growBy];omega
 |r+1,c,h=>by
  simp only[Builtin.growBy];rw[if_neg (by omega)];by_cases h':c+(c+768) / 4<wY
  ·exact Ww wY r _ h'
  ·have:Builtin.growBy wY r (c+(c+768) / 4)=c+(c+768) / 4:=by
    cases r with
    |zero=>rfl
    |succ r=>simp only[Builtin.growBy];rw[if_pos (by omega)]
   rw[this];omega
theorem aec{wY cap:Nat}(h:cap<wY):Builtin.nextslicecap wY cap≤2*wY+1000:=by
 unfold Builtin.nextslicecap;split
 ·omega
 ·split
  ·omega
  ·have:=Ww wY 4 cap h;omega
section
variable{P:Program}{ρ:Nat→Int}{w0:W0}{w:World}{μ:Mu}{G:Key→Option ah}{nx:Key}{orc:iV}{nt:Nat}{tm:T AV}{H:T ah}{ev:Operand→Value}
structure ai3(P:Program)(t u e:TypeId)(i:TypeInfo)(z:Value):Prop where
 ht:P.underlying t=some (.slice e)
 hu:(∃e',P.underlying u=some (.slice e'))∨P.underlying u=some .string
 hi:P.info? e=some i
 hz:i.zero=some z
 pos:0<i.size
 zs:z.cells.size=i.size
 by_:i.bytes≤65536
theorem iY{t u e:TypeId}{i:TypeInfo}{z:Value}(hT:ai3 P t u e i z)(ty:TypeId){base:Option Addr}{sLen sCap n:Nat}{x:Value}{us:Array Value}(hn:(Builtin.lenOf x).run P w=.ok n w)
  (hle:sLen+n≤sCap) (hc:(Builtin.firstCells i.size n x).run P w=.ok us w) :
  (Builtin.append_ #[t,u] ty #[.slice base sLen sCap,x]).run P w =
   (match base with|some a=>(storeCells (a.add (sLen*i.size)) us.toList).run P w|none=>.ok () w).andThen fun _ w'=>.ok (.slice base (sLen+n) sCap) w':=by
 rcases hT.hu with⟨e',h⟩|h
 all_goals
  simp only[Builtin.append_,List.getElem?_toArray,List.getElem?_cons_zero,List.getElem?_cons_succ,sJ,az hT.ht,o4,bG hT.hi,az h,xA,Wh,if_false,hn,hle,if_true,Bool.not_false,hc];cases base<;>simp
theorem run_append_grow{t u e:TypeId}{i:TypeInfo}{z:Value}(hT:ai3 P t u e i z)(ty:TypeId){base:Option Addr}{sLen sCap n:Nat}{x:Value}{us os:Array Value}(hn:(Builtin.lenOf x).run P w=.ok n w)
  (Pt:sCap<sLen+n) (hsm:sLen+n≤1048576) (hc:∀d,(Builtin.firstCells i.size n x).run P {w with drawn:=d}=.ok us {w with drawn:=d})
  (ho:∀d,(Builtin.firstCells i.size sLen (.slice base sLen sCap)).run P {w with drawn:=d}=.ok os {w with drawn:=d}) :
  ∃cap,sLen+n≤cap∧(Builtin.append_ #[t,u] ty #[.slice base sLen sCap,x]).run P w =
   .ok (.slice (some ⟨w.heap.size,0,none⟩) (sLen+n) cap) ({w with drawn:=w.drawn+1}.alloc (.cells (os++us++Builtin.zeroCells z.cells (cap-(sLen+n))) e)):=by
 refine⟨(sLen+n)+w.tape w.drawn (.appendCap (sLen+n) sCap e)%(2^63-(sLen+n)),by omega,?_⟩;have h1:¬(sLen+n≤sCap):=by omega
 have h2:¬(((sLen+n:Nat):Int)>IntKind.i64.max∧(False∨i.bytes=0)):=by
  have:IntKind.i64.max=9223372036854775807:=by decide
  rw[this];omega
 have h3:¬(Builtin.nextslicecap (sLen+n) sCap*i.bytes>2^48):=by have a:=aec Pt;have:Builtin.nextslicecap (sLen+n) sCap*i.bytes≤2098152*65536:=Nat.mul_le_mul (by omega) hT.by_;omega
 have hch:(choose (.appendCap (sLen+n) sCap e)).run P w=.ok ((sLen+n)+w.tape w.drawn (.appendCap (sLen+n) sCap e)%(2^63-(sLen+n))) {w with drawn:=w.drawn+1}:=by simp[Question.forced,Question.cut]
 have ZT:=ho (w.drawn+1);have LU:=hc (w.drawn+1);rcases hT.hu with⟨e',h⟩|h
 all_goals
  simp only[Builtin.append_,List.getElem?_toArray,List.getElem?_cons_zero,List.getElem?_cons_succ,sJ,az hT.ht,o4,bG hT.hi,az h,xA,Wh,if_false,hn,h1,Bool.not_false,kD hT.hi];rw[if_neg h2];simp only[sJ,kD hT.hi,o4];rw[if_neg h3];simp only[sJ,hch,o4,kD hT.hi,run_askRoom,ZT,if_true,LU,qc hT.hi hT.hz,me,xA]
structure SS(P:Program)(ρ:Nat→Int)(μ:Mu)(w:World)(sz:Nat)(x:Value)(new:List AV)(m:Nat)(us:Array Value):Prop where
 hn:(Builtin.lenOf x).run P w=.ok m w
 hc:∀d,(Builtin.firstCells sz m x).run P {w with drawn:=d}=.ok us {w with drawn:=d}
 hr:aB ρ μ new us.toList
 hl:new.length=m*sz
theorem SS.now{sz:Nat}{x:Value}{new:List AV}{m:Nat}{us:Array Value}(h:SS P ρ μ w sz x new m us):(Builtin.firstCells sz m x).run P w=.ok us w:=h.hc w.drawn
theorem GZ(z:Array Value)(n:Nat):(Builtin.zeroCells z n).size=n*z.size:=by simp[Builtin.zeroCells]
def Mu.mark(μ:Mu)(k:Key)(c base ext:Nat)(arr:Array Value):Mu:=⟨kn μ.loc k (some ⟨c,base,ext⟩),fun c' i=>match μ.fz c' i with|some v=>some v|none=>if c'=c∧i<base then arr[i]? else none⟩
theorem Mu.kG(μ:Mu)(k:Key)(c base ext:Nat)(arr:Array Value):(μ.mark k c base ext arr) k=some ⟨c,base,ext⟩:=fA _ _ _
theorem Mu.mL(μ:Mu){k b:Key}(c base ext:Nat)(arr:Array Value)(h:b≠k):(μ.mark k c base ext arr) b=μ b:=bN _ _ h
theorem bB.mark{w':World}{n n':Nat}(h:bB P ρ w0 μ G n w)(k:Key)(c base ext:Nat){arr:Array Value}{elem:TypeId}(hk:μ k=none)(hw:Touch w w' c)(ho:w'.heap[c]?=some (.cells arr elem (0,0)))
  (hs:base+ext≤arr.size) (Jl:∀b B' l',G b=some B'→μ b=some l'→l'.c≠c) (hold:∀i v,μ.fz c i=some v→arr[i]?=some v∧i<base) (tY:w0.heap.size≤c) (hn:n≤n') (Nv:k.toNat<n') :
  μ.le (μ.mark k c base ext arr)∧bB P ρ w0 (μ.mark k c base ext arr) (kn G k (some .tok)) n' w'∧(∀i v,i<base→arr[i]?=some v→(μ.mark k c base ext arr).fz c i=some v):=by
 have al2:∀c' i,(μ.mark k c base ext arr).fz c' i=(match μ.fz c' i with|some v=>some v|none=>if c'=c∧i<base then arr[i]? else none):=fun _ _=>rfl;have hle:μ.le (μ.mark k c base ext arr):=by
  refine⟨fun b l e=>?_,fun c' i v e=>by rw[al2,e]⟩;by_cases hb:b=k
  ·subst hb;rw[hk]at e;cases e
  ·rw[Mu.mL _ _ _ _ _ hb];exact e
 have hlc:c<w'.heap.size:=by
  rcases KA c w'.heap.size with h'|h'
  ·exact h'
  ·rw[ZS h']at ho;cases ho
 refine⟨hle,⟨?_,?_,?_,?_,?_,?_,hw.below h.below h.below.size tY,?_,?_,fun c' i v e=>hle.f _ _ _ (h.zle c' i v e),?_,?_,Nat.le_trans h.dr hw.dr⟩,?_⟩
 ·intro b B' e;by_cases hb:b=k
  ·subst hb;rw[fA]at e;cases e;exact⟨_,_,Mu.kG _ _ _ _ _ _,ho,.tok _ arr elem hs⟩
  ·rw[bN _ _ hb]at e;obtain⟨l',o',h1,h2,h3⟩:=h.BO b B' e;refine⟨l',o',by rw[Mu.mL _ _ _ _ _ hb];exact h1,?_,h3.mono hle⟩;rw[hw.other l'.c (Jl b B' l' e h1) (h.AX b l' h1)];exact h2
 ·intro b b' B1 B2 l1 l2 e1 e2 m1 m2 bW;by_cases hb:b=k
  ·subst hb;rw[Mu.kG]at m1;cases m1;have fF:b'≠b:=fun e=>bW e.symm;rw[bN _ _ fF]at e2;rw[Mu.mL _ _ _ _ _ fF]at m2;exact fun e=>Jl b' B2 l2 e2 m2 e.symm
  ·rw[bN _ _ hb]at e1;rw[Mu.mL _ _ _ _ _ hb]at m1;by_cases fF:b'=k
   ·subst fF;rw[Mu.kG]at m2;cases m2;exact Jl b B1 l1 e1 m1
   ·rw[bN _ _ fF]at e2;rw[Mu.mL _ _ _ _ _ fF]at m2;exact h.sep b b' B1 B2 l1 l2 e1 e2 m1 m2 bW
 ·intro b l' e;by_cases hb:b=k
  ·subst hb;rw[Mu.kG]at e;cases e;exact hlc
  ·rw[Mu.mL _ _ _ _ _ hb]at e;exact O5 (h.AX b l' e) hw.size
 ·intro b B' l' e m;by_cases hb:b=k
  ·subst hb;rw[Mu.kG]at m;cases m;exact .inr tY
  ·rw[bN _ _ hb]at e;rw[Mu.mL _ _ _ _ _ hb]at m;exact h.own b B' l' e m
 ·intro b hb;obtain⟨ext,he⟩:=h.Qq b hb;exact⟨ext,hle.l _ _ he⟩
 ·intro b l' e;by_cases hb:b=k
  ·subst hb;exact Nv
  ·rw[Mu.mL _ _ _ _ _ hb]at e;exact O5 (h.new b l' e) hn
 ·intro c' i v e;rw[al2]at e;cases hz:μ.fz c' i with
  |some u=>
   rw[hz]at e;cases e;by_cases hc:c'=c
   ·subst hc;exact⟨arr,elem,(0,0),ho,(hold i v hz).1⟩
   ·obtain⟨KB,Wi,f',h1,h2⟩:=h.Xw c' i v hz;have cQ:c'<w.heap.size:=by
     rcases KA c' w.heap.size with h'|h'
     ·exact h'
     ·rw[ZS h']at h1;cases h1
    exact⟨KB,Wi,f',by rw[hw.other c' hc cQ];exact h1,h2⟩
  |none=>
   rw[hz]at e;simp only at e;by_cases hc:c'=c∧i<base
   ·rw[if_pos hc]at e;rw[hc.1];exact⟨arr,elem,(0,0),ho,e⟩
   ·rw[if_neg hc]at e;cases e
 ·intro b B' l' n e m lV i hi;rw[al2];by_cases hb:b=k
  ·subst hb;rw[fA]at e;cases e;rw[Mu.kG]at m;cases m;simp only[ah.lo,dP]at lV;subst lV;cases hz:μ.fz c i with
   |some u=>exact absurd (hold i u hz).2 (by show ¬i<base;exact Nat.not_lt.2 hi)
   |none=>have:¬(c=c∧i<base):=fun h=>absurd h.2 (Nat.not_lt.2 hi);show(if c=c∧i<base then arr[i]? else none)=none;rw[if_neg this]
  ·rw[bN _ _ hb]at e;rw[Mu.mL _ _ _ _ _ hb]at m;have bW:=Jl b B' l' e m;rw[h.fzf b B' l' n e m lV i hi];simp[bW]
 ·intro c' i v e;rw[al2]at e;cases hz:μ.fz c' i with
  |some u=>rw[hz]at e;cases e;exact h.fzo c' i v hz
  |none=>
   rw[hz]at e;simp only at e;by_cases hc:c'=c∧i<base
   ·rw[hc.1];exact .inl tY
   ·rw[if_neg hc]at e;cases e
 ·intro b L l' e m;by_cases hb:b=k
  ·subst hb;rw[Mu.kG]at m;cases m;exact .inl tY
  ·rw[bN _ _ hb]at e;rw[Mu.mL _ _ _ _ _ hb]at m;rcases h.rof b L l' e m with h1|h1
   ·exact .inl h1
   ·refine .inr fun KB ee f i v ha hv=>hle.f _ _ _ (h1 KB ee f i v ?_ hv);rw[←hw.other l'.c (Jl b _ l' e m) (h.AX b l' m)];exact ha
 ·intro i v hi hv;rw[al2];cases hz:μ.fz c i with
  |some u=>have:=(hold i u hz).1;rw[hv]at this;cases this;rfl
  |none=>simp[hi,hv]
theorem aed(c base ext:Nat)(arr:Array Value)(B B':Option ah):Kept H (aw nx B' H) nx nx.succ μ (μ.mark nx c base ext arr) G (kn G nx B):=by have hs:=kTSu nx;exact⟨fun b _ hl=>bN _ _ (ne_of_lt hl),fun b hl=>Mu.mL _ _ _ _ _ (ne_of_lt hl),fun b hb hl=>by rw[aP _ _ _ _ (ne_of_lt hl)];exact hb,by omega⟩
theorem aas(hM:bB P ρ w0 μ G nx.toNat w){t u e:TypeId}{i:TypeInfo}{z:Value}(hT:ai3 P t u e i z){L:List AV}{vs:Array Value}(hL:aB ρ μ L vs.toList){len cap:Nat}(hlen:vs.size=len*i.size)(BT:len≤cap) :
  ∃μ',μ.le μ'∧bB P ρ w0 μ' (kn G nx (some .tok)) nx.succ.toNat ({w with drawn:=w.drawn+1}.alloc (.cells (vs++Builtin.zeroCells z.cells (cap-len)) e))∧
   aX ρ μ' (.sl L len i.size (.tok nx)) (.slice (some ⟨w.heap.size,0,none⟩) len cap)∧(∀(B B':Option ah) (H:T ah) (G:Key→Option ah),Kept H (aw nx B' H) nx nx.succ μ μ' G (kn G nx B)):=by
 have hs:=kTSu nx;have hk:=hM.uZ;have hzs:(Builtin.zeroCells z.cells (cap-len)).size=(cap-len)*i.size:=by rw[GZ,hT.zs]
 obtain⟨h1,h2,h3⟩:=(hM.drawn (w.drawn+1) (Nat.le_succ _)).mark (w':={w with drawn:=w.drawn+1}.alloc (.cells (vs++Builtin.zeroCells z.cells (cap-len)) e)) nx w.heap.size (len*i.size) ((cap-len)*i.size) (arr:=vs++Builtin.zeroCells z.cells (cap-len)) (elem:=e) hk
  (Touch.alloc _ _) (by show(w.heap.push _)[w.heap.size]?=_;simp) (by rw[Array.size_append,hzs,hlen];exact fE _)
  (fun b B' l' _ m=>Nat.ne_of_lt (hM.AX b l' m)) (fun j v hv=>by rw[hM.aee j]at hv;cases hv) hM.below.size (n':=nx.succ.toNat) (by omega) (by omega)
 refine⟨_,h1,h2,?_,fun B B' H G=>aed _ _ _ _ B B'⟩;refine .sl L len i.size _ cap w.heap.size 0 _ vs.toList (hL.mono h1) ?_ BT (.inr rfl) ?_ ?_
 ·rw[hL.length];simpa using hlen
 ·intro j v hv;have hj:j<vs.size:=by
   rcases KA j vs.size with h'|h'
   ·exact h'
   ·rw[zqo (by simpa using h')]at hv;cases hv
  rw[Nat.zero_add];refine h3 j v (by omega) ?_;rw[Array.getElem?_append_left hj];simpa using hv
 ·show _=some (⟨w.heap.size,0+len*i.size,(cap-len)*i.size⟩:Loc);rw[Nat.zero_add];exact Mu.kG _ _ _ _ _ _
theorem N8(hM:bB P ρ w0 μ G nx.toNat w){t u e:TypeId}{i:TypeInfo}{z:Value}(hT:ai3 P t u e i z){L:List AV}{vs:Array Value}(hL:aB ρ μ L vs.toList){len cap:Nat}(hlen:vs.size=len*i.size)(BT:len≤cap) :
  ∃μ',μ.le μ'∧bB P ρ w0 μ' (kn G nx (some (.cells L .part))) nx.succ.toNat ({w with drawn:=w.drawn+1}.alloc (.cells (vs++Builtin.zeroCells z.cells (cap-len)) e))∧
   aX ρ μ' (.slice nx 0 len i.size) (.slice (some ⟨w.heap.size,0,none⟩) len cap)∧(∀(B B':Option ah) (H:T ah) (G:Key→Option ah),Kept H (aw nx B' H) nx nx.succ μ μ' G (kn G nx B)):=by
 have hs:=kTSu nx;have hk:=hM.uZ;have hzs:(Builtin.zeroCells z.cells (cap-len)).size=(cap-len)*i.size:=by rw[GZ,hT.zs]
 have yw:(vs++Builtin.zeroCells z.cells (cap-len)).size=cap*i.size:=by rw[Array.size_append,hzs,hlen,←Nat.add_mul];congr 1;omega
 have hLl:L.length=len*i.size:=by rw[hL.length];simpa using hlen
 have hll:len*i.size≤cap*i.size:=Nat.mul_le_mul_right _ BT;have hle:μ.le (μ.put nx ⟨w.heap.size,0,cap*i.size⟩):=Mu.G9 (.inl hk);have hb:Mz P ρ (μ.put nx ⟨w.heap.size,0,cap*i.size⟩) (.cells L .part) ⟨w.heap.size,0,cap*i.size⟩ (.cells (vs++Builtin.zeroCells z.cells (cap-len)) e (0,0)):=by
  refine .cells L .part _ _ e (0,0) ?_ (by rw[yw];simp) (by show L.length≤cap*i.size;omega) (fun _=>rfl) (fun h=>absurd rfl h);intro j a ha;obtain⟨v,hv,hr⟩:=hL.get j a ha;refine⟨v,?_,hr.mono hle⟩;have hj:j<vs.size:=by
   rcases KA j vs.size with h'|h'
   ·exact h'
   ·rw[zqo (by simpa using h')]at hv;cases hv
  show(vs++_)[0+j]?=some v;rw[Nat.zero_add,Array.getElem?_append_left hj];simpa using hv
 obtain⟨g1,g2⟩:=(hM.drawn (w.drawn+1) (Nat.le_succ _)).alloc nx (.cells L .part) (.cells (vs++Builtin.zeroCells z.cells (cap-len)) e) (cap*i.size) hk hb (nx':=nx.succ.toNat) (by omega) (by omega);refine⟨_,g1,g2,?_,fun B B' H G=>Iq _ _ _⟩;exact .slice nx 0 len i.size cap _ _ (Mu.eL _ _ _) (by simp) BT (.inr (by simp))
theorem SU(hM:bB P ρ w0 μ G nx.toNat w)(hH:HSub H G){t u e:TypeId}{i:TypeInfo}{z:Value}(hT:ai3 P t u e i z)(ty:TypeId){s:AV}{sv xv:Value}(hs:aX ρ μ s sv){new:List AV}{m:Nat}{us:Array Value}
  (hx:SS P ρ μ w i.size xv new m us) {a:AV} {H':T ah} {nx':Key} (h:appendTo i.size s new m H nx=.val a H' nx') :
  ∃v w' μ' G',(Builtin.append_ #[t,u] ty #[sv,xv]).run P w=.ok v w'∧aX ρ μ' a v∧μ.le μ'∧bB P ρ w0 μ' G' nx'.toNat w'∧HSub H' G'∧Kept H H' nx nx' μ μ' G G':=by
 have hss:=kTSu nx;have Qr:us.size=m*i.size:=by have:=hx.hr.length;rw[hx.hl]at this;simpa using this.symm
 have SV:=hT.pos;unfold appendTo at h;split at h
 ·cases hs;cases NY:Nat.beq m 0 with
  |true=>rw[NY]at h;simp only[cond_true,OR.val.injEq]at h;obtain⟨rfl,rfl,rfl⟩:=h;have hm:=o5 NY;subst hm;refine⟨.slice none 0 0,w,μ,G,?_,.nils,μ.le_refl,hM,hH,Kept.refl _ _ _ _⟩;rw[iY hT ty (base:=none) (sLen:=0) (sCap:=0) hx.hn (fE _) hx.now];rfl
  |false=>
   rw[NY]at h;simp only[cond_false]at h;have aAv:m≠0:=by intro e;subst e;cases NY
   cases hms:Nat.ble m 1048576 with
   |false=>rw[hms]at h;cases h
   |true=>
    rw[hms]at h;rw[Nat.ble_eq]at hms;simp only[cond_true,sTCe,OR.val.injEq]at h;obtain⟨rfl,rfl,rfl⟩:=h;obtain⟨cap,BT,eM⟩:=run_append_grow (P:=P) (w:=w) hT ty (base:=none) (sLen:=0) (sCap:=0) (os:=#[]) hx.hn (by omega) (by omega) hx.hc (by intro d;rfl);simp only[Nat.zero_add]at BT eM;obtain⟨μ',g1,g2,g3,g4⟩:=N8 hM hT hx.hr Qr BT;refine⟨_,_,_,_,eM,g3,g1,?_,hH.set nx _,g4 _ _ _ _⟩;have:(#[]:Array Value)++us=us:=by simp
    rw[this];exact g2
 ·rename_i L len Lo fl;cases NY:Nat.beq m 0 with
  |true=>
   rw[NY]at h;simp only[cond_true,OR.val.injEq]at h;obtain⟨rfl,rfl,rfl⟩:=h;have hm:=o5 NY;subst hm;have hus:us=#[]:=by apply Array.eq_empty_of_size_eq_zero;simpa using Qr
   subst hus;have hs0:=hs;cases hs with|sl _ _ _ _ cap c o ad vs tZ hn hle qO hf hg=>
   refine⟨.slice (some ad) len cap,w,μ,G,?_,hs0,μ.le_refl,hM,hH,Kept.refl _ _ _ _⟩;rw[iY hT ty (base:=some ad) (sLen:=len) (sCap:=cap) hx.hn (by omega) hx.now];simp[storeCells]
  |false=>
   rw[NY]at h;simp only[cond_false]at h;have aAv:m≠0:=by intro e;subst e;cases NY
   cases AF:(Nat.beq i.size Lo&&Nat.ble (len+m) 1048576&&new.all AV.aM)with
   |false=>rw[AF]at h;cases h
   |true=>
    rw[AF]at h;simp only[cond_true]at h;simp only[jq,Nat.ble_eq]at AF;obtain⟨⟨SX,hsm⟩,aef⟩:=AF;have SX:=o5 SX;subst SX;split at h
    ·cases h
    ·rename_i b;split at h
     ·rename_i aAx;simp only[appC_eq,sTCe,OR.val.injEq]at h;obtain⟨rfl,rfl,rfl⟩:=h;cases hs with|sl _ _ _ _ cap c o ad vs tZ hn hle qO hf hg=>
      have hg:μ b=some ⟨c,o+len*i.size,(cap-len)*i.size⟩:=hg;have hgb:=hH _ _ aAx;have hvl:=tZ.length;obtain⟨lb,ob,q1,q2,q3⟩:=hM.BO b _ hgb;rw[hg]at q1;cases q1;cases q3 with|tok _ arr elem hsb=>
      have hsb:o+len*i.size+(cap-len)*i.size≤arr.size:=hsb;have q2:w.heap[c]?=some (.cells arr elem (0,0)):=q2;have hM1:bB P ρ w0 μ (kn G b none) nx.toNat w:=hM.sub (fun b' B' e'=>by
       by_cases hb:b'=b
       ·subst hb;rw[fA]at e';cases e'
       ·rw[bN _ _ hb]at e';exact e')
      have ne:∀b',ag b' H=none→b'≠b:=fun b' h0 e0=>by rw[e0,aAx]at h0;cases h0
      have SY:∀(μ':Mu) x y,(∀b':Key,b'.toNat<nx.toNat→μ' b'=μ b')→Kept H (aw nx y (aw b none H)) nx nx.succ μ μ' G (kn (kn G b none) nx x):=by
       intro μ' x y DL;exact⟨fun b' fF cQ=>by rw[bN _ _ (ne_of_lt cQ),bN _ _ (ne b' fF)],DL,
        fun b' fF cQ=>by rw[aP _ _ _ _ (ne_of_lt cQ),aP _ _ _ _ (ne b' fF)];exact fF,by omega⟩
      have Wx:aB ρ μ (L++new) (vs++us.toList):=tZ.append hx.hr;by_cases hlm:len+m≤cap
      ·have qO:ad=⟨c,o,none⟩:=qO.resolve_left (by omega);subst qO;have aqR:=DM hx.hr aef;have aAy:(cap-len)*i.size=cap*i.size-len*i.size:=Nat.mul_sub_right_distrib _ _ _;have hmul:(len+m)*i.size≤cap*i.size:=Nat.mul_le_mul_right _ hlm;have DN:(len+m)*i.size=len*i.size+m*i.size:=Nat.add_mul _ _ _;have hlc:len*i.size≤cap*i.size:=Nat.mul_le_mul_right _ hle;obtain⟨w',e1,e2,e3,e4⟩:=qP P c (o+len*i.size) elem us.toList 0 w arr q2 (by simp[Qr];omega) aqR;have tY:w0.heap.size≤c:=(hM.own b _ _ hgb hg).resolve_left (by simp[ah.ro]);have al4:∀j v,μ.fz c j=some v→arr[j]?=some v∧j<o+len*i.size:=by
        intro j v hj;constructor
        ·obtain⟨KB,Wi,f',x1,x2⟩:=hM.Xw _ _ _ hj;rw[q2]at x1;cases x1;exact x2
        ·rcases KA j (o+len*i.size)with h'|h'
         ·exact h'
         ·have:=hM.fzf b _ _ (o+len*i.size) hgb hg rfl j h';rw[this]at hj;cases hj
       have aAz:(cap-(len+m))*i.size=cap*i.size-(len+m)*i.size:=Nat.mul_sub_right_distrib _ _ _;obtain⟨g1,g2,g3⟩:=hM1.mark (w':=w') nx c (o+(len+m)*i.size) ((cap-(len+m))*i.size) hM.uZ e2 e4 (by rw[oa];omega)
        (fun b' B' l' gg mm=>by
         by_cases wK:b'=b
         ·subst wK;rw[fA]at gg;cases gg
         ·rw[bN _ _ wK]at gg;exact hM.sep b' b B' _ l' _ gg hgb mm hg wK)
        (fun j v hj=>by obtain⟨y1,y2⟩:=al4 j v hj;refine⟨?_,by omega⟩;rw[jZ _ _ _ _ (by simp[Qr];omega),if_neg (by omega)];exact y1) tY (n':=nx.succ.toNat) (by omega) (by omega)
       refine⟨.slice (some ⟨c,o,none⟩) (len+m) cap,w',_,_,?_,?_,g1,g2,(hH.set b none).set nx _,SY _ _ _ (fun b' cQ=>Mu.mL _ _ _ _ _ (ne_of_lt cQ))⟩
       ·rw[iY hT ty (base:=some ⟨c,o,none⟩) hx.hn hlm hx.now];simp only[qQ,e1,o4]
       ·refine .sl _ _ _ _ cap c o _ (vs++us.toList) (Wx.mono g1) ?_ hlm (.inr rfl) ?_ ?_
        ·rw[DG,hn,hx.hl,DN]
        ·intro j v hj;by_cases hj1:j<vs.length
         ·rw[List.getElem?_append_left hj1]at hj;exact g1.f _ _ _ (hf j v hj)
         ·rw[List.getElem?_append_right (by omega)]at hj;have da:j-vs.length<us.size:=by
           rcases KA (j-vs.length) us.size with h'|h'
           ·exact h'
           ·rw[zqo (by simpa using h')]at hj;cases hj
          refine g3 _ _ (by omega) ?_;rw[jZ _ _ _ _ (by simp[Qr];omega),if_pos (by simp;omega)];rw[←hj];congr 1;omega
        ·exact Mu.kG _ _ _ _ _ _
      ·have aat:∀d,(Builtin.firstCells i.size len (.slice (some ad) len cap)).run P {w with drawn:=d}=.ok vs.toArray {w with drawn:=d}:=by
        intro d;simp only[Builtin.firstCells];by_cases h0:len=0
        ·subst h0;have:vs=[]:=zqr (by omega);subst this;simp[loadCells,loadCellsFrom]
        ·have qO:ad=⟨c,o,none⟩:=qO.resolve_left (by omega);subst qO;rw[Xx (hM.al5 d) hf (by omega),Lm (by omega)]
       obtain⟨avT,Wy,eM⟩:=run_append_grow (P:=P) (w:=w) hT ty (base:=some ad) hx.hn (by omega) hsm hx.hc aat;have N9:aB ρ μ (L++new) (vs.toArray++us).toList:=by simpa using Wx
       have ai6:(vs.toArray++us).size=(len+m)*i.size:=by rw[Array.size_append,Qr,Nat.add_mul];simp;omega
       obtain⟨μ',g1,g2,g3,g4⟩:=aas hM1 hT N9 ai6 Wy;refine⟨_,_,_,_,eM,g3,g1,g2,(hH.set b none).set nx _,SY _ _ _ (fun b' cQ=>(g4 none none H G).m b' cQ)⟩
     ·cases h
 ·rename_i b off len Lo;cases AF:(Nat.beq i.size Lo&&Nat.ble (len+m) 1048576&&new.all AV.aM)with
  |false=>rw[AF]at h;cases h
  |true=>
   rw[AF]at h;simp only[cond_true]at h;simp only[jq,Nat.ble_eq]at AF;obtain⟨⟨SX,hsm⟩,aef⟩:=AF;have SX:=o5 SX;subst SX;have hs0:=hs;cases hs with|slice _ _ _ _ cap l ad DL BT hlen qO=>
   have aqR:=DM hx.hr aef;have aFW:∀(L:List AV) (ck:CK),ag b H=some (.cells L ck)→cap<len+m→len*i.size≤(L.drop off).length→
     ∃v w' μ' G',(Builtin.append_ #[t,u] ty #[.slice (some ad) len cap,xv]).run P w=.ok v w'∧aX ρ μ' (.slice nx 0 (len+m) i.size) v∧μ.le μ'∧
      bB P ρ w0 μ' G' nx.succ.toNat w'∧HSub (aw nx (some (.cells ((bA (aS 9999) ((L.drop off).take (len*i.size)) H).1++new) .part)) (bA (aS 9999) ((L.drop off).take (len*i.size)) H).2) G'∧Kept H (aw nx (some (.cells ((bA (aS 9999) ((L.drop off).take (len*i.size)) H).1++new) .part)) (bA (aS 9999) ((L.drop off).take (len*i.size)) H).2) nx nx.succ μ μ' G G':=by
    intro L ck hL Pt hle;have hg:=hH _ _ hL;obtain⟨l',arr,elem,fz,k1,k2,k3,k4,k5,k7⟩:=hM.cells hg;rw[DL]at k1;cases k1;have aat:∀d,(Builtin.firstCells i.size len (.slice (some ad) len cap)).run P {w with drawn:=d}=.ok ((arr.toList.drop (l.base+off)).take (len*i.size)).toArray {w with drawn:=d}:=by
     intro d;simp only[Builtin.firstCells];by_cases h0:len=0
     ·subst h0;simp[loadCells,loadCellsFrom]
     ·have qO:ad=⟨l.c,l.base+off,none⟩:=qO.resolve_left (by omega);subst qO;refine nY P {w with drawn:=d} l.c (l.base+off) arr elem fz k2 (len*i.size) ?_;simp at hle;have:0<len*i.size:=Nat.mul_pos (by omega) SV;omega
    have tZ:aB ρ μ ((L.drop off).take (len*i.size)) ((arr.toList.drop (l.base+off)).take (len*i.size)):=by
     by_cases h0:len=0
     ·subst h0;simp;exact .nil
     ·have:0<len*i.size:=Nat.mul_pos (by omega) SV;simp at hle;exact Cs k3 (by omega) (by omega)
    obtain⟨μ1,G1,f1,r1⟩:=pZ (DC 9999) _ _ μ G H hM hH tZ;obtain⟨avT,Wy,eM⟩:=run_append_grow (P:=P) (w:=w) hT ty (base:=some ad) hx.hn Pt hsm hx.hc aat;have N9:aB ρ μ1 ((bA (aS 9999) ((L.drop off).take (len*i.size)) H).1++new) (((arr.toList.drop (l.base+off)).take (len*i.size)).toArray++us).toList:=by simpa using r1.append (hx.hr.mono f1.le)
    have ai6:(((arr.toList.drop (l.base+off)).take (len*i.size)).toArray++us).size=(len+m)*i.size:=by
     have:=N9.length;rw[DG,DO,UD,hx.hl]at this;have e:min (len*i.size) (L.drop off).length=len*i.size:=by omega
     rw[e,←Nat.add_mul]at this;simpa using this.symm
    obtain⟨μ',g1,g2,g3,g4⟩:=N8 f1.M hT N9 ai6 Wy;exact⟨_,_,μ',_,eM,g3,Mu.le_trans f1.le g1,g2,f1.hs.set nx _,f1.kept.trans (g4 _ _ _ _)⟩
   have aAA:∀(L:List AV) (ck:CK),ck≠.part→ck≠.rop→ag b H=some (.cells L ck)→¬(off+(len+m)*i.size≤L.length)→cap<len+m:=by
    intro L ck IL al6 hL hle;obtain⟨l',arr,elem,fz,k1,k2,k3,k4,k5,k7,k8⟩:=hM.cells (hH _ _ hL);rw[DL]at k1;cases k1;have k8:=k8 IL al6;rcases KA cap (len+m)with h'|h'
    ·exact h'
    ·have:(len+m)*i.size≤cap*i.size:=Nat.mul_le_mul_right _ h';omega
   have atG:∀(L:List AV) (ck:CK),ck≠.part→ck≠.rop→ag b H=some (.cells L ck)→¬(off+(len+m)*i.size≤L.length)→
     (AT (len*i.size) (xT off L) (OR.bad 14) (fun Wq=>LM (ZM 9999) Wq H fun Wq h=>UU Wq new (fun r=>yL nx (some (.cells r .part)) h fun h=>.val (.slice nx 0 (len+m) i.size) h nx.succ)))=.val a H' nx'→
     ∃v w' μ' G',(Builtin.append_ #[t,u] ty #[.slice (some ad) len cap,xv]).run P w=.ok v w'∧aX ρ μ' a v∧μ.le μ'∧bB P ρ w0 μ' G' nx'.toNat w'∧HSub H' G'∧Kept H H' nx nx' μ μ' G G':=by
    intro L ck IL al6 hL hle h;simp only[takeC_eq,dropL_eq,yv (GD 9999),appC_eq,sTCe]at h;split at h
    ·rename_i aau;simp only[OR.val.injEq]at h;obtain⟨rfl,rfl,rfl⟩:=h;exact aFW L ck hL (aAA L ck IL al6 hL hle) aau
    ·cases h
   split at h
   ·rename_i L hL;cases hle:Nat.ble (off+(len+m)*i.size) (lenL L)with
    |true=>
     rw[hle]at h;rw[lenL_eq,Nat.ble_eq]at hle;simp only[cond_true]at h;rw[putC_eq]at h;split at h
     ·rename_i aFX;rw[sTCe]at h;simp only[OR.val.injEq]at h;obtain⟨rfl,rfl,rfl⟩:=h;have hg:=hH _ _ hL;obtain⟨l',arr,elem,fz,k1,k2,k3,k4,k5,k7,k8⟩:=hM.cells hg;rw[DL]at k1;cases k1;have k8:=k8 (by simp);have hlm:len+m≤cap:=by
       have:(len+m)*i.size≤cap*i.size:=by omega
       exact Nat.le_of_mul_le_mul_right this SV
      obtain⟨w',e1,e2,e3⟩:=ahk hM hg (by simp) (by simp) DL hx.hr aqR (off:=off+len*i.size) aFX;have fj:(storeCells (ad.add (len*i.size)) us.toList).run P w=.ok () w':=by
       rcases qO with h0|h0
       ·have NY:m=0:=by omega
        subst NY;have:us=#[]:=by apply Array.eq_empty_of_size_eq_zero;simpa using Qr
        subst this;exact e1
       ·subst h0;rw[qQ,Nat.add_assoc];exact e1
      refine⟨.slice (some ad) (len+m) cap,w',_,_,?_,.slice b off _ _ cap l ad (Mu.eL _ _ _) BT hlm qO,e2,e3,hH.set b _,Cy hL DL _ _⟩;rw[iY hT ty (base:=some ad) hx.hn hlm hx.now];simp only[fj,o4]
     ·cases h
    |false=>
     rw[hle]at h;have hle:¬(off+(len+m)*i.size≤L.length):=by rw[←Nat.ble_eq,←lenL_eq,hle];simp
     exact atG L .fix (by simp) (by simp) hL hle h
   ·rename_i L hL;cases hle:Nat.ble (off+(len+m)*i.size) (lenL L)with
    |true=>rw[hle]at h;cases h
    |false=>
     rw[hle]at h;have hle:¬(off+(len+m)*i.size≤L.length):=by rw[←Nat.ble_eq,←lenL_eq,hle];simp
     exact atG L .ro (by simp) (by simp) hL hle h
   ·rename_i L hL;have hg:=hH _ _ hL;obtain⟨l',arr,elem,fz,k1,k2,k3,k4,k5,k7,k8⟩:=hM.cells hg;rw[DL]at k1;cases k1;have k7:=k7 (by simp);subst k7;cases NY:Nat.beq m 0 with
    |true=>
     rw[NY]at h;simp only[cond_true,OR.val.injEq]at h;obtain⟨rfl,rfl,rfl⟩:=h;have hm:=o5 NY;subst hm;have hus:us=#[]:=by apply Array.eq_empty_of_size_eq_zero;simpa using Qr
     subst hus;refine⟨.slice (some ad) len cap,w,μ,G,?_,hs0,μ.le_refl,hM,hH,Kept.refl _ _ _ _⟩;rw[iY hT ty (base:=some ad) (sLen:=len) (sCap:=cap) hx.hn (by omega) hx.now];simp[storeCells]
    |false=>
     rw[NY]at h;simp only[cond_false]at h;have aAv:m≠0:=by intro e;subst e;cases NY
     cases hc1:((Nat.beq off 0 || !Jb i.size)&&Nat.beq (off+len*i.size) (lenL L))with
     |false=>rw[hc1]at h;cases h
     |true=>
      rw[hc1]at h;simp only[cond_true]at h;simp only[jq]at hc1;have Wz:=hc1.1;have hLl:=o5 hc1.2;rw[lenL_eq]at hLl;have hM1:bB P ρ w0 μ (kn G b none) nx.toNat w:=hM.sub (fun b' B' e'=>by
       by_cases hb:b'=b
       ·subst hb;rw[fA]at e';cases e'
       ·rw[bN _ _ hb]at e';exact e')
      have ne:∀b',ag b' H=none→b'≠b:=fun b' h0 e0=>by rw[e0,hL]at h0;cases h0
      have SY:∀(μ':Mu) x y,(∀b':Key,b'.toNat<nx.toNat→μ' b'=μ b')→Kept H (aw nx y (aw b none H)) nx nx.succ μ μ' G (kn (kn G b none) nx x):=by
       intro μ' x y DL;exact⟨fun b' fF cQ=>by rw[bN _ _ (ne_of_lt cQ),bN _ _ (ne b' fF)],DL,
        fun b' fF cQ=>by rw[aP _ _ _ _ (ne_of_lt cQ),aP _ _ _ _ (ne b' fF)];exact fF,by omega⟩
      have atH:aB ρ μ (L.drop off) ((arr.toList.drop (l.base+off)).take (len*i.size)):=by have:=Cs k3 (off:=off) (n:=len*i.size) (by omega) (by omega);rw[Lm (by simp;omega)]at this;exact this
      have Wx:aB ρ μ (L.drop off++new) ((arr.toList.drop (l.base+off)).take (len*i.size)++us.toList):=atH.append hx.hr;have hvl:=atH.length;rw[List.length_drop]at hvl;by_cases hlm:len+m≤cap
      ·have qO:ad=⟨l.c,l.base+off,none⟩:=qO.resolve_left (by omega);subst qO;have hmul:(len+m)*i.size≤cap*i.size:=Nat.mul_le_mul_right _ hlm;have DN:(len+m)*i.size=len*i.size+m*i.size:=Nat.add_mul _ _ _;obtain⟨w',e1,e2,e3,e4⟩:=qP P l.c (l.base+off+len*i.size) elem us.toList 0 w arr k2 (by simp[Qr];omega) aqR;have tY:w0.heap.size≤l.c:=(hM.own b _ _ hg DL).resolve_left (by simp[ah.ro]);have atI:∀j,μ.fz l.c j=none:=hM.lo0 hg DL rfl;cases hkw:Jb i.size with
       |true=>
        rw[hkw]at h Wz;simp only[Bool.not_true,Bool.or_false]at Wz;have avU:=o5 Wz;subst avU;simp only[Nat.add_zero,Nat.zero_add,List.drop_zero]at *;simp only[cond_true,appC_eq,sTCe,OR.val.injEq]at h;obtain⟨rfl,rfl,rfl⟩:=h;have aeg:μ.le (μ.put nx l):=Mu.G9 (.inl hM.uZ);have aP5:L.length=len*i.size:=hLl.symm;have hB:Mz P ρ (μ.put nx l) (.cells (L++new) .part) l (.cells (mg arr (l.base+len*i.size) us.toList) elem (0,0)):=by
         refine .cells _ .part _ _ elem (0,0) ?_ (by rw[oa];omega) (by rw[DG,hx.hl];omega) (fun _=>rfl) (fun h=>absurd rfl h);intro j a ha;obtain⟨v,hv,hr⟩:=Wx.get j a ha;refine⟨v,?_,hr.mono aeg⟩;have da:j<len*i.size+us.size:=by
          rcases KA j (len*i.size+us.size)with h'|h'
          ·exact h'
          ·rw[zqo (by simp;omega)]at hv;cases hv
         rw[jZ _ _ _ _ (by simp[Qr];omega)];by_cases hj1:j<len*i.size
         ·rw[if_neg (by omega)];rw[List.getElem?_append_left (by omega),List.getElem?_take_of_lt hj1,List.getElem?_drop]at hv;simpa using hv
         ·rw[if_pos (by simp;omega)];rw[List.getElem?_append_right (by omega)]at hv;rw[←hv];congr 1;omega
        obtain⟨g1,g2⟩:=hM1.put (w':=w') nx (.cells (L++new) .part) l _ (.inl hM.uZ) e2 e4 hB
         (fun b' B' l' gg mm _=>by
          by_cases wK:b'=b
          ·subst wK;rw[fA]at gg;cases gg
          ·rw[bN _ _ wK]at gg;exact hM.sep b' b B' _ l' _ gg hg mm DL wK) tY (nx':=nx.succ.toNat) (by omega) (by omega) atI
        refine⟨.slice (some ⟨l.c,l.base,none⟩) (len+m) cap,w',_,_,?_,?_,g1,g2,(hH.set b none).set nx _,SY _ _ _ (fun b' cQ=>Mu.wZ _ _ (ne_of_lt cQ))⟩
        ·rw[iY hT ty (base:=some ⟨l.c,l.base,none⟩) hx.hn hlm hx.now];simp only[qQ,e1,o4]
        ·exact .slice nx 0 _ _ cap l _ (Mu.eL _ _ _) (by simpa using BT) hlm (.inr rfl)
       |false=>
        rw[hkw]at h;simp only[cond_false,appC_eq,dropL_eq,sTCe,OR.val.injEq]at h;obtain⟨rfl,rfl,rfl⟩:=h;have aAz:(cap-(len+m))*i.size=cap*i.size-(len+m)*i.size:=Nat.mul_sub_right_distrib _ _ _;obtain⟨g1,g2,g3⟩:=hM1.mark (w':=w') nx l.c ((l.base+off)+(len+m)*i.size) ((cap-(len+m))*i.size) hM.uZ e2 e4 (by rw[oa];omega)
         (fun b' B' l' gg mm=>by
          by_cases wK:b'=b
          ·subst wK;rw[fA]at gg;cases gg
          ·rw[bN _ _ wK]at gg;exact hM.sep b' b B' _ l' _ gg hg mm DL wK)
         (fun j v hj=>by rw[atI j]at hj;cases hj) tY (n':=nx.succ.toNat) (by omega) (by omega)
        refine⟨.slice (some ⟨l.c,l.base+off,none⟩) (len+m) cap,w',_,_,?_,?_,g1,g2,(hH.set b none).set nx _,SY _ _ _ (fun b' cQ=>Mu.mL _ _ _ _ _ (ne_of_lt cQ))⟩
        ·rw[iY hT ty (base:=some ⟨l.c,l.base+off,none⟩) hx.hn hlm hx.now];simp only[qQ,e1,o4]
        ·refine .sl _ _ _ _ cap l.c (l.base+off) _ ((arr.toList.drop (l.base+off)).take (len*i.size)++us.toList) (Wx.mono g1) ?_ hlm (.inr rfl) ?_ ?_
         ·rw[DG,List.length_drop,←hLl,hx.hl,DN];omega
         ·intro j v hj;have da:j<len*i.size+us.size:=by
           rcases KA j (len*i.size+us.size)with h'|h'
           ·exact h'
           ·rw[zqo (by simp;omega)]at hj;cases hj
          refine g3 _ _ (by omega) ?_;rw[jZ _ _ _ _ (by simp[Qr];omega)];by_cases hj1:j<len*i.size
          ·rw[if_neg (by omega)];rw[List.getElem?_append_left (by omega),List.getElem?_take_of_lt hj1,List.getElem?_drop]at hj;simpa using hj
          ·rw[if_pos (by simp;omega)];rw[List.getElem?_append_right (by omega)]at hj;rw[←hj];congr 1;omega
         ·exact Mu.kG _ _ _ _ _ _
      ·have aat:∀d,(Builtin.firstCells i.size len (.slice (some ad) len cap)).run P {w with drawn:=d}=.ok ((arr.toList.drop (l.base+off)).take (len*i.size)).toArray {w with drawn:=d}:=by
        intro d;simp only[Builtin.firstCells];by_cases h0:len=0
        ·subst h0;simp[loadCells,loadCellsFrom]
        ·have qO:ad=⟨l.c,l.base+off,none⟩:=qO.resolve_left (by omega);subst qO;refine nY P {w with drawn:=d} l.c (l.base+off) arr elem (0,0) k2 (len*i.size) ?_;omega
       obtain⟨avT,Wy,eM⟩:=run_append_grow (P:=P) (w:=w) hT ty (base:=some ad) hx.hn (by omega) hsm hx.hc aat;have N9:aB ρ μ (L.drop off++new) (((arr.toList.drop (l.base+off)).take (len*i.size)).toArray++us).toList:=by simpa using Wx
       have ai6:(((arr.toList.drop (l.base+off)).take (len*i.size)).toArray++us).size=(len+m)*i.size:=by rw[Array.size_append,Qr,Nat.add_mul];simp at hvl ⊢;omega
       cases hkw:Jb i.size with
       |true=>rw[hkw]at h Wz;simp only[Bool.not_true,Bool.or_false]at Wz;have avU:=o5 Wz;subst avU;rw[List.drop_zero]at N9;simp only[cond_true,appC_eq,sTCe,OR.val.injEq]at h;obtain⟨rfl,rfl,rfl⟩:=h;obtain⟨μ',g1,g2,g3,g4⟩:=N8 hM1 hT N9 ai6 Wy;exact⟨_,_,_,_,eM,g3,g1,g2,(hH.set b none).set nx _,SY _ _ _ (fun b' cQ=>(g4 none none H G).m b' cQ)⟩
       |false=>rw[hkw]at h;simp only[cond_false,appC_eq,dropL_eq,sTCe,OR.val.injEq]at h;obtain⟨rfl,rfl,rfl⟩:=h;obtain⟨μ',g1,g2,g3,g4⟩:=aas hM1 hT N9 ai6 Wy;refine⟨_,_,_,_,eM,g3,g1,g2,(hH.set b none).set nx _,SY _ _ _ (fun b' cQ=>(g4 none none H G).m b' cQ)⟩
   ·cases h
 ·cases h
end
section
variable{P:Program}{ρ:Nat→Int}{w0:W0}{w:World}{μ:Mu}{G:Key→Option ah}{nx:Key}{orc:iV}{nt:Nat}{tm:T AV}{H:T ah}{ev:Operand→Value}
theorem bB.asX(hM:bB P ρ w0 μ G nx.toNat w){w':World}(hT:Touch w w' w.heap.size){arr:Array Value}{elem:TypeId}{f:Nat×Nat}(IP:w'.heap[w.heap.size]?=some (.cells arr elem f)) :
  μ.le ⟨μ.loc,fun c i=>if c=w.heap.size then arr[i]? else μ.fz c i⟩∧bB P ρ w0 ⟨μ.loc,fun c i=>if c=w.heap.size then arr[i]? else μ.fz c i⟩ G nx.toNat w':=by
 have hold:∀c i v,μ.fz c i=some v→c≠w.heap.size:=by intro c i v h e;subst e;rw[hM.aee]at h;cases h
 have hle:μ.le ⟨μ.loc,fun c i=>if c=w.heap.size then arr[i]? else μ.fz c i⟩:=
  ⟨fun _ _ h=>h,fun c i v h=>by show(if c=w.heap.size then arr[i]? else μ.fz c i)=some v;rw[if_neg (hold c i v h)];exact h⟩
 have yw:w0.heap.size≤w.heap.size:=hM.below.size;refine⟨hle,?_,hM.sep,?_,hM.own,hM.Qq,hM.new,hT.below hM.below yw yw,?_,?_,?_,?_,?_,Nat.le_trans hM.dr hT.dr⟩
 ·intro b B hg;obtain⟨l,o,h1,h2,h3⟩:=hM.BO b B hg;have:=hM.AX b l h1;exact⟨l,o,h1,by rw[hT.other l.c (by omega) this];exact h2,h3.mono hle⟩
 ·intro b l h;exact O5 (hM.AX b l h) hT.size
 ·intro c i v h;have h:(if c=w.heap.size then arr[i]? else μ.fz c i)=some v:=h;by_cases hc:c=w.heap.size
  ·subst hc;rw[if_pos rfl]at h;exact⟨arr,elem,f,IP,h⟩
  ·rw[if_neg hc]at h;obtain⟨KB,Wi,f',h1,h2⟩:=hM.Xw c i v h;have cQ:c<w.heap.size:=by
    rcases KA c w.heap.size with h'|h'
    ·exact h'
    ·rw[ZS h']at h1;cases h1
   exact⟨KB,Wi,f',by rw[hT.other c hc cQ];exact h1,h2⟩
 ·intro b B l n hg hm lV i hi;have:=hM.AX b l hm;show(if l.c=w.heap.size then arr[i]? else μ.fz l.c i)=none;rw[if_neg (by omega)];exact hM.fzf b B l n hg hm lV i hi
 ·intro c i v h;exact hle.f c i v (hM.zle c i v h)
 ·intro c i v h;have h:(if c=w.heap.size then arr[i]? else μ.fz c i)=some v:=h;by_cases hc:c=w.heap.size
  ·exact .inl (by omega)
  ·rw[if_neg hc]at h;exact hM.fzo c i v h
 ·intro b L l hg hm;rcases hM.rof b L l hg hm with h|h
  ·exact .inl h
  ·refine .inr fun KB e ff i v ha hv=>hle.f _ _ _ (h KB e ff i v ?_ hv);have:=hM.AX b l hm
   rwa [hT.other l.c (by omega) this]at ha
theorem ac0(w:World)(e:TypeId)(s:ByteArray):Touch w (Lib.bytesWorld w e s) w.heap.size:=by
 refine⟨?_,?_,?_,?_,fun k hk hs=>Lib.bytesWorld_at_old w e s k hs,?_⟩
 ·simp[Lib.bytesWorld,World.freeze,World.alloc,World.drew,-World.alloc_eq,-World.drew_eq]
 ·simp[Lib.bytesWorld,World.freeze,World.alloc,World.drew,-World.alloc_eq,-World.drew_eq]
 ·simp[Lib.bytesWorld,World.freeze,World.alloc,World.drew,-World.alloc_eq,-World.drew_eq]
 ·rw[Lib.bytesWorld_size];omega
 ·simp[Lib.bytesWorld,World.freeze,World.alloc,World.drew,-World.alloc_eq,-World.drew_eq]
theorem Nd:∀(n c:Nat),(bytesOf n c).length=n
 |0,_=>rfl
 |n+1,c=>by simp[bytesOf,Nd n]
theorem Nf:∀(l:List UInt8),aB ρ μ (bytesOf l.length (enc l)) (l.map fun b=>Value.int .u8 ((b.toNat:Nat):Int))
 | []=>.nil
 |b ::l=>by
  have hb:b.toNat<256:=b.toNat_lt;have h1:(b.toNat+256*enc l)%256=b.toNat:=by omega
  have h2:(b.toNat+256*enc l) / 256=enc l:=by omega
  simp only[ZW,bytesOf,enc,h1,h2,ZC];exact .cons _ _ _ _ (.int _ _ _ rfl) (Nf l)
theorem agG(hM:bB P ρ w0 μ G nx.toNat w)(hH:HSub H G){o:Oper}{px:PX}(hp:jJ P nt o=some (.strb px))(hE:Co P ρ μ nt o.op.operands.toList tm ev)
  {a:AV} {H':T ah} {nx':Key} (h:aOp orc (.strb px) tm H nx=.val a H' nx'):Oy P ρ w0 μ G H nx w (Go.execOp ev o) a H' nx':=by
 obtain⟨dst,Ir,ty,pos,after,guard⟩:=o;obtain⟨src,dt,x,e,e0,hs,hd,he,hx⟩:=kH hp;simp only at e0;subst e0;simp only[aOp]at h;split at h
 ·rename_i n c hc;simp only[OR.val.injEq]at h;obtain⟨rfl,rfl,rfl⟩:=h;have hr:=hE x (by simp[Op.operands]) px _ hx hc;generalize pg:ev x=xx at hr;cases hr with|str _ _ s e1 e2=>
  subst e1 e2;have eM:=Lib.run_convert_string_bytes (P:=P) w src dt e s hs hd he;have IP:=Lib.bytesWorld_at_new w e s;obtain⟨g1,g2⟩:=hM.asX (ac0 w e s) IP;have yw:s.size=s.data.toList.length:=Array.length_toList.symm;refine⟨.value (.slice (some ⟨w.heap.size,0,none⟩) s.size (grownCap w s.size 0 e)),Lib.bytesWorld w e s,_,G,?_,?_,g1,g2,hH,⟨fun _ _ _=>rfl,fun _ _=>rfl,fun _ h _=>h,fE _⟩⟩
  ·show(do pure (Next.value (←convert src dt (ev x))):Sem Next).run P w=_;rw[pg];exact fN eM
  ·rw[yw];refine .sl _ _ _ _ _ w.heap.size 0 _ (s.data.toList.map fun b=>Value.int .u8 ((b.toNat:Nat):Int)) (Nf _) (by rw[Nd,Nat.mul_one]) ?_ (.inr rfl) ?_ trivial
   ·simp only[grownCap,Question.cut];omega
   ·intro i v hv;show(if w.heap.size=w.heap.size then(Lib.bytesCells w e s)[0+i]? else _)=some v;rw[if_pos rfl,Nat.zero_add];have hi:i<s.data.toList.length:=by
     rcases KA i s.data.toList.length with h'|h'
     ·exact h'
     ·rw[zqo (by simpa using h')]at hv;cases hv
    rw[←hv];unfold Lib.bytesCells;rw[Array.getElem?_append_left (by simpa using hi)];simp
 ·cases h
end
section
variable{P:Program}{ρ:Nat→Int}{w0:W0}{w:World}{μ:Mu}{G:Key→Option ah}{nx:Key}{orc:iV}{nt:Nat}{tm:T AV}{H:T ah}{ev:Operand→Value}
theorem PR:∀(l:List UInt8),aB ρ μ (bytesOf l.length (enc l)) (l.map fun b=>Value.int .u8 ((b.toNat:Nat):Int))
 | []=>.nil
 |b ::l=>by
  have hb:b.toNat<256:=b.toNat_lt;have h1:(b.toNat+256*enc l)%256=b.toNat:=by omega
  have h2:(b.toNat+256*enc l) / 256=enc l:=by omega
  simp only[ZW,bytesOf,enc,h1,h2,ZC];exact .cons _ _ _ _ (.int _ _ _ rfl) (PR l)
theorem PS:∀(n c:Nat),(bytesOf n c).length=n
 |0,_=>rfl
 |n+1,c=>by simp[bytesOf,PS n]
theorem Za(hM:bB P ρ w0 μ G nx.toNat w)(hH:HSub H G){o:Oper}{sz:Nat}{ps px:PX}(hp:jJ P nt o=some (.append sz ps px))(hE:Co P ρ μ nt o.op.operands.toList tm ev)
  {a:AV} {H':T ah} {nx':Key} (h:aOp orc (.append sz ps px) tm H nx=.val a H' nx'):Oy P ρ w0 μ G H nx w (Go.execOp ev o) a H' nx':=by
 obtain⟨dst,Ir,ty,pos,after,guard⟩:=o;obtain⟨c,s,x,t,u,e,i,ie,e0,aCN,dI,hty,hu,hu',Qu,hi,yw,SV,hzl,hby,hs,hx⟩:=kH hp;obtain⟨callee,args,argTypes⟩:=c;simp only at e0 aCN dI hty;subst e0 aCN dI hty;obtain⟨i',d,z,Vr,hd,hz,Yy,aKN,Rz⟩:=kq Qu;rw[hi]at Vr;cases Vr;have hzr:aB ρ μ ie.zero.cells z.cells.toList:=(iE wN z ie.zero Yy).cells;have hzs:z.cells.size=i.size:=by rw[←aKN,←hzl,hzr.length];simp
 have hT:ai3 P t u e i z:=⟨hu,hu',hi,hz,by omega,hzs,hby⟩;have SX:sz=i.size:=by omega
 subst SX;have hms:s∈(Op.call ⟨.builtin .append,#[s,x],#[t,u]⟩).operands.toList:=by simp[Op.operands,Call.operands]
 have hmx:x∈(Op.call ⟨.builtin .append,#[s,x],#[t,u]⟩).operands.toList:=by simp[Op.operands,Call.operands]
 have ax5:∀(sa:AV) (new:List AV) (m:Nat) (us:Array Value) (μ1:Mu) (G1:Key→Option ah) (H1:T ah),iu P ρ w0 w nx μ G H μ1 G1 H1→ps.at tm=some sa→SS P ρ μ1 w i.size (ev x) new m us→appendTo i.size sa new m H1 nx=.val a H' nx'→
   Oy P ρ w0 μ G H nx w (Go.execOp ev ⟨dst,.call ⟨.builtin .append,#[s,x],#[t,u]⟩,ty,pos,after,guard⟩) a H' nx':=by
  intro sa new m us μ1 G1 H1 f1 hsa ax6 hap;obtain⟨v,w',μ',G',r1,r2,r3,r4,r5,r6⟩:=SU f1.M f1.hs hT ty ((hE s hms ps sa hs hsa).mono f1.le) ax6 hap;refine⟨.value v,w',μ',G',?_,r2,Mu.le_trans f1.le r3,r4,r5,f1.kept.trans r6⟩;have:Go.execOp ev ⟨dst,.call ⟨.builtin .append,#[s,x],#[t,u]⟩,ty,pos,after,guard⟩=(do pure (.value (←Builtin.append_ #[t,u] ty (#[s,x].map ev)))):=rfl;have e2:#[s,x].map ev=#[ev s,ev x]:=by simp
  rw[this,e2];exact fN r1
 have fin:∀(sa:AV) (new:List AV) (m:Nat) (us:Array Value),ps.at tm=some sa→SS P ρ μ w i.size (ev x) new m us→appendTo i.size sa new m H nx=.val a H' nx'→
   Oy P ρ w0 μ G H nx w (Go.execOp ev ⟨dst,.call ⟨.builtin .append,#[s,x],#[t,u]⟩,ty,pos,after,guard⟩) a H' nx':=
  fun sa new m us hsa ax6 hap=>ax5 sa new m us μ G H (iu.refl hM hH) hsa ax6 hap
 simp only[aOp]at h;split at h
 ·rename_i sa hsa hxa;have hv:=hE x hmx px _ hx hxa;generalize pg:ev x=xx at hv fin;cases hv;exact fin sa [] 0 #[] hsa ⟨rfl,fun _=>rfl,.nil,by simp⟩ h
 ·rename_i sa b off len Lo hsa hxa;replace h:=(show Nat.beq i.size Lo=true∧_ from by
   cases hb:Nat.beq i.size Lo with
   |false=>rw[hb]at h;cases h
   |true=>rw[hb]at h;exact⟨rfl,h⟩)
  obtain⟨ao6,h⟩:=h;have ao6:=o5 ao6;subst ao6;simp only[cond_true]at h;split at h
  ·rename_i L ck hL;rw[takeC_eq,dropL_eq]at h;split at h
   ·rename_i hle;have hv:=hE x hmx px _ hx hxa;generalize pg:ev x=xx at hv ax5;cases hv with|slice _ _ _ _ cap l ad DL BT hlen qO=>
    obtain⟨l',arr,elem,fz,k1,k2,k3,k4,k5,k7⟩:=hM.cells (hH _ _ hL);rw[DL]at k1;cases k1;rw[yv (GD 9999)]at h;have tZ:aB ρ μ ((L.drop off).take (len*i.size)) ((arr.toList.drop (l.base+off)).take (len*i.size)):=by
     by_cases h0:len=0
     ·subst h0;simp;exact .nil
     ·have:0<len*i.size:=Nat.mul_pos (by omega) (by omega);simp at hle;simpa using Cs k3 (by omega) (by omega)
    obtain⟨μ1,G1,f1,r1⟩:=pZ (DC 9999) _ _ μ G H hM hH tZ;refine ax5 sa _ len ((arr.toList.drop (l.base+off)).take (len*i.size)).toArray μ1 G1 _ f1 hsa ⟨rfl,?_,r1,?_⟩ h
    ·intro d;simp only[Builtin.firstCells];by_cases h0:len=0
     ·subst h0;simp[loadCells,loadCellsFrom]
     ·have qO:ad=⟨l.c,l.base+off,none⟩:=qO.resolve_left (by omega);subst qO;refine nY P {w with drawn:=d} l.c (l.base+off) arr elem fz k2 (len*i.size) ?_;simp at hle;have:0<len*i.size:=Nat.mul_pos (by omega) (by omega);omega
    ·rw[DO,UD];omega
   ·cases h
  ·cases h
 ·rename_i sa L len Lo fl hsa hxa;cases hb:Nat.beq i.size Lo with
  |false=>rw[hb]at h;cases h
  |true=>
   rw[hb]at h;simp only[cond_true]at h;have ao6:=o5 hb;subst ao6;have hv:=hE x hmx px _ hx hxa;generalize pg:ev x=xx at hv fin;cases hv with|sl _ _ _ _ cap c o ad vs tZ hn hle qO hf hg=>
   have hvl:=tZ.length;refine fin sa L len vs.toArray hsa ⟨rfl,?_,by simpa using tZ,hn⟩ h;intro d;simp only[Builtin.firstCells];by_cases h0:len=0
   ·subst h0;have:vs=[]:=zqr (by omega);subst this;simp[loadCells,loadCellsFrom]
   ·have qO:ad=⟨c,o,none⟩:=qO.resolve_left (by omega);subst qO;rw[Xx (hM.al5 d) hf (by omega),Lm (by omega)]
 ·rename_i sa n c hsa hxa;cases hb:Nat.beq i.size 1 with
  |false=>rw[hb]at h;cases h
  |true=>
   rw[hb]at h;simp only[cond_true]at h;have h1:=o5 hb;have hv:=hE x hmx px _ hx hxa;generalize pg:ev x=xx at hv fin;cases hv with|str _ _ st fj asR=>
   subst fj asR;refine fin sa _ _ (st.data.map fun b=>Value.int .u8 ((b.toNat:Nat):Int)) hsa ⟨?_,?_,?_,?_⟩ h
   ·simp only[Builtin.lenOf,xA,Lib.size_eq]
   ·intro d;simp only[Builtin.firstCells,xA];have:(st.extract 0 st.data.toList.length)=st:=by apply ByteArray.ext;apply Array.ext';rw[Lib.extract_data];simp only[List.drop_zero,Nat.sub_zero,List.take_length]
    rw[this]
   ·simpa using PR (ρ:=ρ) (μ:=μ) st.data.toList
   ·rw[PS,h1,Nat.mul_one]
 ·cases h
theorem ax7{x:Option AV}{a:AV}{H':T ah}{nx':Key}(h:okV H nx x=.val a H' nx'):x=some a∧H'=H∧nx'=nx:=by
 cases x with
 |none=>cases h
 |some v=>simp only[okV,OR.val.injEq]at h;exact⟨by rw[h.1],h.2.1.symm,h.2.2.symm⟩
theorem W7(hM:bB P ρ w0 μ G nx.toNat w)(hH:HSub H G)(ho:fk ρ orc){o:Oper}{op:Lr}(hp:jJ P nt o=some op)(hE:Co P ρ μ nt o.op.operands.toList tm ev)
  {a:AV} {H':T ah} {nx':Key} (h:aOp orc op tm H nx=.val a H' nx'):Oy P ρ w0 μ G H nx w (Go.execOp ev o) a H' nx':=by
 have aKO:okV H nx (lightOp orc op tm H)=.val a H' nx'→Oy P ρ w0 μ G H nx w (Go.execOp ev o) a H' nx':=by intro h;obtain⟨h1,rfl,rfl⟩:=ax7 h;obtain⟨v,h2,h3⟩:=PA hM hH ho hp hE h1;exact aeL hM hH h2 h3
 have ao7:(match allocOp op tm with|some (v,b)=>newB v b H nx|none=>.bad 2)=.val a H' nx'→Oy P ρ w0 μ G H nx w (Go.execOp ev o) a H' nx':=by
  intro h;split at h
  ·rename_i f B hl;obtain⟨rfl,rfl,rfl⟩:=ar8 h;exact aeM hM hH hp hE hl
  ·cases h
 cases op with
 |store n pa pv=>exact abN hM hH hp hE h
 |mapupd sk pm pk pv=>exact Y3 hM hH ho hp hE h
 |strb px=>exact agG hM hH hp hE h
 |append sz ps px=>exact Za hM hH hp hE h
 |new zs=>exact ao7 h
 |box x=>exact ao7 h
 |bslice sz len zs ps=>exact ao7 h
 |mkmap=>exact ao7 h
 |mkslice sz zs l c=>exact ao7 h
 |callF f l=>simp only[aOp]at h;split at h<;>cases h
 |callV v l=>simp only[aOp]at h;split at h<;>cases h
 |dfr v l=>simp only[aOp]at h;split at h<;>cases h
 |panic x=>simp only[aOp]at h;split at h<;>cases h
 |recover=>cases h
 |_=>exact aKO h
end
end Go.Sx
