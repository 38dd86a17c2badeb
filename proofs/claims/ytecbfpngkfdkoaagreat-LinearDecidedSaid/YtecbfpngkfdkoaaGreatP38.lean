/- A part of the proof. No condition. -/
import Derived.Test.YtecbfpngkfdkoaaGreatP35
import Derived.Test.YtecbfpngkfdkoaaGreatP34
import Derived.Test.YtecbfpngkfdkoaaGreatP20
import Derived.Test.YtecbfpngkfdkoaaGreatP36
import Derived.Test.YtecbfpngkfdkoaaGreatP33
set_option linter.unusedSimpArgs false
set_option linter.unusedVariables false
set_option linter.unusedSectionVars false
namespace Ln
open Go.Sx Go
variable{C:bU}{X:Kn}(S:Std C X)
include S
end Ln
namespace Ln
open Go.Sx Go
theorem Pk(x:Ev):∀(l p:List Ev),dI p l=0→dI p (l ++ [x])=KH (l.reverse++p) x
 | [],p,_=>by show(match KH p x with|0=>dI (x ::p) []|n=>n)=KH p x;cases KH p x<;>rfl
 |y ::l,p,h=>by
  have h':(match KH p y with|0=>dI (y ::p) l|n=>n)=0:=h;have hb:KH p y=0:=by
   cases hb:KH p y with
   |zero=>rfl
   |succ n=>rw[hb]at h';simp at h'
  have hv:dI (y ::p) l=0:=by simpa[hb]using h'
  show(match KH p y with|0=>dI (y ::p) (l ++ [x])|n=>n)=_;simp only[hb];rw[Pk x l (y ::p) hv];simp
theorem GR(i:Nat)(x:Ev)(o:Op):(jv i x o).name=o.name∧(jv i x o).args=o.args∧(jv i x o).b=o.b:=by
 unfold jv;split
 ·split
  ·exact⟨rfl,rfl,rfl⟩
  ·split<;>exact⟨rfl,rfl,rfl⟩
 ·exact⟨rfl,rfl,rfl⟩
theorem Q3{i:Nat}:∀{l:List Op},(∀o∈l,∃c,w7 i o.name=some c∧o.args.length=c.ar)→ux i l=0
 | [],_=>rfl
 |o ::l,h=>by obtain⟨c,h1,h2⟩:=h o (by simp);show(match w7 i o.name with|none=>6|some c=>if o.args.length=c.ar then ux i l else 1)=0;rw[h1];simp only[h2,if_true];exact Q3 fun o ho=>h o (by simp[ho])
theorem anH{i:Nat}(hi:i<3){c:j6}(h:c∈aU i):w7 i c.name=some c:=by
 have:i=0∨i=1∨i=2:=by omega
 rcases this with rfl|rfl|rfl<;>cases c<;>first|(exact absurd h (by decide))|decide
theorem awN(c:j6):c.name≠(0,0)∧c.name.1≤16∧c.ar≤1:=by cases c<;>decide
structure Cln(mi:Nat)(l:List Ev)(g:GS):Prop where
 v:dI [] l=0
 o:∀c:Nat,c<3→(g.o c=true↔0≤pW c l.reverse)
 b:ux mi (aI 0 l)=0
theorem Cln.nil(mi:Nat){g:GS}(h:g.o=fun _=>false):Cln mi [] g:=⟨rfl,fun c _=>by simp[h,pW],rfl⟩
theorem Cln.step{mi:Nat}(hi:mi<3){l:List Ev}{g g':GS}{x:Ev}(C:Cln mi l g)(s:Z3 mi g x g'):Cln mi (l ++ [x]) g':=by
 have hv:=Pk x l [] C.v;have hold:∀o∈(aI 0 l).map (jv (0+l.length) x),∃c,w7 mi o.name=some c∧o.args.length=c.ar:=by intro o ho;obtain⟨o',EK,rfl⟩:=KT.1 ho;obtain⟨n1,n2,_⟩:=GR (0+l.length) x o';rw[n1,n2];exact Yx C.b o' EK
 cases s with
 |lost h ho=>
  refine⟨?_,?_,?_⟩
  ·rw[hv];subst h;rfl
  ·intro c hc;rw[ho,List.reverse_append];have:pW (c:Int) (x ::l.reverse)=-1:=ahN (by subst h;rfl);show(false=true↔0≤pW (c:Int) (x ::l.reverse));rw[this];simp
  ·refine Q3 ?_;rw[vO];subst h;intro o ho;rcases List.mem_append.1 ho with ho|ho
   ·exact hold o ho
   ·simp at ho
 |ends c r hc ho h EK=>
  have NF:=(C.o c hc).1 ho;refine⟨?_,?_,?_⟩
  ·rw[hv];subst h;unfold KH;have h1:CD ⟨1,c,(0,0),[],⟨0,r⟩⟩=true:=by unfold CD;rw[decide_eq_true_eq];simp[uA];omega
   rw[h1];simp;omega
  ·intro d hd;have hx:x.kind=1:=by subst h;rfl
   have hxc:x.client=c:=by subst h;rfl
   rw[EK,List.reverse_append];show((ku g.o c false) d=true↔0≤pW (d:Int) (x ::l.reverse));rw[ahO hx,hxc];by_cases e:d=c
   ·subst e;simp[ku]
   ·have e':¬(d:Int)=c:=by omega
    rw[if_neg e'];have:ku g.o c false d=g.o d:=by simp[ku,e]
    rw[this];exact C.o d hd
  ·refine Q3 ?_;rw[vO];intro o ho;rcases List.mem_append.1 ho with ho|ho
   ·exact hold o ho
   ·rw[if_neg (by subst h;simp)]at ho;simp at ho
 |begins c cmd aZZ hc ho hm ha hk h EK=>
  have NF:¬0≤pW c l.reverse:=fun q=>by have:=(C.o c hc).2 q;rw[ho]at this;simp at this
  obtain⟨k1,k2,k3⟩:=awN cmd;refine⟨?_,?_,?_⟩
  ·rw[hv];subst h;unfold KH;have h1:CD ⟨0,c,cmd.name,aZZ,⟨0,0⟩⟩=true:=by
    unfold CD;rw[decide_eq_true_eq];have ha':aZZ.all uA=true:=AQ.2 fun u hu=>by simp[uA,hk u hu]
    have:aZZ.length≤16:=by omega
    refine⟨by simp,by simp,by simp,by show(c:Int)≤3;omega,.inl ⟨rfl,rfl,k1,k2,this,ha'⟩⟩
   rw[h1];simp;omega
  ·intro d hd;have hx:x.kind=0:=by subst h;rfl
   have hxc:x.client=c:=by subst h;rfl
   rw[EK,List.reverse_append];show((ku g.o c true) d=true↔0≤pW (d:Int) (x ::l.reverse));rw[ahP hx,hxc];by_cases e:d=c
   ·subst e;simp[ku]
   ·have e':¬(d:Int)=c:=by omega
    rw[if_neg e'];have:ku g.o c true d=g.o d:=by simp[ku,e]
    rw[this];exact C.o d hd
  ·refine Q3 ?_;rw[vO];intro o ho;rcases List.mem_append.1 ho with ho|ho
   ·exact hold o ho
   ·rw[if_pos (by subst h;rfl)]at ho;simp at ho;subst ho;subst h;exact⟨cmd,anH hi hm,ha⟩
theorem Ga.cln{mi:Nat}(hi:mi<3){l:List Ev}{g:GS}(h:Ga mi l g):Cln mi l g:=by
 induction h with
 |nil g h=>exact Cln.nil mi h
 |snoc h s ih=>exact ih.step hi s
theorem Ga.code{mi:Nat}(hi:mi<3){l:List Ev}{g:GS}(h:Ga mi l g):jD mi l=0:=by have C:=h.cln hi;unfold jD;rw[if_pos C.v,C.b]
def Fwd(o:Op):Prop:=(o.e<0∨(o.b:Int)≤o.e)∧(o.lost<0∨(o.b:Int)≤o.lost)
theorem TH:∀(l:List Ev) (o:Op) (i:Nat),o.b≤i→Fwd o→Fwd (follow o i l)
 | [],o,i,_,h=>h
 |x ::l,o,i,hb,h=>by
  refine TH l (jv i x o) (i+1) (by rw[(GR i x o).2.2];omega) ?_;unfold jv;split
  ·split
   ·exact⟨h.1,.inr (by show(o.b:Int)≤(i:Int);omega)⟩
   ·split
    ·exact⟨.inr (by show(o.b:Int)≤(i:Int);omega),h.2⟩
    ·exact h
  ·exact h
theorem Rz:∀(l:List Ev) (i:Nat),∀o∈aI i l,Fwd o
 | [],i,o,ho=>by simp[aI]at ho
 |x ::l,i,o,ho=>by
  rcases List.mem_append.1 ho with ho|ho
  ·split at ho
   ·simp at ho;subst ho;exact TH l _ _ (by show i≤i+1;omega) ⟨.inl (by show(-1:Int)<0;omega),.inl (by show(-1:Int)<0;omega)⟩
   ·simp at ho
  ·exact Rz l (i+1) o ho
theorem He{l:List Ev}{i:Nat}:∀o∈aI i l,before o o=false:=by intro o ho;obtain⟨h1,h2⟩:=Rz l i o ho;unfold before;rw[decide_eq_false_iff_not];omega
end Ln
namespace Ln
inductive Way(os:List Op):List Nat→Nat→Prop
 |nil:Way os [] 0
 |cons {p:List Nat} {d j:Nat} (h:Way os p d) (hj:j<os.length) (ho:pg os j d=true):Way os (j ::p) (d+2^j)
theorem kH{os:List Op}{k d:Nat}(h:pg os k d=true):d.testBit k=false:=by unfold pg at h;rw[Bool.and_eq_true]at h;simpa using h.1
theorem GV{os:List Op}{k d:Nat}(h:pg os k d=true){q:Nat}(hq:q<os.length)(hn:q≠k):¬(before (os.getD q default) (os.getD k default)=true∧0≤(os.getD q default).e∧d.testBit q=false)∧¬(d.testBit q=true∧before (os.getD k default) (os.getD q default)=true):=by
 unfold pg at h;rw[Bool.and_eq_true,List.all_eq_true]at h;have:=h.2 q (List.mem_range.2 hq);have hb:(q==k)=false:=by simpa using hn
 rw[hb]at this;simp only[Bool.false_or,Bool.and_eq_true,Bool.not_eq_true',Bool.and_eq_false_iff,decide_eq_false_iff_not]at this;obtain⟨h1,h2⟩:=this;constructor
 ·rintro⟨a,b,c⟩;rcases h1 with(h1|h1)|h1
  ·rw[a]at h1;cases h1
  ·exact h1 b
  ·rw[c]at h1;simp at h1
 ·rintro⟨a,b⟩;rcases h2 with h2|h2
  ·rw[a]at h2;cases h2
  ·rw[b]at h2;cases h2
theorem X9{os:List Op}{k d:Nat}(h0:d.testBit k=false)(h:∀q,q<os.length→q≠k→¬(before (os.getD q default) (os.getD k default)=true∧0≤(os.getD q default).e∧d.testBit q=false)∧¬(d.testBit q=true∧before (os.getD k default) (os.getD q default)=true)):pg os k d=true:=by
 unfold pg;rw[Bool.and_eq_true,List.all_eq_true];refine⟨by simpa using h0,fun q hq=>?_⟩;by_cases e:q=k
 ·simp[e]
 ·obtain⟨h1,h2⟩:=h q (List.mem_range.1 hq) e;have hb:(q==k)=false:=by simpa using e
  rw[hb];simp only[Bool.false_or,Bool.and_eq_true,Bool.not_eq_true'];constructor
  ·cases a:before (os.getD q default) (os.getD k default)with
   |false=>simp
   |true=>
    by_cases b:0≤(os.getD q default).e
    ·cases c:d.testBit q with
     |true=>simp
     |false=>exact absurd ⟨a,b,c⟩ h1
    ·rw[decide_eq_false b];simp
  ·cases a:d.testBit q with
   |false=>simp
   |true=>
    cases b:before (os.getD k default) (os.getD q default)with
    |false=>simp
    |true=>exact absurd ⟨a,b⟩ h2
theorem Way.bit{os:List Op}{p:List Nat}{d:Nat}(h:Way os p d):∀q,d.testBit q=true↔q∈p:=by
 induction h with
 |nil=>intro q;simp
 | @cons p d j h hj ho ih=>
  intro q;rw[←Cp j d (kH ho),Nat.testBit_or,Nat.testBit_two_pow,Bool.or_eq_true,ih q,List.mem_cons,decide_eq_true_eq];constructor
  ·rintro(h|h)
   ·exact .inr h
   ·exact .inl h.symm
  ·rintro(h|h)
   ·exact .inr h.symm
   ·exact .inl h
theorem Way.nodup{os:List Op}{p:List Nat}{d:Nat}(h:Way os p d):p.Nodup:=by
 induction h with
 |nil=>simp
 | @cons p d j h hj ho ih=>rw[List.nodup_cons];refine⟨fun hm=>?_,ih⟩;have:=(h.bit j).2 hm;rw[kH ho]at this;cases this
theorem Way.lt{os:List Op}{p:List Nat}{d:Nat}(h:Way os p d):∀j∈p,j<os.length:=by
 induction h with
 |nil=>simp
 | @cons p d j h hj ho ih=>
  intro q hq;rcases List.mem_cons.1 hq with rfl|hq
  ·exact hj
  ·exact ih q hq
theorem Way.mask{os:List Op}{p:List Nat}{d d':Nat}(h:Way os p d)(k:Way os p d'):d=d':=Nat.eq_of_testBit_eq fun q=>by rw[Bool.eq_iff_iff,h.bit q,k.bit q]
def under(o:Op):Bool:=decide (o.e<0∧o.lost<0)
def rJ(os:List Op)(j:Nat):Bool:=under (os.getD j default)
def tl(os:List Op)(p:List Nat):Nat:=(p.takeWhile (rJ os)).length
theorem NG{i:Nat}{x:Ev}{o:Op}(h:under (jv i x o)=true):under o=true:=by
 unfold jv at h;split at h
 ·rename_i h0;exact decide_eq_true h0
 ·exact h
theorem Ya{a b:Op}(h:under a=true):before a b=false:=by unfold under at h;rw[decide_eq_true_eq]at h;unfold before;rw[decide_eq_false_iff_not];omega
theorem alz:∀(l:List Ev) (i:Nat),∀o∈aI i l,i≤o.b∧o.b<i+l.length
 | [],i,o,ho=>by simp[aI]at ho
 |x ::l,i,o,ho=>by
  have fb:∀(l:List Ev) (o:Op) (i:Nat),(follow o i l).b=o.b:=by
   intro l
   induction l with
   |nil=>intro o i;rfl
   |cons x l ih=>intro o i;show(follow (jv i x o) (i+1) l).b=_;rw[ih,(GR i x o).2.2]
  rcases List.mem_append.1 ho with ho|ho
  ·split at ho
   ·simp at ho;subst ho;rw[fb];simp[qI]
   ·simp at ho
  ·have:=alz l (i+1) o ho;simp only[List.length_cons];omega
theorem aak:∀(l:List Ev) (o:Op) (i:Nat),o.e<i→o.lost<i→(follow o i l).e<(i+l.length:Nat)∧(follow o i l).lost<(i+l.length:Nat)
 | [],o,i,h,k=>⟨h,k⟩
 |x ::l,o,i,h,k=>by
  have:(jv i x o).e<((i+1:Nat):Int)∧(jv i x o).lost<((i+1:Nat):Int):=by
   unfold jv;split
   ·split
    ·exact⟨by show o.e<_;omega,by show(i:Int)<_;omega⟩
    ·split
     ·exact⟨by show(i:Int)<_;omega,by show o.lost<_;omega⟩
     ·exact⟨by omega,by omega⟩
   ·exact⟨by omega,by omega⟩
  have h2:=aak l (jv i x o) (i+1) this.1 this.2;rw[show i+(x ::l).length=i+1+l.length by simp;omega];exact h2
theorem alA:∀(l:List Ev) (i:Nat),∀o∈aI i l,o.e<(i+l.length:Nat)∧o.lost<(i+l.length:Nat)
 | [],i,o,ho=>by simp[aI]at ho
 |x ::l,i,o,ho=>by
  rw[show i+(x ::l).length=i+1+l.length by simp;omega];rcases List.mem_append.1 ho with ho|ho
  ·split at ho
   ·simp at ho;subst ho;exact aak l _ _ (by simp[qI];omega) (by simp[qI];omega)
   ·simp at ho
  ·exact alA l (i+1) o ho
theorem SV{n:Nat}{x:Ev}{a b:Op}(hb:b.b<n):before (jv n x a) (jv n x b)=before a b:=by
 have h1:=(GR n x b).2.2;have key:before (jv n x a) b=before a b:=by
  unfold jv;split
  ·rename_i h;have hu:before a b=false:=Ya (decide_eq_true h);split
   ·rw[hu];unfold before;rw[decide_eq_false_iff_not];simp;omega
   ·split
    ·rw[hu];unfold before;rw[decide_eq_false_iff_not];simp;omega
    ·rfl
  ·rfl
 rw[←key];unfold before;rw[h1]
theorem getD_map{os:List Op}{f:Op→Op}{k:Nat}(h:k<os.length):(os.map f).getD k default=f (os.getD k default):=by rw[List.getD_eq_getElem?_getD,List.getD_eq_getElem?_getD,List.getElem?_map,List.getElem?_eq_getElem h];rfl
theorem SX{os:List Op}{k:Nat}(h:k<os.length):os.getD k default∈os:=by rw[List.getD_eq_getElem?_getD,List.getElem?_eq_getElem h];exact List.getElem_mem h
theorem aqB{os:List Op}{n:Nat}{x:Ev}(hb:∀o∈os,o.b<n){p:List Nat}{d:Nat}(h:Way (os.map (jv n x)) p d):Way os p d:=by
 induction h with
 |nil=>exact .nil
 | @cons p d j h hj ho ih=>rw[List.length_map]at hj;refine .cons ih hj (X9 (kH ho) fun q hq bT=>?_);obtain⟨h1,h2⟩:=GV ho (q:=q) (by rw[List.length_map];exact hq) bT;rw[getD_map hq,getD_map hj,SV (hb _ (SX hj))]at h1;rw[getD_map hq,getD_map hj,SV (hb _ (SX hq))]at h2;refine⟨fun⟨a,b,c⟩=>h1 ⟨a,?_,c⟩,h2⟩;rw[aal (by omega)];exact b
theorem aqC{os:List Op}{n:Op}(hn:n.e<0∧n.lost<0)(he:∀o∈os,o.e<n.b∧o.lost<n.b){p:List Nat}{d:Nat}(h:Way (os ++ [n]) p d) :
  (os.length∉p∧Way os p d)∨∃p1 p2 d0,p=p1++os.length ::p2∧(∀j∈p1,rJ os j=true)∧Way os (p1++p2) d0∧d=d0+2^os.length:=by
 have gN:(os ++ [n]).getD os.length default=n:=by rw[List.getD_eq_getElem?_getD,List.getElem?_append_right (Nat.le_refl _)];simp
 have gO:∀q,q<os.length→(os ++ [n]).getD q default=os.getD q default:=fun q hq=>by rw[List.getD_eq_getElem?_getD,List.getD_eq_getElem?_getD,List.getElem?_append_left hq]
 induction h with
 |nil=>exact .inl ⟨by simp,.nil⟩
 | @cons p d j h hj ho ih=>
  have Wq:j<os.length∨j=os.length:=by simp at hj;omega
  rcases ih with⟨hm,hw⟩|⟨p1,p2,d0,rfl,ha,hw,rfl⟩
  ·rcases Wq with Wq|rfl
   ·left;refine⟨?_,.cons hw Wq (X9 (kH ho) fun q hq bT=>?_)⟩
    ·intro e;rcases List.mem_cons.1 e with e|e
     ·omega
     ·exact hm e
    ·have:=GV ho (q:=q) (by simp;omega) bT;rw[gO q hq,gO j Wq]at this;exact this
   ·right;exact⟨[],p,d,rfl,by simp,hw,rfl⟩
  ·have hb:∀q,q<os.length→(d0+2^os.length).testBit q=d0.testBit q:=fun q hq=>by
    have hf:d0.testBit os.length=false:=by
     cases e:d0.testBit os.length with
     |false=>rfl
     |true=>have:=hw.lt _ ((hw.bit _).1 e);omega
    rw[←Cp _ _ hf,Nat.testBit_or,Nat.testBit_two_pow];simp;omega
   have hN:(d0+2^os.length).testBit os.length=true:=(h.bit _).2 (by simp);rcases Wq with Wq|rfl
   ·right;refine⟨j ::p1,p2,d0+2^j,rfl,?_,.cons hw Wq (X9 ?_ fun q hq bT=>?_),by omega⟩
    ·intro q hq;rcases List.mem_cons.1 hq with rfl|hq
     ·have:=(GV ho (q:=os.length) (by simp) (by omega)).2;rw[gN,gO q Wq]at this;have hh:=he _ (SX Wq);unfold rJ under;rw[decide_eq_true_eq];have h3:¬before (os.getD q default) n=true:=fun e=>this ⟨hN,e⟩;unfold before at h3;rw[decide_eq_true_eq]at h3;omega
     ·exact ha q hq
    ·rw[←hb j Wq];exact kH ho
    ·have:=GV ho (q:=q) (by simp;omega) bT;rw[gO q hq,gO j Wq,hb q hq]at this;exact this
   ·have:=kH ho;rw[hN]at this;cases this
def aEL:List (List Nat):=[
[1,0,0,0,1,1,0,0,1,1,1,0,1,1,1,1],
 [2,0,0,0,2,3,0,0,2,3,4,0,1,1,1,1],
 [5,0,0,0,5,11,0,0,2,3,4,0,2,3,4,4],
 [16,0,0,0,5,11,0,0,5,11,16,0,5,5,5,5],
 [16,0,0,0,16,43,0,0,16,16,20,0,16,16,16,16],
 [59,0,0,0,32,56,0,0,32,48,64,0,16,16,20,20],
 [88,0,0,0,80,176,0,0,59,59,80,0,59,59,64,64],
 [256,0,0,0,118,219,0,0,118,187,256,0,88,88,88,88],
 [337,0,0,0,305,699,0,0,256,264,352,0,256,256,256,256],
 [1004,0,0,0,520,968,0,0,512,768,1024,0,337,337,352,352]]
def I0(r o k:Nat):Nat:=(aEL.getD r []).getD (4*o+k) 0
def atd:Bool:=(List.range 9).all fun r=>(List.range 4).all fun o=>(List.range (o+1)).all fun k=>
 Nat.ble (I0 r 0 0) (I0 (r+1) o k)&&(Nat.ble 3 o||Nat.ble (I0 r (o+1) k+(k+1)*I0 r (o+1) (k+1)) (I0 (r+1) o k))&&(Nat.beq o 0||(List.range (min k (o-1)+1)).all fun j=>Nat.ble (I0 r (o-1) j) (I0 (r+1) o k))
theorem ave:atd=true:=by decide
theorem Yb{r o k:Nat}(hr:r<9)(ho:o<4)(hk:k≤o):I0 r 0 0≤I0 (r+1) o k∧(o<3→I0 r (o+1) k+(k+1)*I0 r (o+1) (k+1)≤I0 (r+1) o k)∧(0<o→∀j,j≤k→j≤o-1→I0 r (o-1) j≤I0 (r+1) o k):=by
 have h:=ave;unfold atd at h;have h1:=List.all_eq_true.1 h r (List.mem_range.2 hr);have h2:=List.all_eq_true.1 h1 o (List.mem_range.2 ho);have h3:=List.all_eq_true.1 h2 k (List.mem_range.2 (by omega));simp only[Bool.and_eq_true,Bool.or_eq_true]at h3;obtain⟨⟨a,b⟩,c⟩:=h3;refine⟨Nat.le_of_ble_eq_true a,fun ho3=>?_,fun ho0 j hj hj2=>?_⟩
 ·rcases b with b|b
  ·have:=Nat.le_of_ble_eq_true b;omega
  ·exact Nat.le_of_ble_eq_true b
 ·rcases c with c|c
  ·have:=Nat.eq_of_beq_eq_true c;omega
  ·exact Nat.le_of_ble_eq_true (List.all_eq_true.1 c j (List.mem_range.2 (by omega)))
theorem az0{o k:Nat}(ho:o<4)(hk:k≤o):I0 0 o k=1:=by
 have h:((List.range 4).all fun o=>(List.range (o+1)).all fun k=>Nat.beq (I0 0 o k) 1)=true:=by decide
 exact Nat.eq_of_beq_eq_true (List.all_eq_true.1 (List.all_eq_true.1 h o (List.mem_range.2 ho)) k (List.mem_range.2 (by omega)))
theorem aqD{n:Nat}(hn:n≤9):I0 n 0 0≤1024:=by
 have h:((List.range 10).all fun n=>Nat.ble (I0 n 0 0) 1024)=true:=by decide
 exact Nat.le_of_ble_eq_true (List.all_eq_true.1 h n (List.mem_range.2 (by omega)))
def UF(o:Nat→Bool):Nat:=((List.range 3).filter o).length
theorem adT(o:Nat→Bool):UF o≤3:=Nat.le_trans (List.length_filter_le _ _) (by simp)
structure Opn(os:List Op)(o:Nat→Bool):Prop where
 cl:∀j,j<os.length→rJ os j=true→∃c:Nat,c<3∧(os.getD j default).client=(c:Int)∧o c=true
 one:∀j k,j<os.length→k<os.length→rJ os j=true→rJ os k=true→(os.getD j default).client=(os.getD k default).client→j=k
theorem alB{p:Nat→Bool}:∀{l:List Nat} {x:Nat},x∈l.takeWhile p→p x=true
 | [],x,h=>by simp at h
 |a ::l,x,h=>by
  by_cases ha:p a=true
  ·rw[List.takeWhile_cons_of_pos ha]at h;rcases List.mem_cons.1 h with rfl|h
   ·exact ha
   ·exact alB h
  ·rw[List.takeWhile_cons_of_neg ha]at h;simp at h
theorem Yc{os:List Op}{o:Nat→Bool}(h:Opn os o){p:List Nat}{d:Nat}(w:Way os p d):tl os p≤UF o:=by
 have hs:∀j∈p.takeWhile (rJ os),j∈p∧rJ os j=true:=fun j hj=>⟨(List.takeWhile_sublist _).subset hj,alB hj⟩;have hn:(p.takeWhile (rJ os)).Nodup:=w.nodup.sublist (List.takeWhile_sublist _);have hm:((p.takeWhile (rJ os)).map fun j=>(os.getD j default).client.toNat).Nodup:=by rw[List.nodup_iff_pairwise_ne,List.pairwise_map];rw[List.nodup_iff_pairwise_ne]at hn;refine List.Pairwise.imp_of_mem ?_ hn;intro a b ha hb hab e;obtain⟨a1,a2⟩:=hs a ha;obtain⟨b1,b2⟩:=hs b hb;obtain⟨c,c1,c2,_⟩:=h.cl a (w.lt a a1) a2;obtain⟨c',c1',c2',_⟩:=h.cl b (w.lt b b1) b2;rw[c2,c2']at e;exact hab (h.one a b (w.lt a a1) (w.lt b b1) a2 b2 (by rw[c2,c2'];simp at e;rw[e]))
 have:=IB hm (m:=(List.range 3).filter o) (by intro x hx;obtain⟨j,hj,rfl⟩:=List.mem_map.1 hx;obtain⟨a1,a2⟩:=hs j hj;obtain⟨c,c1,c2,c3⟩:=h.cl j (w.lt j a1) a2;rw[c2,List.mem_filter];exact⟨List.mem_range.2 (by simpa using c1),by simpa using c3⟩)
 rw[List.length_map]at this;exact this
theorem Ma{p q:Nat→Bool}(h:∀x,p x=true→q x=true):∀l:List Nat,(l.takeWhile p).length≤(l.takeWhile q).length
 | []=>by simp
 |a ::l=>by
  by_cases hp:p a=true
  ·rw[List.takeWhile_cons_of_pos hp,List.takeWhile_cons_of_pos (h a hp)];simp only[List.length_cons];have:=Ma h l;omega
  ·rw[List.takeWhile_cons_of_neg hp];simp
theorem Oo(o:Nat→Bool):UF o=(o 0).toNat+(o 1).toNat+(o 2).toNat:=by unfold UF;have:List.range 3=[0,1,2]:=rfl;rw[this];cases h0:o 0<;>cases h1:o 1<;>cases h2:o 2<;>simp[h0,h1,h2]
theorem axC{o:Nat→Bool}{c:Nat}(hc:c<3)(h:o c=false):UF (ku o c true)=UF o+1:=by
 rw[Oo,Oo];have:c=0∨c=1∨c=2:=by omega
 rcases this with rfl|rfl|rfl<;>simp[ku,h]<;>omega
theorem ao5{o:Nat→Bool}{c:Nat}(hc:c<3)(h:o c=true):UF (ku o c false)+1=UF o:=by
 rw[Oo,Oo];have:c=0∨c=1∨c=2:=by omega
 rcases this with rfl|rfl|rfl<;>simp[ku,h]<;>omega
theorem asD{os:List Op}{j:Nat}(h:os.length≤j):rJ os j=false:=by unfold rJ;rw[List.getD_eq_getElem?_getD,List.getElem?_eq_none h];rfl
theorem MY{os:List Op}{n:Nat}{x:Ev}{j:Nat}(h:rJ (os.map (jv n x)) j=true):rJ os j=true:=by
 rcases Nat.lt_or_ge j os.length with hj|hj
 ·unfold rJ at h ⊢;rw[getD_map hj]at h;exact NG h
 ·rw[asD (by rw[List.length_map];exact hj)]at h;cases h
theorem agr(n:Nat)(x:Ev)(o:Op):(jv n x o).client=o.client:=by
 unfold jv;split
 ·split
  ·rfl
  ·split<;>rfl
 ·rfl
theorem Ga.FZ{mi:Nat}{l:List Ev}{g:GS}(h:Ga mi l g):Opn (aI 0 l) g.o:=by
 induction h with
 |nil g h=>exact⟨fun j hj=>by simp[aI]at hj,fun j k hj=>by simp[aI]at hj⟩
 | @snoc l g g' x h s ih=>
  rw[vO,Nat.zero_add];have cm:∀j,j<(aI 0 l).length→(((aI 0 l).map (jv l.length x)).getD j default).client=((aI 0 l).getD j default).client:=fun j hj=>by rw[getD_map hj,agr]
  cases s with
  |lost hx ho=>
   have k0:¬x.kind=0:=by subst hx;simp
   have k2:x.kind=2:=by subst hx;rfl
   rw[if_neg k0,List.append_nil];have none:∀j,j<(aI 0 l).length→¬rJ ((aI 0 l).map (jv l.length x)) j=true:=fun j hj e=>by unfold rJ at e;rw[getD_map hj]at e;have hu:=NG e;unfold under at hu;rw[decide_eq_true_eq]at hu;unfold jv at e;rw[if_pos hu,if_pos k2]at e;unfold under at e;rw[decide_eq_true_eq]at e;simp at e;omega
   exact⟨fun j hj e=>absurd e (none j (by simpa using hj)),fun j k hj _ e=>absurd e (none j (by simpa using hj))⟩
  |ends c r hc ho hx EK=>
   have k0:¬x.kind=0:=by subst hx;simp
   have k1:x.kind=1:=by subst hx;rfl
   have kc:x.client=(c:Int):=by subst hx;rfl
   rw[if_neg k0,List.append_nil];refine⟨fun j hj e=>?_,fun j k hj hk e f q=>?_⟩
   ·have hj:j<(aI 0 l).length:=by simpa using hj
    obtain⟨d,d3,dc,dg⟩:=ih.cl j hj (MY e);rw[cm j hj];refine⟨d,d3,dc,?_⟩;rw[EK];have:d≠c:=by rintro rfl;unfold rJ at e;rw[getD_map hj]at e;have hu:=NG e;unfold under at hu;rw[decide_eq_true_eq]at hu;unfold jv at e;rw[if_pos hu,if_neg (by omega),if_pos ⟨k1,by rw[kc,dc]⟩]at e;unfold under at e;rw[decide_eq_true_eq]at e;simp at e;omega
    simp[ku,this,dg]
   ·have hj:j<(aI 0 l).length:=by simpa using hj
    have hk:k<(aI 0 l).length:=by simpa using hk
    rw[cm j hj,cm k hk]at q;exact ih.one j k hj hk (MY e) (MY f) q
  |begins c cmd as' hc ho hm ha IC hx EK=>
   have k0:x.kind=0:=by subst hx;rfl
   have kc:x.client=(c:Int):=by subst hx;rfl
   rw[if_pos k0];have HK:(aI 0 l).map (jv l.length x)=aI 0 l:=(List.map_congr_left fun o _=>Oa k0).trans (List.map_id _);rw[HK];have gN:(aI 0 l ++ [qI l.length x]).getD (aI 0 l).length default=qI l.length x:=by rw[List.getD_eq_getElem?_getD,List.getElem?_append_right (Nat.le_refl _)];simp
   have gO:∀q,q<(aI 0 l).length→(aI 0 l ++ [qI l.length x]).getD q default=(aI 0 l).getD q default:=fun q hq=>by rw[List.getD_eq_getElem?_getD,List.getD_eq_getElem?_getD,List.getElem?_append_left hq]
   have old:∀j,j<(aI 0 l).length→rJ (aI 0 l ++ [qI l.length x]) j=true→∃d:Nat,d<3∧((aI 0 l).getD j default).client=(d:Int)∧g.o d=true∧d≠c:=fun j hj e=>by unfold rJ at e;rw[gO j hj]at e;obtain⟨d,d3,dc,dg⟩:=ih.cl j hj e;exact⟨d,d3,dc,dg,fun q=>by subst q;rw[ho]at dg;cases dg⟩
   have two:∀j,j<(aI 0 l ++ [qI l.length x]).length→j<(aI 0 l).length∨j=(aI 0 l).length:=fun j hj=>by simp at hj;omega
   refine⟨fun j hj e=>?_,fun j k hj hk e f q=>?_⟩
   ·rcases two j hj with hj|rfl
    ·obtain⟨d,d3,dc,dg,dn⟩:=old j hj e;rw[gO j hj];exact⟨d,d3,dc,by rw[EK];simp[ku,dn,dg]⟩
    ·rw[gN];exact⟨c,hc,by simp[qI,kc],by rw[EK];simp[ku]⟩
   ·rcases two j hj with hj|rfl<;>rcases two k hk with hk|rfl
    ·rw[gO j hj,gO k hk]at q;unfold rJ at e f;rw[gO j hj]at e;rw[gO k hk]at f;exact ih.one j k hj hk e f q
    ·obtain⟨d,d3,dc,dg,dn⟩:=old j hj e;rw[gO j hj,gN,dc]at q;simp[qI,kc]at q;exact absurd (by omega) dn
    ·obtain⟨d,d3,dc,dg,dn⟩:=old k hk f;rw[gO k hk,gN,dc]at q;simp[qI,kc]at q;exact absurd (by omega) dn
    ·rfl
theorem KR(P:List Nat→Bool)(f:List Nat→Nat):∀S:List (List Nat),((S.filter P).map f).sum≤(S.map f).sum
 | []=>by simp
 |a ::S=>by
  have:=KR P f S;by_cases h:P a=true
  ·rw[List.filter_cons_of_pos h];simp only[List.map_cons,List.sum_cons];omega
  ·rw[List.filter_cons_of_neg h];simp only[List.map_cons,List.sum_cons];omega
theorem ao6{f g:List Nat→Nat}:∀{S:List (List Nat)},(∀p∈S,f p≤g p)→(S.map f).sum≤(S.map g).sum
 | [],_=>by simp
 |a ::S,h=>by have h1:=h a (by simp);have h2:=ao6 (S:=S) (fun p hp=>h p (by simp[hp]));simp only[List.map_cons,List.sum_cons];omega
theorem acQ{f g:List Nat→Nat}{F:List Nat→List (List Nat)}:∀{S:List (List Nat)},(∀p∈S,((F p).map f).sum≤g p)→((S.flatMap F).map f).sum≤(S.map g).sum
 | [],_=>by simp
 |a ::S,h=>by have h1:=h a (by simp);have h2:=acQ (S:=S) (F:=F) (fun p hp=>h p (by simp[hp]));simp only[List.flatMap_cons,List.map_append,List.sum_append,List.map_cons,List.sum_cons];omega
theorem Xb{c:Nat}{f:Nat→Nat}:∀{l:List Nat},(∀i∈l,f i=c)→(l.map f).sum=l.length*c
 | [],_=>by simp
 |a ::l,h=>by have h1:=h a (by simp);have h2:=Xb (l:=l) (fun i hi=>h i (by simp[hi]));simp only[List.map_cons,List.sum_cons,List.length_cons,h1,h2,Nat.add_mul,Nat.one_mul];omega
theorem axD{os:List Op}{n:Op}(hn:under n=true){q:List Nat}(hq:∀j∈q,j<os.length){i:Nat}(hi:i≤tl os q):tl (os ++ [n]) (q.take i++os.length ::q.drop i)=tl os q+1:=by
 have gN:rJ (os ++ [n]) os.length=true:=by unfold rJ;rw[List.getD_eq_getElem?_getD,List.getElem?_append_right (Nat.le_refl _)];simpa using hn
 have gO:∀j,j<os.length→rJ (os ++ [n]) j=rJ os j:=fun j hj=>by unfold rJ;rw[List.getD_eq_getElem?_getD,List.getD_eq_getElem?_getD,List.getElem?_append_left hj]
 unfold tl at hi ⊢
 induction i generalizing q with
 |zero=>
  simp only[List.take_zero,List.nil_append,List.drop_zero];rw[List.takeWhile_cons_of_pos gN,List.length_cons];congr 2;clear hi
  induction q with
  |nil=>rfl
  |cons a q ih=>have:=ih (fun j hj=>hq j (by simp[hj]));rw[List.takeWhile_cons,List.takeWhile_cons,gO a (hq a (by simp)),this]
 |succ i ih=>
  cases q with
  |nil=>simp at hi
  |cons a q=>
   by_cases ha:rJ os a=true
   ·rw[List.takeWhile_cons_of_pos ha]at hi ⊢;simp only[List.length_cons]at hi ⊢;simp only[List.take_succ_cons,List.cons_append,List.drop_succ_cons];rw[List.takeWhile_cons_of_pos (by rw[gO a (hq a (by simp))];exact ha),List.length_cons,ih (q:=q) (fun j hj=>hq j (by simp[hj])) (by omega)]
   ·rw[List.takeWhile_cons_of_neg ha]at hi;simp at hi
theorem axE{os:List Op}{n:Op}{q:List Nat}(hq:∀j∈q,j<os.length):tl (os ++ [n]) q=tl os q:=by
 have gO:∀j,j<os.length→rJ (os ++ [n]) j=rJ os j:=fun j hj=>by unfold rJ;rw[List.getD_eq_getElem?_getD,List.getD_eq_getElem?_getD,List.getElem?_append_left hj]
 unfold tl;congr 1
 induction q with
 |nil=>rfl
 |cons a q ih=>rw[List.takeWhile_cons,List.takeWhile_cons,gO a (hq a (by simp)),ih (fun j hj=>hq j (by simp[hj]))]
theorem V7{p:Nat→Bool}{a b:List Nat}(h:∀j∈a,p j=true):a.length≤((a++b).takeWhile p).length:=by
 induction a with
 |nil=>simp
 |cons x a ih=>rw[List.cons_append,List.takeWhile_cons_of_pos (h x (by simp))];have:=ih (fun j hj=>h j (by simp[hj]));simp only[List.length_cons];omega
open Classical in
theorem Ga.ways{mi:Nat}{l:List Ev}{g:GS}(h:Ga mi l g):∀r,r+l.length≤9→∃S:List (List Nat),(∀p d,Way (aI 0 l) p d→p∈S)∧(∀p∈S,∃d,Way (aI 0 l) p d)∧(S.map fun p=>I0 r (UF g.o) (tl (aI 0 l) p)).sum≤I0 (r+l.length) 0 0:=by
 induction h with
 |nil g h=>
  intro r _;refine⟨[[]],fun p d w=>?_,fun p hp=>?_,?_⟩
  ·cases w with
   |nil=>simp
   |cons h hj ho=>simp[aI]at hj
  ·simp at hp;subst hp;exact⟨0,.nil⟩
  ·have:UF g.o=0:=by rw[Oo,h];rfl
   simp[this,tl]
 | @snoc l g g' x h s ih=>
  intro r hr;have EL:r+(l ++ [x]).length=r+1+l.length:=by simp;omega
  rw[EL]at hr ⊢;obtain⟨S,hS,hW,UO⟩:=ih (r+1) hr;have O:=h.FZ;have O':=(h.snoc s).FZ;have aSu:=adT g.o;have cov:∀S':List (List Nat),(∀p d,Way (aI 0 (l ++ [x])) p d→p∈S')→((S'.filter fun p=>decide (∃d,Way (aI 0 (l ++ [x])) p d)).map fun p=>I0 r (UF g'.o) (tl (aI 0 (l ++ [x])) p)).sum≤I0 (r+1+l.length) 0 0→∃S:List (List Nat),(∀p d,Way (aI 0 (l ++ [x])) p d→p∈S)∧(∀p∈S,∃d,Way (aI 0 (l ++ [x])) p d)∧(S.map fun p=>I0 r (UF g'.o) (tl (aI 0 (l ++ [x])) p)).sum≤I0 (r+1+l.length) 0 0:=by intro S' h1 h2;refine⟨_,fun p d w=>List.mem_filter.2 ⟨h1 p d w,decide_eq_true ⟨d,w⟩⟩,fun p hp=>of_decide_eq_true (List.mem_filter.1 hp).2,h2⟩
  have eo:aI 0 (l ++ [x])=(aI 0 l).map (jv l.length x)++(if x.kind=0 then [qI l.length x]else []):=by rw[vO,Nat.zero_add]
  have hb:∀o∈aI 0 l,o.b<l.length:=fun o ho=>by have:=(alz l 0 o ho).2;omega
  have he:∀o∈aI 0 l,o.e<(l.length:Int)∧o.lost<(l.length:Int):=fun o ho=>by have:=alA l 0 o ho;simpa using this
  have quiet:¬x.kind=0→(∀o k,k≤o→o<4→o=UF g.o→∀j,j≤k→j≤UF g'.o→I0 r (UF g'.o) j≤I0 (r+1) o k)→∃S:List (List Nat),(∀p d,Way (aI 0 (l ++ [x])) p d→p∈S)∧(∀p∈S,∃d,Way (aI 0 (l ++ [x])) p d)∧(S.map fun p=>I0 r (UF g'.o) (tl (aI 0 (l ++ [x])) p)).sum≤I0 (r+1+l.length) 0 0:=by
   intro k0 aJ3;rw[if_neg k0,List.append_nil]at eo;refine cov S (fun p d w=>hS p d ?_) ?_
   ·rw[eo]at w;exact aqB hb w
   ·refine Nat.le_trans ?_ UO;refine Nat.le_trans ?_ (KR (fun p=>decide (∃d,Way (aI 0 (l ++ [x])) p d)) _ S);refine ao6 fun p hp=>?_;obtain⟨hpS,hpw⟩:=List.mem_filter.1 hp;obtain⟨d,w⟩:=of_decide_eq_true hpw;obtain⟨d0,w0⟩:=hW p hpS;refine aJ3 _ _ (Yc O w0) (by omega) rfl _ ?_ (Yc O' w);rw[eo];exact Ma (fun j hj=>MY hj) p
  cases s with
  |lost hx ho=>
   refine quiet (by subst hx;simp) fun o k hk ho4 _ j hj hjc=>?_;have c0:UF g'.o=0:=by rw[Oo,ho];rfl
   rw[c0]at hjc ⊢;have:j=0:=by omega
   subst this;exact(Yb (by omega) ho4 hk).1
  |ends c rr hc ho hx EK=>
   refine quiet (by subst hx;simp) fun o k hk ho4 he j hj hjc=>?_;have c1:=ao5 hc ho;rw[←EK,←he]at c1;have:UF g'.o=o-1:=by omega
   rw[this]at hjc ⊢;exact(Yb (by omega) ho4 hk).2.2 (by omega) j hj hjc
  |begins c cmd as' hc ho hm ha IC hx EK=>
   have k0:x.kind=0:=by subst hx;rfl
   have HK:(aI 0 l).map (jv l.length x)=aI 0 l:=(List.map_congr_left fun o _=>Oa k0).trans (List.map_id _);rw[if_pos k0,HK]at eo;have c1:=axC hc ho;rw[←EK]at c1;have hg3:=adT g'.o;have hn:under (qI l.length x)=true:=by unfold under qI;simp
   refine cov (S.flatMap fun q=>q ::(List.range (tl (aI 0 l) q+1)).map fun i=>q.take i++(aI 0 l).length ::q.drop i) (fun p d w=>?_) ?_
   ·rw[eo]at w;rw[List.mem_flatMap];rcases aqC (by simp[qI]) (by simpa[qI]using he) w with⟨_,w0⟩|⟨p1,p2,d0,rfl,ha,w0,_⟩
    ·exact⟨p,hS _ _ w0,by simp⟩
    ·refine⟨p1++p2,hS _ _ w0,List.mem_cons_of_mem _ (List.mem_map.2 ⟨p1.length,List.mem_range.2 ?_,by simp⟩)⟩;have:=V7 (p:=rJ (aI 0 l)) (a:=p1) (b:=p2) ha;unfold tl;omega
   ·refine Nat.le_trans (KR (fun p=>decide (∃d,Way (aI 0 (l ++ [x])) p d)) _ _) (Nat.le_trans (acQ fun q hq=>?_) UO);obtain⟨d0,w0⟩:=hW q hq;have cH:=w0.lt;have hk:=Yc O w0;rw[eo,c1];simp only[List.map_cons,List.sum_cons,List.map_map];rw[axE cH,Xb (c:=I0 r (UF g.o+1) (tl (aI 0 l) q+1)),List.length_range]
    ·exact(Yb (by omega) (by omega) hk).2.1 (by omega)
    ·intro i hi;show I0 r (UF g.o+1) (tl (aI 0 l ++ [qI l.length x]) (q.take i++(aI 0 l).length ::q.drop i))=_;rw[axD hn cH (by have:=List.mem_range.1 hi;omega)]
section
variable{σ:Type}
def asE(take:Nat→σ→Option σ)(s0:σ):List Nat→Option σ
 | []=>some s0
 |j ::p=>(asE take s0 p).bind (take j)
def ags(S:Sys σ)(os:List Op)(s0:σ)(c:Cf σ):Prop:=∃p,Way os p c.1∧asE S.take s0 p=some c.2
variable[DecidableEq σ]
theorem asF{S:Sys σ}{os:List Op}{s0:σ}{W:List (List Nat)}(hW:∀p d,Way os p d→p∈W){L:List (Cf σ)}(hn:L.Nodup)(hL:∀c∈L,ags S os s0 c):L.length≤W.length:=by
 have:∃f:Cf σ→List Nat,∀c∈L,Way os (f c) c.1∧asE S.take s0 (f c)=some c.2:=by refine⟨fun c=>open Classical in if h:ags S os s0 c then h.choose else [],fun c hc=>?_⟩;have h:=hL c hc;simp only[dif_pos h];exact h.choose_spec
 obtain⟨f,hf⟩:=this;have hm:(L.map f).Nodup:=by rw[List.nodup_iff_pairwise_ne,List.pairwise_map];rw[List.nodup_iff_pairwise_ne]at hn;refine List.Pairwise.imp_of_mem ?_ hn;intro a b ha hb hab e;obtain⟨a1,a2⟩:=hf a ha;obtain⟨b1,b2⟩:=hf b hb;rw[e]at a1 a2;rw[a2]at b2;exact hab (Prod.ext (a1.mask b1) (Option.some.inj b2))
 have:=IB hm (m:=W) (by intro x hx;obtain⟨c,hc,rfl⟩:=List.mem_map.1 hx;exact hW _ _ (hf c hc).1)
 rw[List.length_map]at this;exact this
theorem Uy{S:Sys σ}{os:List Op}{s0:σ}{W:List (List Nat)}(hW:∀p d,Way os p d→p∈W)(hw:W.length≤1024):∀{r l:List (Cf σ)},l.Nodup→(∀c∈l,ags S os s0 c)→(∀c∈r,ags S os s0 c)→∃l',ib l r=some l'
 | [],l,_,_,_=>⟨l,rfl⟩
 |c ::r,l,hn,hl,hr=>by have h1:=Kf hn c;have h2:∀x∈fX l c,ags S os s0 x:=ZV hl (hr c (by simp));have h3:=asF hW h1 h2;show ∃l',(if (fX l c).length>1024 then none else ib (fX l c) r)=some l';rw[if_neg (by omega)];exact Uy hW hw h1 h2 (fun x hx=>hr x (by simp[hx]))
end
theorem asG{X:Kn}{i:Nat}{os:List Op}{s0:St}{W:List (List Nat)}(hW:∀p d,Way os p d→p∈W)(hw:W.length≤1024):∀(f k:Nat) (l:List (Cf St)),l.Nodup→(∀c∈l,ags (aK X i os) os s0 c)→∃L,Rt (aK X i os) f k l=some L:=by
 intro f
 induction f with
 |zero=>intro k l _ _;exact⟨l,rfl⟩
 |succ f ih=>
  intro k l hn hl;unfold Rt;cases hk:l[k]? with
  |none=>exact⟨l,rfl⟩
  |some c=>
   have hc:=hl c (List.mem_of_getElem? hk);have hs:∀y∈((aK X i os).steps c).map (·.2),ags (aK X i os) os s0 y:=by
    intro y hy;obtain⟨⟨j,y'⟩,hy',rfl⟩:=List.mem_map.1 hy;obtain⟨h1,h2,h3,h4⟩:=CX hy';obtain⟨p,w,hr⟩:=hc;refine⟨j ::p,?_,?_⟩
    ·show Way os (j ::p) y'.1;rw[h3];exact .cons w h1 h2
    ·show(asE (aK X i os).take s0 p).bind ((aK X i os).take j)=some y'.2;rw[hr];exact h4
   obtain⟨l',Ta⟩:=Uy hW hw hn hl hs;simp only[Ta];obtain⟨_,_,h3,_,h5⟩:=nC Ta;refine ih (k+1) l' (h3 hn) fun x hx=>?_;rcases h5 x hx with h|h
   ·exact hl x h
   ·exact hs x h
theorem Ga.small{X:Kn}{mi i:Nat}{l:List Ev}{g:GS}(h:Ga mi l g)(hl:l.length≤9):∃L,Rt (aK X i (aI 0 l)) 1025 0 [(0,aQ i)]=some L:=by
 obtain⟨W,h1,h2,h3⟩:=h.ways 0 (by omega);have awt:(W.map fun p=>I0 0 (UF g.o) (tl (aI 0 l) p)).sum=W.length:=by
  have:∀S:List (List Nat),(∀p∈S,∃d,Way (aI 0 l) p d)→(S.map fun p=>I0 0 (UF g.o) (tl (aI 0 l) p)).sum=S.length:=by
   intro S
   induction S with
   |nil=>intro _;rfl
   |cons a S ih=>intro hS;obtain⟨d,w⟩:=hS a (by simp);have:=adT g.o;simp only[List.map_cons,List.sum_cons,List.length_cons,az0 (by omega) (Yc h.FZ w),ih (fun p hp=>hS p (by simp[hp]))];omega
  exact this W h2
 rw[awt,Nat.zero_add]at h3;have:=aqD hl;refine asG (s0:=aQ i) h1 (by omega) _ _ _ (by simp) ?_;intro c hc;simp at hc;subst hc;exact⟨[],.nil,rfl⟩
end Ln
namespace Ln
def dfs(os:List Op):Nat→List Nat→Nat→List (List Nat)
 |0,ord,d=>if ve os d=true then [ord]else []
 |f+1,ord,d=>(if ve os d=true then [ord]else [])++(List.range os.length).flatMap fun i=>if pg os i d=true then dfs os f (ord ++ [i]) (d+2^i)else []
section
variable{σ:Type}
def wN(take:Nat→σ→Option σ):List Nat→σ→Option σ
 | [],s=>some s
 |i ::l,s=>(take i s).bind (wN take l)
theorem MD(take:Nat→σ→Option σ):∀(a b:List Nat) (s:σ),wN take (a++b) s=(wN take a s).bind (wN take b)
 | [],b,s=>rfl
 |i ::a,b,s=>by
  show(take i s).bind (wN take (a++b))=((take i s).bind (wN take a)).bind (wN take b);cases take i s with
  |none=>rfl
  |some t=>exact MD take a b t
theorem ahz{os:List Op}:∀(f:Nat) (ord:List Nat) (d:Nat),∀q∈dfs os f ord d,∃r,q=ord++r
 |0,ord,d,q,h=>by
  unfold dfs at h;split at h
  ·simp at h;exact⟨[],by simp[h]⟩
  ·simp at h
 |f+1,ord,d,q,h=>by
  unfold dfs at h;rcases List.mem_append.1 h with h|h
  ·split at h
   ·simp at h;exact⟨[],by simp[h]⟩
   ·simp at h
  ·obtain⟨i,_,h⟩:=List.mem_flatMap.1 h;split at h
   ·obtain⟨r,e⟩:=ahz f _ _ q h;exact⟨i ::r,by rw[e];simp⟩
   ·simp at h
theorem alj{X:Kn}{mi:Nat}{os:List Op}{s0:St}:∀(f:Nat) (ord:List Nat) (d:Nat) (s:St),d<2^os.length→os.length≤pop os.length d+f→wN (aK X mi os).take ord s0=some s→
  (∀q,(dfs os f ord d).find? (fun q=>(wN (aK X mi os).take q s0).isSome)=some q→∃p,Path (aK X mi os) (d,s) p∧q=ord++p)∧((dfs os f ord d).find? (fun q=>(wN (aK X mi os).take q s0).isSome)=none→¬Good (aK X mi os) (d,s)):=by
 intro f
 induction f with
 |zero=>
  intro ord d s hd hf hr;unfold dfs;by_cases ha:ve os d=true
  ·rw[if_pos ha];have hh:(wN (aK X mi os).take ord s0).isSome=true:=by rw[hr];rfl
   simp only[List.find?_cons,hh];exact⟨fun q e=>⟨[],.now ha,by cases e;simp⟩,fun e=>by cases e⟩
  ·rw[if_neg ha];refine⟨fun q e=>(by cases e),fun _ g=>?_⟩;cases g with
   |now h=>exact ha h
   | @step _ c' i h g=>
    obtain⟨h1,h2,h3,h4⟩:=CX h;have hb:=Xy hd h1 ((ID X mi os) _ _ h2);have:=Ru d i ((ID X mi os) _ _ h2) os.length;have hle:∀n e:Nat,pop n e≤n:=fun n e=>by
     induction n with
     |zero=>exact Nat.le_refl _
     |succ n ih=>unfold pop;split<;>omega
    have:=hle os.length (d ||| 2^i);have hi:i<os.length:=h1;rw[if_pos hi]at *;omega
 |succ f ih=>
  intro ord d s hd hf hr;have hh:(wN (aK X mi os).take ord s0).isSome=true:=by rw[hr];rfl
  unfold dfs;by_cases ha:ve os d=true
  ·rw[if_pos ha];simp only[List.cons_append,List.nil_append,List.find?_cons,hh];exact⟨fun q e=>⟨[],.now ha,by cases e;simp⟩,fun e=>by cases e⟩
  ·rw[if_neg ha,List.nil_append];have ha':(aK X mi os).acc d=false:=by show ve os d=false;simpa using ha
   have key:∀R:List Nat,(∀i∈R,i<os.length)→
     (∀q,(R.flatMap fun i=>if pg os i d=true then dfs os f (ord ++ [i]) (d+2^i)else []).find? (fun q=>(wN (aK X mi os).take q s0).isSome)=some q→∃a i c' b p,R.filterMap ((aK X mi os).step (d,s))=a++(i,c') ::b∧(∀x∈a,¬Good (aK X mi os) x.2)∧Path (aK X mi os) c' p∧q=ord++i ::p)∧
     ((R.flatMap fun i=>if pg os i d=true then dfs os f (ord ++ [i]) (d+2^i)else []).find? (fun q=>(wN (aK X mi os).take q s0).isSome)=none→∀x∈R.filterMap ((aK X mi os).step (d,s)),¬Good (aK X mi os) x.2):=by
    intro R
    induction R with
    |nil=>intro _;exact⟨fun q e=>(by simp at e),fun _ x hx=>(by simp at hx)⟩
    |cons i R ihR=>
     intro hR;obtain⟨k1,k2⟩:=ihR fun j hj=>hR j (by simp[hj]);have hi:=hR i (by simp);rw[List.flatMap_cons,List.find?_append];by_cases ho:pg os i d=true
     ·rw[if_pos ho];have wP:=kH ho;obtain⟨cH,hor⟩:=Xy hd hi wP;cases ht:(aK X mi os).take i s with
      |none=>
       have sG:(aK X mi os).step (d,s) i=none:=by show(if pg os i d=true then((aK X mi os).take i s).map _ else none)=none;rw[if_pos ho,ht];rfl
       have O9:(dfs os f (ord ++ [i]) (d+2^i)).find? (fun q=>(wN (aK X mi os).take q s0).isSome)=none:=by
        rw[List.find?_eq_none];intro q hq;obtain⟨r,rfl⟩:=ahz _ _ _ q hq;rw[MD,MD,hr];show ¬(((some s).bind (wN (aK X mi os).take [i])).bind _).isSome=true;have:wN (aK X mi os).take [i] s=none:=by show((aK X mi os).take i s).bind _=none;rw[ht];rfl
        simp[this]
       rw[O9,List.filterMap_cons_none sG];exact⟨fun q e=>k1 q (by simpa using e),fun e=>k2 (by simpa using e)⟩
      |some t=>
       have sG:(aK X mi os).step (d,s) i=some (i,(d+2^i,t)):=by show(if pg os i d=true then((aK X mi os).take i s).map _ else none)=_;rw[if_pos ho,ht];rfl
       have ND:wN (aK X mi os).take (ord ++ [i]) s0=some t:=by rw[MD,hr];show((aK X mi os).take i s).bind _=some t;rw[ht];rfl
       have hp:=Ru d i wP os.length;rw[if_pos hi,hor]at hp;obtain⟨j1,j2⟩:=ih (ord ++ [i]) (d+2^i) t cH (by omega) ND;rw[List.filterMap_cons_some sG];cases UM:(dfs os f (ord ++ [i]) (d+2^i)).find? (fun q=>(wN (aK X mi os).take q s0).isSome)with
       |some q0=>
        refine⟨fun q e=>?_,fun e=>by simp at e⟩;have e:q0=q:=by simpa using e
        subst e;obtain⟨p,hp1,hp2⟩:=j1 q0 UM;exact⟨[],i,(d+2^i,t),_,p,rfl,by simp,hp1,by rw[hp2];simp⟩
       |none=>
        have hng:=j2 UM;refine⟨fun q e=>?_,fun e x hx=>?_⟩
        ·obtain⟨a,i',c',b,p,e1,e2,e3,e4⟩:=k1 q (by simpa using e);refine⟨(i,(d+2^i,t)) ::a,i',c',b,p,by rw[e1];rfl,fun x hx=>?_,e3,e4⟩;rcases List.mem_cons.1 hx with rfl|hx
         ·exact hng
         ·exact e2 x hx
        ·rcases List.mem_cons.1 hx with rfl|hx
         ·exact hng
         ·exact k2 (by simpa using e) x hx
     ·rw[if_neg ho];have sG:(aK X mi os).step (d,s) i=none:=by show(if pg os i d=true then((aK X mi os).take i s).map _ else none)=none;rw[if_neg ho]
      rw[List.filterMap_cons_none sG];exact⟨fun q e=>k1 q (by simpa using e),fun e=>k2 (by simpa using e)⟩
   obtain⟨k1,k2⟩:=key (List.range os.length) (fun i hi=>List.mem_range.1 hi);refine⟨fun q e=>?_,fun e g=>?_⟩
   ·obtain⟨a,i,c',b,p,e1,e2,e3,e4⟩:=k1 q e;exact⟨i ::p,.step (a:=a) (b:=b) ha' e1 e2 e3,e4⟩
   ·cases g with
    |now h=>exact ha h
    | @step _ c' i h g=>exact k2 e _ h g
end
theorem RB:∀(l:List Ev) (o:Op) (i:Nat),(o.e=-1∨0≤o.e)→((follow o i l).e=-1∨0≤(follow o i l).e)
 | [],o,i,h=>h
 |x ::l,o,i,h=>by
  refine RB l (jv i x o) (i+1) ?_;unfold jv;split
  ·split
   ·exact h
   ·split
    ·exact .inr (by show(0:Int)≤(i:Int);omega)
    ·exact h
  ·exact h
theorem RC:∀(l:List Ev) (i:Nat),∀o∈aI i l,o.e=-1∨0≤o.e
 | [],i,o,ho=>by simp[aI]at ho
 |x ::l,i,o,ho=>by
  rcases List.mem_append.1 ho with ho|ho
  ·split at ho
   ·simp at ho;subst ho;exact RB l _ _ (.inl rfl)
   ·simp at ho
  ·exact RC l (i+1) o ho
theorem alh{os:List Op}{p:List Nat}{d:Nat}(h:Way os p d):p.Pairwise fun y x=>x≠y∧before (os.getD y default) (os.getD x default)=false:=by
 induction h with
 |nil=>exact .nil
 | @cons p d j h hj ho ih=>
  refine .cons (fun x hx=>?_) ih;have hb:=(h.bit x).2 hx;have bT:x≠j:=fun e=>by have:=kH ho;rw[←e,hb]at this;cases this
  refine⟨bT,?_⟩;have:=(GV ho (h.lt x hx) bT).2;cases hc:before (os.getD j default) (os.getD x default)with
  |false=>rfl
  |true=>exact absurd ⟨hb,hc⟩ this
theorem aqp{l:List Ev}{i:Nat}{p:List Nat}{d:Nat}(h:Way (aI i l) p d)(ha:ve (aI i l) d=true):Lin (aI i l) (p.reverse.map fun k:Nat=>(k:Int)):=by
 refine⟨?_,?_,?_⟩
 ·intro x hx;obtain⟨k,hk,rfl⟩:=List.mem_map.1 hx;have:=h.lt k (by simpa using hk);exact⟨by omega,by omega⟩
 ·intro k o hk he;have cH:=(List.getElem?_eq_some_iff.1 hk).1;unfold ve at ha;rw[List.all_eq_true]at ha;have h1:=ha k (List.mem_range.2 cH);have hg:(aI i l).getD k default=o:=by rw[List.getD_eq_getElem?_getD,hk];rfl
  rw[hg]at h1;have h0:0≤o.e:=by
   rcases RC l i o (List.mem_of_getElem? hk)with h|h
   ·exact absurd h he
   ·exact h
  have hb:d.testBit k=true:=by simpa[h0]using h1
  exact List.mem_map.2 ⟨k,by simpa using(h.bit k).1 hb,rfl⟩
 ·rw[List.pairwise_map,List.pairwise_reverse];refine(alh h).imp fun {a b} ⟨h1,h2⟩=>⟨by omega,?_⟩;exact h2
theorem XH{os:List Op}:∀(f:Nat) (ord:List Nat) (d:Nat),Way os ord.reverse d→∀q∈dfs os f ord d,∃d',Way os q.reverse d'∧ve os d'=true
 |0,ord,d,hw,q,h=>by
  unfold dfs at h;split at h
  ·simp at h;subst h;exact⟨d,hw,‹_›⟩
  ·simp at h
 |f+1,ord,d,hw,q,h=>by
  unfold dfs at h;rcases List.mem_append.1 h with h|h
  ·split at h
   ·simp at h;subst h;exact⟨d,hw,‹_›⟩
   ·simp at h
  ·obtain⟨i,hi,h⟩:=List.mem_flatMap.1 h;split at h
   ·rename_i ho;exact XH f _ _ (by rw[List.reverse_append];exact .cons hw (List.mem_range.1 hi) ho) q h
   ·simp at h
end Ln
namespace Ln
open Go.Sx Go
variable{C:bU}{X:Kn}(S:Std C X)
include S
end Ln
namespace Ln
open Go.Sx Go
def axw(X:Kn)(i:Nat)(l:List Ev)(e:Int)(ord:List Int)(cfs:List (Cf St)):Prop:=
 (jD i l≠0∧e=jD i l∧ord=[]∧cfs=[])∨
  (jD i l=0∧((Rt (aqA X i l) 1025 0 [(0,aQ i)]=none∧e=4∧ord=[]∧cfs=[])∨
   ∃L,Rt (aqA X i l) 1025 0 [(0,aQ i)]=some L∧e=0∧((∃p,Path (aqA X i l) (0,aQ i) p∧ord=uy p∧cfs=[])∨
    (¬Good (aqA X i l) (0,aQ i)∧ord=[]∧cfs.Pairwise ZU∧∀x,x∈cfs↔x∈L))))
theorem axw.uniq{X:Kn}{i:Nat}{l:List Ev}{e e':Int}{o o':List Int}{c c':List (Cf St)}(h:axw X i l e o c)(k:axw X i l e' o' c'):e=e'∧o=o'∧c=c':=by
 rcases h with⟨h0,rfl,rfl,rfl⟩|⟨h0,⟨hb,rfl,rfl,rfl⟩|⟨L,hb,rfl,h⟩⟩<;>rcases k with⟨k0,rfl,rfl,rfl⟩|⟨k0,⟨kb,rfl,rfl,rfl⟩|⟨M,kb,rfl,k⟩⟩
 ·exact⟨rfl,rfl,rfl⟩
 ·exact absurd k0 h0
 ·exact absurd k0 h0
 ·exact absurd h0 k0
 ·exact⟨rfl,rfl,rfl⟩
 ·rw[hb]at kb;cases kb
 ·exact absurd h0 k0
 ·rw[hb]at kb;cases kb
 ·rw[hb]at kb;cases kb;refine⟨rfl,?_⟩;rcases h with⟨p,hp,rfl,rfl⟩|⟨hn,rfl,hw,hm⟩<;>rcases k with⟨q,kp,rfl,rfl⟩|⟨kn,rfl,kw,km⟩
  ·rw[hp.uniq kp];exact⟨rfl,rfl⟩
  ·exact absurd hp.IT kn
  ·exact absurd kp.IT hn
  ·exact⟨rfl,PM (lt:=ZU) ahS (fun _ _ _=>aey) hw kw (fun x=>by rw[hm,km])⟩
theorem _root_.Go.Sx.gR.full{z:Nat}{α:Type}{enc:α→List AV}{c:AV}{l:List α}(h:gR z enc c l){i:Nat}(hi:i<l.length):c=.sl (ai enc l) l.length z .any:=by
 rcases h with⟨_,e⟩|e
 ·rw[e]at hi;simp at hi
 ·exact e
def azq(len:Nat)(ca cb:AV)(h0:T ag)(n0:Key)(j:Nat)(tm':T AV)(h':T ag)(nx':Key):Prop:=∃i:Nat,j=len-i∧i≤len∧ae (K 0) tm'=some ca∧ae (K 1) tm'=some cb∧ae (K 5) tm'=some (I i)∧Ext h0 n0 h' nx'
variable{C:bU}{X:Kn}(S:Std C X)
include S
theorem ZI{l:List Int}(hl:l.length≤10000){ca cb:AV}(ha:gR 1 eI ca l)(hb:gR 1 eI cb l){h:T ag}{nx:Key} :
  aM C kE [ca,cb] h nx (fun o h' nx'=>o=.ret (.bool true)∧Ext h nx h' nx'):=by
 refine S.CR.call ?_;have Ra:=ha.rd h nx;have Rb:=hb.rd h nx;simp[zy];simp[Ba];simp[↓Ra.ln,↓Rb.ln,Bb];simp[Bc];refine W.eB (n:=l.length) (azq l.length ca cb h nx) ⟨0,by simp,by omega,by simp,by simp,by simp,Ext.refl _ _⟩ ?_;rintro m dF h1 bW ⟨i,rfl,hi,g0,g1,g5,e1⟩;refine W.of ?_;simp[Bd];have Ra1:=ha.rd h1 bW;by_cases zz:i<l.length
 ·have Zn:(i:Int)<l.length:=by omega
  have g0':=g0;have Rk:=g1;rw[ha.full zz]at g0';rw[hb.full zz]at Rk;have hrl:=eF l;have hx:=zd zz;have tx:1≤l.length-i:=by omega
  simp[↓Ra1.ln,sY,g0,g5,Zn];simp[Be,g0',Rk,g5,zz,hrl,hx,tx];simp[Bf,g5];rw[aH (by omega) (by omega)];exact⟨l.length-(i+1),by omega,i+1,rfl,by omega,by simp[g0],by simp[g1],by simp,e1⟩
 ·have IQ:i=l.length:=by omega
  subst IQ;simp[↓Ra1.ln,sY,g0,g5];simp[Bg];exact e1
end Ln
namespace Ln
open Go.Sx Go
def lH(n d:Nat):List Bool:=(List.range n).map fun i=>d.testBit i
theorem jw(n d:Nat):(lH n d).length=n:=by unfold lH;rw[List.length_map,List.length_range]
theorem Nt{n d i:Nat}(h:i<n):∀hh,(c9 (lH n d))[i]'hh=.bool (d.testBit i):=fun hh=>by have h1:=ze (l:=lH n d) (i:=i) (by rw[jw];exact h);rw[A6 hh]at h1;rw[Option.some.inj h1];simp[lH]
structure OrB(os:List Op)(cO:AV)(d:Nat)(bl bt bg:Key)(h:T ag)(nx:Key):Prop where
 vl:ae bl h=Qw [cO]
 vt:ae bt h=Qw [.slice bg 0 os.length 1]
 vg:ae bg h=Qw (c9 (lH os.length d))
 ll:bl.toNat<nx.toNat
 lt:bt.toNat<nx.toNat
 lg:bg.toNat<nx.toNat
theorem OrB.ext{os:List Op}{cO:AV}{d:Nat}{bl bt bg:Key}{h h':T ag}{nx nx':Key}(B:OrB os cO d bl bt bg h nx)(e:Ext h nx h' nx'):OrB os cO d bl bt bg h' nx':=⟨by rw[e.g _ B.ll];exact B.vl,by rw[e.g _ B.lt];exact B.vt,by rw[e.g _ B.lg];exact B.vg,by have:=B.ll;have:=e.n;omega,by have:=B.lt;have:=e.n;omega,by have:=B.lg;have:=e.n;omega⟩
def aAd(os:List Op)(k d:Nat)(bl bt:Key)(h:T ag)(nx:Key)(m:Nat)(tm':T AV)(h':T ag)(nx':Key):Prop:=∃j:Nat,m=os.length-j∧j≤os.length∧ae (K 0) tm'=some (I k)∧ae (K 1) tm'=some (.ptr bl 0)∧ae (K 2) tm'=some (.ptr bt 0)∧ae (K 7) tm'=some (I os.length)∧ae (K 8) tm'=some (I j)∧Ext h nx h' nx'∧∀q,q<j→Tb os k d q=true
variable{C:bU}{X:Kn}(S:Std C X)(D:Dcd C)
include S D
theorem aqO{os:List Op}(ho:os.length≤16)(nq:∀o∈os,o.e=-1∨0≤o.e){cO:AV}(hc:gR 10 eO cO os){k d:Nat}(hk:k<os.length){bl bt bg:Key}{h:T ag}{nx:Key}(B:OrB os cO d bl bt bg h nx) :
  aM C cZ [I k,.ptr bl 0,.ptr bt 0] h nx (fun o h' nx'=>o=.ret (.bool (pg os k d))∧Ext h nx h' nx'):=by
 have rB:=S.r b9;have Eh:cO=.sl (ai eO os) os.length 10 .any:=hc.full hk;subst Eh;have hr:=dP.rows os;have Vi:=dP.at hk;have tk:10≤os.length*10-k*10:=by omega
 have yh:=gT (lH os.length d);rw[jw]at yh;have qE:pg os k d=(!d.testBit k&&(List.range os.length).all (Tb os k d)):=rfl;refine D.yj.call ?_;simp[tF];simp[wS];simp[wT,B.vl];refine W.eB (n:=os.length) (aAd os k d bl bt h nx) ⟨0,by simp,by omega,by simp,by simp,by simp,by simp,by simp,Ext.refl _ _,fun q hq=>absurd hq (by omega)⟩ ?_;rintro m dF h1 bW ⟨j,rfl,hj,g0,g1,g2,g7,g8,e1,hq⟩;have B1:=B.ext e1;refine W.of ?_;simp[wU];by_cases bY:j<os.length
 ·have Bh:(j:Int)<os.length:=by omega
  have ecj:=dP.at bY;have tj:10≤os.length*10-j*10:=by omega
  have bgj:=Nt (n:=os.length) (d:=d) bY;simp[nS,g7,g8,Bh];simp[wV,g8];by_cases hjk:j=k
  ·subst hjk;simp[nT,g0];simp[jL,g8];rw[aH (by omega) (by omega)];exact⟨os.length-(j+1),by omega,j+1,rfl,by omega,by simp[g0],by simp[g1],by simp[g2],by simp[g7],by simp,e1,Yg hq (by simp[Tb])⟩
  ·have aaz:¬(j:Int)=(k:Int):=by omega
   simp[nT,g0,bq aaz];have P6:Tb os k d j=(!(before os[j] os[k]&&decide (0≤os[j].e) && !d.testBit j) && !(d.testBit j&&before os[k] os[j])):=by
    unfold Tb;rw[kF bY,kF hk];have:(j==k)=false:=by simpa using hjk
    rw[this,Bool.false_or]
   have fail:Tb os k d j=false→pg os k d=false:=fun hf=>by rw[qE,ahe bY hf];simp
   have next:∀(tm2:T AV) (h':T ag) (nx':Key),ae (K 0) tm2=some (I k)→ae (K 1) tm2=some (.ptr bl 0)→ae (K 2) tm2=some (.ptr bt 0)→ae (K 7) tm2=some (I os.length)→ae (K 8) tm2=some (I j)→Ext h nx h' nx'→Tb os k d j=true→
     ns C (aO (fun tm h' nx'=>∃m,m<os.length-j∧aAd os k d bl bt h nx m tm h' nx') (az 0 (aO (fJ C (.seq (.ops nU) .ret) (cY [.tmp (K 4)] fun o h' nx'=>o=.ret (.bool (pg os k d))∧Ext h nx h' nx')) (cY [.tmp (K 4)] fun o h' nx'=>o=.ret (.bool (pg os k d))∧Ext h nx h' nx')))) jL tm2 h' nx':=by
    intro tm2 h' nx' q0 q1 q2 q7 q8 e' wQ;simp[jL,q8];rw[aH (by omega) (by omega)];exact⟨os.length-(j+1),by omega,j+1,rfl,by omega,by simp[q0],by simp[q1],by simp[q2],by simp[q7],by simp,e',Yg hq wQ⟩
   have t2:List.take 1 (List.drop 2 (eO os[j]))=[I os[j].e]:=rfl;have l2:∀hh:2<(eO os[j]).length,(eO os[j])[2]'hh=I os[j].e:=fun _=>rfl;cases hbj:d.testBit j with
   |true=>
    rw[hbj]at P6 bgj;simp[jM,g0,g1,g2,B1.vl,B1.vt,B1.vg,yh,bY,bgj,hk,hr,tk,tj,Vi,ecj,De,Mg,rB,Wz];refine(vo S os[k] os[j] _ _).mono ?_;rintro o h2 aN ⟨rfl,e2⟩;have B2:=B1.ext e2;cases BB:before os[k] os[j]with
    |true=>rw[BB]at P6;simp;simp[nV];exact⟨fail (by rw[P6];simp),e1.trans e2⟩
    |false=>rw[BB]at P6;simp[g0,g1,g2,B2.vl,B2.vt,B2.vg,yh,bY,bgj];refine next _ _ _ ?_ ?_ ?_ ?_ ?_ (e1.trans e2) (by rw[P6];simp)<;>simp[g0,g1,g2,g7,g8]
   |false=>
    rw[hbj]at P6 bgj;by_cases he:os[j].e=-1
    ·have bT:¬0≤os[j].e:=by omega
     simp[jM,g0,g1,g2,B1.vl,B1.vt,B1.vg,yh,bY,bgj,hk,hr,tk,tj,Vi,ecj,De,Mg,rB,Wz,t2,l2,he];refine next _ _ _ ?_ ?_ ?_ ?_ ?_ e1 (by rw[P6,decide_eq_false bT];simp)<;>simp[g0,g1,g2,g7,g8]
    ·have Gx:0≤os[j].e:=by
      rcases nq _ (DX bY)with h|h
      ·exact absurd h he
      ·exact h
     simp[jM,g0,g1,g2,B1.vl,B1.vt,B1.vg,yh,bY,bgj,hk,hr,tk,tj,Vi,ecj,De,Mg,rB,Wz,t2,l2,bq he,he];refine(vo S os[j] os[k] _ _).mono ?_;rintro o h2 aN ⟨rfl,e2⟩;cases BB:before os[j] os[k]with
     |true=>rw[BB,decide_eq_true Gx]at P6;simp;simp[nV];exact⟨fail (by rw[P6];simp),e1.trans e2⟩
     |false=>rw[BB]at P6;simp;refine next _ _ _ ?_ ?_ ?_ ?_ ?_ (e1.trans e2) (by rw[P6];simp)<;>simp[g0,g1,g2,g7,g8]
 ·have yi:j=os.length:=by omega
  subst yi;simp[nS,g7,g8];have bgk:=Nt (n:=os.length) (d:=d) hk;simp[nU,g0,g2,B1.vt,B1.vg,yh,hk,bgk];refine⟨?_,e1⟩;rw[qE];have:(List.range os.length).all (Tb os k d)=true:=AQ.2 fun q hqm=>hq q (List.mem_range.1 hqm);rw[this,Bool.and_true]
  try simp
end Ln
namespace Ln
open Go.Sx Go
theorem Nr:∀(l:List Ev) (o:Op) (i:Nat),(follow o i l).b=o.b
 | [],o,i=>rfl
 |x ::l,o,i=>by show(follow (jv i x o) (i+1) l).b=o.b;rw[Nr l,(GR i x o).2.2]
theorem agS:∀(l:List Ev) (i:Nat),∀o∈aI i l,i≤o.b
 | [],i,o,ho=>by simp[aI]at ho
 |x ::l,i,o,ho=>by
  rcases List.mem_append.1 ho with ho|ho
  ·split at ho
   ·simp at ho;subst ho;rw[Nr];exact dQ i
   ·simp at ho
  ·have:=agS l (i+1) o ho;omega
theorem GU:∀(l:List Ev) (i:Nat),(aI i l).Pairwise fun a b=>a.b<b.b
 | [],i=>.nil
 |x ::l,i=>by
  show((if x.kind=0 then [follow (qI i x) (i+1) l]else [])++aI (i+1) l).Pairwise _;split
  ·refine List.Pairwise.cons (fun o ho=>?_) (GU l (i+1));have:=agS l (i+1) o ho;rw[Nr];show i<o.b;omega
  ·exact GU l (i+1)
theorem air{l:List Ev}{i j k:Nat}(hj:j<(aI i l).length)(hk:k<(aI i l).length)(h:j<k):before (aI i l)[k] (aI i l)[j]=false:=by have h1:=List.pairwise_iff_getElem.1 (GU l i) j k hj hk h;obtain⟨h2,h3⟩:=Rz l i _ (DX hk);unfold before;rw[decide_eq_false_iff_not];omega
def UW(os:List Op)(a:Nat):List Bool:=(List.range os.length).map fun j=>decide (0≤(os.getD j default).e)&&decide (j<a)
theorem oY(os:List Op)(a:Nat):(UW os a).length=os.length:=by unfold UW;rw[List.length_map,List.length_range]
theorem QU{os:List Op}{a j:Nat}(h:j<os.length):∀hh,(c9 (UW os a))[j]'hh=.bool (decide (0≤os[j].e)&&decide (j<a)):=fun hh=>by have h1:=ze (l:=UW os a) (i:=j) (by rw[oY];exact h);rw[A6 hh]at h1;rw[Option.some.inj h1];simp only[UW,List.getElem_map,List.getElem_range];rw[kF h]
theorem aql{os:List Op}{j:Nat}(h:j<os.length)(he:0≤os[j].e):(UW os j).set j true=UW os (j+1):=by
 apply List.ext_getElem (by rw[List.length_set,oY,oY]);intro k h1 h2;rw[oY]at h2;rw[List.getElem_set];simp only[UW,List.getElem_map,List.getElem_range];by_cases hk:j=k
 ·subst hk;rw[kF h];simp[he]
 ·rw[if_neg hk];have:(k<j)↔(k<j+1):=by omega
  simp[this]
theorem ald{os:List Op}{j:Nat}(h:j<os.length)(he:¬0≤os[j].e):UW os j=UW os (j+1):=by
 apply List.ext_getElem (by rw[oY,oY]);intro k h1 h2;rw[oY]at h2;simp only[UW,List.getElem_map,List.getElem_range];by_cases hk:j=k
 ·subst hk;rw[kF h];simp[he]
 ·have:(k<j)↔(k<j+1):=by omega
  simp[this]
structure SoH(os:List Op)(a:Nat)(bg:Key)(h0:T ag)(nx0:Key)(h:T ag)(nx:Key):Prop where
 v:ae bg h=Qw (c9 (UW os a))
 ge:nx0.toNat≤bg.toNat
 lt:bg.toNat<nx.toNat
 e:Ext h0 nx0 h nx
theorem SoH.ext{os:List Op}{a:Nat}{bg:Key}{h0 h h':T ag}{nx0 nx nx':Key}(H:SoH os a bg h0 nx0 h nx)(e:Ext h nx h' nx'):SoH os a bg h0 nx0 h' nx':=⟨by rw[e.g _ H.lt];exact H.v,H.ge,by have:=e.n;have:=H.lt;omega,H.e.trans e⟩
theorem SoH.put{os:List Op}{a b:Nat}{bg:Key}{h0 h:T ag}{nx0 nx:Key}(H:SoH os a bg h0 nx0 h nx):SoH os b bg h0 nx0 (au bg (Qw (c9 (UW os b))) h) nx:=⟨gTSm _ _ _,H.ge,H.lt,H.e.put H.ge⟩
def axp(os:List Op)(cO:AV)(bg:Key)(r i a:Nat)(h0:T ag)(nx0:Key)(m:Nat)(tm':T AV)(h':T ag)(nx':Key):Prop:=∃j:Nat,m=os.length-j∧j≤os.length∧ae (K 0) tm'=some cO∧ae (K 3) tm'=some (.slice bg 0 os.length 1)∧ae (K 11) tm'=some (I os.length)∧ae (K 12) tm'=some (I r)∧ae (K 15) tm'=some (I os.length)∧ae (K 16) tm'=some (I i)∧ae (K 4) tm'=some (I i)∧ae (K 35) tm'=some (I os.length)∧ae (K 36) tm'=some (I j)∧SoH os a bg h0 nx0 h' nx'
section
variable{C:bU}{X:Kn}(S:Std C X)(D:Dcd C)
include S D
theorem aCd{os:List Op}(hl:os.length≤16)(nq:∀o∈os,o.e=-1∨0≤o.e)(XF:∀j k (hj:j<os.length) (hk:k<os.length),j<k→before os[k] os[j]=false){cO:AV}(hc:cO=.sl (ai eO os) os.length 10 .any){bg:Key}{r i:Nat}(hi:i<os.length){h0:T ag}{nx0:Key}{Q:cJ}{tm:T AV}{h1:T ag}{bW:Key}
  (A:axp os cO bg r i (i+1) h0 nx0 os.length tm h1 bW)
  (hQ:∀tm' h' nx',ae (K 0) tm'=some cO→ae (K 3) tm'=some (.slice bg 0 os.length 1)→ae (K 11) tm'=some (I os.length)→ae (K 12) tm'=some (I r)→ae (K 15) tm'=some (I os.length)→ae (K 16) tm'=some (I i)→SoH os (i+1) bg h0 nx0 h' nx'→Q .norm tm' h' nx') :
  W C (.loop qB) (az 4 Q) tm h1 bW:=by
 have rB:=S.r b9;subst hc;have hr:=dP.rows os;refine W.eB (axp os _ bg r i (i+1) h0 nx0) A ?_;rintro m dF h2 aN ⟨j,rfl,hj,g0,g3,g11,g12,g15,g16,g4,WC,Yh,H⟩;refine W.of ?_;simp[qB];have yh:=gT (UW os (i+1));rw[oY]at yh;by_cases bY:j<os.length
 ·have Bh:(j:Int)<os.length:=by omega
  have eci:=dP.at hi;have ecj:=dP.at bY;have ti:10≤os.length*10-i*10:=by omega
  have tj:10≤os.length*10-j*10:=by omega
  have bgj:=QU (a:=i+1) bY;have t2:List.take 1 (List.drop 2 (eO os[j]))=[I os[j].e]:=rfl;have l2:∀hh:2<(eO os[j]).length,(eO os[j])[2]'hh=I os[j].e:=fun _=>rfl;simp[oh,WC,Yh,Bh];simp[xh,Yh];have next:∀(tm2:T AV) (h':T ag) (nx':Key),ae (K 0) tm2=some (.sl (ai eO os) os.length 10 .any)→ae (K 3) tm2=some (.slice bg 0 os.length 1)→ae (K 11) tm2=some (I os.length)→ae (K 12) tm2=some (I r)→ae (K 15) tm2=some (I os.length)→ae (K 16) tm2=some (I i)→ae (K 4) tm2=some (I i)→ae (K 35) tm2=some (I os.length)→ae (K 36) tm2=some (I j)→SoH os (i+1) bg h0 nx0 h' nx'→
    ns C (aO (fun tm h_1 alo=>∃m,m<os.length-j∧axp os (.sl (ai eO os) os.length 10 .any) bg r i (i+1) h0 nx0 m tm h_1 alo) (az 4 Q)) oi tm2 h' nx':=by
   intro tm2 h' nx' q0 q3 UG JA q15 q16 q4 q35 q36 H';simp[oi,q36];rw[aH (by omega) (by omega)];exact⟨os.length-(j+1),by omega,j+1,rfl,by omega,by simp[q0],by simp[q3],by simp[UG],by simp[JA],by simp[q15],by simp[q16],by simp[q4],by simp[q35],by simp,H'⟩
  by_cases hjk:j=i
  ·subst hjk;simp[gQ,g4];refine next _ _ _ ?_ ?_ ?_ ?_ ?_ ?_ ?_ ?_ ?_ H<;>simp[g0,g3,g11,g12,g15,g16,g4,WC,Yh]
  ·have aaz:¬(j:Int)=(i:Int):=by omega
   cases hd:(decide (0≤os[j].e)&&decide (j<i+1))with
   |true=>rw[hd]at bgj;simp[gQ,g3,g4,bq aaz,aaz,H.v,yh,bY,bgj];refine next _ _ _ ?_ ?_ ?_ ?_ ?_ ?_ ?_ ?_ ?_ H<;>simp[g0,g3,g11,g12,g15,g16,g4,WC,Yh]
   |false=>
    rw[hd]at bgj;by_cases he:os[j].e=-1
    ·simp[gQ,g0,g3,g4,bq aaz,aaz,H.v,yh,bY,bgj,hr,tj,ecj,De,Mg,t2,l2,he];refine next _ _ _ ?_ ?_ ?_ ?_ ?_ ?_ ?_ ?_ ?_ H<;>simp[g0,g3,g11,g12,g15,g16,g4,WC,Yh]
    ·have Gx:0≤os[j].e:=by
      rcases nq _ (DX bY)with h|h
      ·exact absurd h he
      ·exact h
     have cH:i<j:=by rw[decide_eq_true Gx,Bool.true_and,decide_eq_false_iff_not]at hd;omega
     have BB:=XF i j hi bY cH;simp[gQ,g0,g3,g4,bq aaz,aaz,H.v,yh,bY,hi,bgj,hr,ti,tj,eci,ecj,De,Mg,t2,l2,bq he,he,rB,Wz];refine(vo S os[j] os[i] _ _).mono ?_;rintro o h3 bP ⟨rfl,e3⟩;rw[BB];simp;refine next _ _ _ ?_ ?_ ?_ ?_ ?_ ?_ ?_ ?_ ?_ (H.ext e3)<;>simp[g0,g3,g11,g12,g15,g16,g4,WC,Yh]
 ·have yi:j=os.length:=by omega
  subst yi;simp[oh,WC,Yh];refine hQ _ _ _ ?_ ?_ ?_ ?_ ?_ ?_ H<;>simp[g0,g3,g11,g12,g15,g16]
end
def axx(os:List Op)(cO:AV)(bg:Key)(r:Nat)(h0:T ag)(nx0:Key)(m:Nat)(tm':T AV)(h':T ag)(nx':Key):Prop:=∃i a:Nat,m=os.length-i∧i≤os.length∧(a=i∨a=os.length)∧ae (K 0) tm'=some cO∧ae (K 3) tm'=some (.slice bg 0 os.length 1)∧ae (K 11) tm'=some (I os.length)∧ae (K 12) tm'=some (I r)∧ae (K 15) tm'=some (I os.length)∧ae (K 16) tm'=some (I i)∧SoH os a bg h0 nx0 h' nx'
def aJY(os:List Op)(cO:AV)(bg:Key)(h0:T ag)(nx0:Key)(m:Nat)(tm':T AV)(h':T ag)(nx':Key):Prop:=∃r a:Nat,m=os.length-r∧r≤os.length∧(r=0∧a=0∨a=os.length)∧ae (K 0) tm'=some cO∧ae (K 3) tm'=some (.slice bg 0 os.length 1)∧ae (K 11) tm'=some (I os.length)∧ae (K 12) tm'=some (I r)∧SoH os a bg h0 nx0 h' nx'
def aCr(os:List Op)(cO:AV)(bg:Key)(h0:T ag)(nx0:Key)(m:Nat)(tm':T AV)(h':T ag)(nx':Key):Prop:=∃r:Nat,m=os.length-r∧r≤os.length∧ae (K 0) tm'=some cO∧ae (K 3) tm'=some (.slice bg 0 os.length 1)∧ae (K 75) tm'=some (I os.length)∧ae (K 76) tm'=some (I r)∧SoH os os.length bg h0 nx0 h' nx'
section
variable{C:bU}{X:Kn}(S:Std C X)(D:Dcd C)
include S D
theorem axy{os:List Op}(hl:os.length≤16)(nq:∀o∈os,o.e=-1∨0≤o.e)(XF:∀j k (hj:j<os.length) (hk:k<os.length),j<k→before os[k] os[j]=false){cO:AV}(hc:cO=.sl (ai eO os) os.length 10 .any){bg:Key}{r:Nat}{h0:T ag}{nx0:Key}{Q:cJ}{tm:T AV}{h1:T ag}{bW:Key}
  (A:axx os cO bg r h0 nx0 os.length tm h1 bW)
  (hQ:∀tm' h' nx',ae (K 0) tm'=some cO→ae (K 3) tm'=some (.slice bg 0 os.length 1)→ae (K 11) tm'=some (I os.length)→ae (K 12) tm'=some (I r)→SoH os os.length bg h0 nx0 h' nx'→Q .norm tm' h' nx') :
  W C (.loop qC) (az 2 Q) tm h1 bW:=by
 subst hc;have hr:=dP.rows os;refine W.eB (axx os _ bg r h0 nx0) A ?_;rintro m dF h2 aN ⟨i,a,rfl,hi,ha,g0,g3,g11,g12,g15,g16,H⟩;refine W.of ?_;simp[qC];have yh:=gT (UW os a);rw[oY]at yh;by_cases zz:i<os.length
 ·have Zn:(i:Int)<os.length:=by omega
  have eci:=dP.at zz;have ti:10≤os.length*10-i*10:=by omega
  have bgi:=QU (a:=a) zz;have t2:List.take 1 (List.drop 2 (eO os[i]))=[I os[i].e]:=rfl;have l2:∀hh:2<(eO os[i]).length,(eO os[i])[2]'hh=I os[i].e:=fun _=>rfl;simp[qA,g15,g16,Zn];simp[yN,g16];have next:∀(a':Nat) (tm2:T AV) (h':T ag) (nx':Key),(a'=i+1∨a'=os.length)→ae (K 0) tm2=some (.sl (ai eO os) os.length 10 .any)→ae (K 3) tm2=some (.slice bg 0 os.length 1)→ae (K 11) tm2=some (I os.length)→ae (K 12) tm2=some (I r)→ae (K 15) tm2=some (I os.length)→ae (K 16) tm2=some (I i)→SoH os a' bg h0 nx0 h' nx'→
    ns C (aO (fun tm h_1 alo=>∃m,m<os.length-i∧axx os (.sl (ai eO os) os.length 10 .any) bg r h0 nx0 m tm h_1 alo) (az 2 Q)) om tm2 h' nx':=by
   intro a' tm2 h' nx' ha' q0 q3 UG JA q15 q16 H';simp[om,q16];rw[aH (by omega) (by omega)];exact⟨os.length-(i+1),by omega,i+1,a',rfl,by omega,ha',by simp[q0],by simp[q3],by simp[UG],by simp[JA],by simp[q15],by simp,H'⟩
  by_cases he:os[i].e=-1
  ·have hz:¬0≤os[i].e:=by omega
   rw[decide_eq_false hz,Bool.false_and]at bgi;have Hs:∃a',(a'=i+1∨a'=os.length)∧SoH os a' bg h0 nx0 h2 aN:=by
    rcases ha with rfl|rfl
    ·exact⟨_,.inl rfl,⟨by rw[←ald zz hz];exact H.v,H.ge,H.lt,H.e⟩⟩
    ·exact⟨_,.inr rfl,H⟩
   obtain⟨a',ha',H'⟩:=Hs;simp[ky,g0,g3,H.v,yh,zz,bgi,hr,ti,eci,De,Mg,t2,l2,he];refine next a' _ _ _ ha' ?_ ?_ ?_ ?_ ?_ ?_ H'<;>simp[g0,g3,g11,g12,g15,g16]
  ·have Gx:0≤os[i].e:=by
    rcases nq _ (DX zz)with h|h
    ·exact absurd h he
    ·exact h
   rw[decide_eq_true Gx,Bool.true_and]at bgi;rcases ha with rfl|rfl
   ·rw[decide_eq_false (Nat.lt_irrefl _)]at bgi;have Kk:=C3 (l:=UW os a) (i:=a) (by rw[oY];exact zz) true;rw[aql zz Gx]at Kk;simp[ky,g0,g3,H.v,yh,zz,bgi,hr,ti,eci,De,Mg,t2,l2,bq he,he];have h1a:a+1≤os.length:=zz;simp[yO,g3,H.v,yh,zz,h1a,Kk];simp[yP,g0];refine aCd S D hl nq XF rfl zz (bg:=bg) (r:=r) (h0:=h0) (nx0:=nx0) ⟨0,by simp,by omega,by simp[g0],by simp[g3],by simp[g11],by simp[g12],by simp[g15],by simp[g16],by simp,by simp,by simp,H.put⟩ ?_;intro tm2 h' nx' q0 q3 UG JA q15 q16 H';simp;exact next _ _ _ _ (.inl rfl) q0 q3 UG JA q15 q16 H'
   ·rw[decide_eq_true zz]at bgi;simp[ky,g0,g3,H.v,yh,zz,bgi];refine next _ _ _ _ (.inr rfl) ?_ ?_ ?_ ?_ ?_ ?_ H<;>simp[g0,g3,g11,g12,g15,g16]
 ·have IQ:i=os.length:=by omega
  have hae:a=os.length:=by omega
  subst IQ hae;simp[qA,g15,g16];refine hQ _ _ _ ?_ ?_ ?_ ?_ H<;>simp[g0,g3,g11,g12]
end
theorem ao4(os:List Op):c9 (UW os 0)=Kg os.length [AV.bool false] []:=by rw[repL_eq];apply List.ext_getElem (by simp[gT,oY]);intro k h1 h2;rw[gT,oY]at h1;rw[QU h1];simp
section
variable{C:bU}{X:Kn}(S:Std C X)(D:Dcd C)
include S D
theorem axB{os:List Op}(hl:os.length≤16)(nq:∀o∈os,o.e=-1∨0≤o.e){cO:AV}(hc:cO=.sl (ai eO os) os.length 10 .any∨os=[]){bg:Key}{h0:T ag}{nx0:Key}{Q:cJ}{tm:T AV}{h1:T ag}{bW:Key}
  (A:aCr os cO bg h0 nx0 os.length tm h1 bW) (hQ:∀tm' h' nx',SoH os os.length bg h0 nx0 h' nx'→Q .norm tm' h' nx') :
  W C (.loop qD) (az 6 Q) tm h1 bW:=by
 have hr:=dP.rows os;refine W.eB (aCr os cO bg h0 nx0) A ?_;rintro m dF h2 aN ⟨i,rfl,hi,g0,g3,g75,g76,H⟩;refine W.of ?_;simp[qD];have yh:=gT (UW os os.length);rw[oY]at yh;by_cases zz:i<os.length
 ·have Zn:(i:Int)<os.length:=by omega
  rcases hc with hc|hc
  ·subst hc;have eci:=dP.at zz;have ti:10≤os.length*10-i*10:=by omega
   have bgi:=QU (a:=os.length) zz;have t2:List.take 1 (List.drop 2 (eO os[i]))=[I os[i].e]:=rfl;have l2:∀hh:2<(eO os[i]).length,(eO os[i])[2]'hh=I os[i].e:=fun _=>rfl;rw[decide_eq_true zz,Bool.and_true]at bgi;simp[ou,g75,g76,Zn];simp[xk,g76];by_cases he:os[i].e=-1
   ·have hz:¬0≤os[i].e:=by omega
    rw[decide_eq_false hz]at bgi;simp[ov,g0,g3,H.v,yh,zz,bgi,hr,ti,eci,De,Mg,t2,l2,he];simp[ox,g76];rw[aH (by omega) (by omega)];exact⟨os.length-(i+1),by omega,i+1,rfl,by omega,by simp[g0],by simp[g3],by simp[g75],by simp,H⟩
   ·have Gx:0≤os[i].e:=by
     rcases nq _ (DX zz)with h|h
     ·exact absurd h he
     ·exact h
    rw[decide_eq_true Gx]at bgi;simp[ov,g0,g3,H.v,yh,zz,bgi];simp[ox,g76];rw[aH (by omega) (by omega)];exact⟨os.length-(i+1),by omega,i+1,rfl,by omega,by simp[g0],by simp[g3],by simp[g75],by simp,H⟩
  ·subst hc;simp at zz
 ·have IQ:i=os.length:=by omega
  subst IQ;simp[ou,g75,g76];exact hQ _ _ _ H
theorem Z0{os:List Op}(hl:os.length≤16)(nq:∀o∈os,o.e=-1∨0≤o.e)(XF:∀j k (hj:j<os.length) (hk:k<os.length),j<k→before os[k] os[j]=false){cO:AV}(hc:gR 10 eO cO os){h:T ag}{nx:Key} :
  aM C iZ [cO] h nx (fun o h' nx'=>o=.ret (.bool true)∧Ext h nx h' nx'):=by
 have s1:=kTSu nx;have UE:cO=.sl (ai eO os) os.length 10 .any∨os=[]:=by
  cases os with
  |nil=>exact .inr rfl
  |cons a l=>exact .inl (hc.full (i:=0) (by simp))
 have hlen:∀(tm:T AV) (h:T ag),True:=fun _ _=>trivial;have e1:=E0 h nx (.cells (c9 (UW os 0)) .fix);have H0:SoH os 0 nx h nx (au nx (Qw (c9 (UW os 0))) h) nx.succ:=⟨by simp,dQ _,by omega,e1⟩;have R:=hc.rd h nx;refine D.Aw.call ?_;simp[vN];simp[yJ];simp only[yK,Ls,SG,SH,Lw,SJ,Lx,SK,SL,Lt,Lu,SM,SN,SO,SP];have hLc:os.length≤1048576:=by omega
 simp[↓R.ln,hLc,-repL_eq];rw[←ao4];generalize au nx (Qw (c9 (UW os 0))) h=h1 at *;have R1:=hc.rd h1 nx.succ;simp only[yL,Ls,SG,SH,Lw,SJ,Lx,SK,SL,Lt,Lu,SM,SN,SO,SP];simp[↓R1.ln];refine W.eB (n:=os.length) (aJY os cO nx h nx) ⟨0,0,by simp,by omega,.inl ⟨rfl,rfl⟩,by simp,by simp,by simp,by simp,H0⟩ ?_;rintro m dF h2 aN ⟨r,a,rfl,hr,ha,g0,g3,g11,g12,H⟩;refine W.of ?_;simp[yQ];have R2:=hc.rd h2 aN;by_cases hrl:r<os.length
 ·have hri:(r:Int)<os.length:=by omega
  have IN:cO=.sl (ai eO os) os.length 10 .any:=by
   rcases UE with h|h
   ·exact h
   ·subst h;simp at hrl
  simp[qz,g11,g12,hri];simp only[yM,Ls,SG,SH,Lw,SJ,Lx,SK,SL,Lt,Lu,SM,SN,SO,SP];simp[↓R2.ln,g0];refine axy S D hl nq XF IN (bg:=nx) (r:=r) (h0:=h) (nx0:=nx) ⟨0,a,by simp,by omega,by omega,by simp[g0],by simp[g3],by simp[g11],by simp[g12],by simp,by simp,H⟩ ?_;intro K1 h3 bP q0 q3 UG JA H';simp[xi,JA];rw[aH (by omega) (by omega)];exact⟨os.length-(r+1),by omega,r+1,os.length,rfl,by omega,.inr rfl,by simp[q0],by simp[q3],by simp[UG],by simp,H'⟩
 ·have hre:r=os.length:=by omega
  have hae:a=os.length:=by omega
  subst hre hae;simp[qz,g11,g12];simp only[xj,Ls,SG,SH,Lw,SJ,Lx,SK,SL,Lt,Lu,SM,SN,SO,SP];simp[↓R2.ln,g0];refine axB S D hl nq UE (bg:=nx) (h0:=h) (nx0:=nx) ⟨0,by simp,by omega,by simp[g0],by simp[g3],by simp,by simp,H⟩ ?_;intro K1 h3 bP H';simp[xl];exact H'.e
end
def kr(q:List Nat):List AV:=ai eI (q.map fun i:Nat=>(i:Int))
theorem ZJ(q:List Nat):(kr q).length=q.length:=by unfold kr;rw[eF,List.length_map]
theorem TD(q r:List Nat):kr (q++r)=kr q++kr r:=by unfold kr;rw[List.map_append,kG]
theorem MF(i:Nat):kr [i]=[I i]:=rfl
def PoR(c:AV)(ord:List Nat)(h:T ag)(nx:Key)(op:Option Key):Prop:=
 (c=.nils∧ord=[]∧op=none)∨∃(b:Key) (xu:List AV),op=some b∧c=.slice b 0 ord.length 1∧ae b h=some (.cells (kr ord++xu) .part)∧b.toNat<nx.toNat
theorem PoR.bZ{c:AV}{ord:List Nat}{h h':T ag}{nx nx':Key}{op:Option Key}(g:PoR c ord h nx op)(hn:nx.toNat≤nx'.toNat)(hk:∀b,op=some b→ae b h'=ae b h):PoR c ord h' nx' op:=by
 rcases g with g|⟨b,xu,e,e1,e2,e3⟩
 ·exact .inl g
 ·exact .inr ⟨b,xu,e,e1,by rw[hk b e];exact e2,by omega⟩
theorem PoR.push{c:AV}{ord:List Nat}{h:T ag}{nx:Key}{op:Option Key}(g:PoR c ord h nx op)(hl:ord.length+1≤1000)(i:Nat) :
  ∃c' h' nx' op',tc 1 c [I i] 1 h nx=.val c' h' nx'∧PoR c' (ord ++ [i]) h' nx' op'∧Kj h nx op h' nx' op':=by
 have s1:=kTSu nx;rcases g with⟨rfl,rfl,rfl⟩|⟨b,xu,rfl,rfl,e2,e3⟩
 ·refine⟨.slice nx 0 1 1,au nx (some (.cells [I i] .part)) h,nx.succ,some nx,by simp[tc],.inr ⟨nx,[],rfl,rfl,by simp[MF],by omega⟩,⟨by omega,fun k hk _=>aw (by omega),.inr ⟨nx,rfl,dQ _⟩⟩⟩
 ·have hol:=ZJ ord;have hm:ord.length+1≤1048576:=by omega
  cases xu with
  |nil=>
   rw[List.append_nil]at e2;have lC:¬ord.length+1≤ord.length:=by omega
   refine⟨.slice nx 0 (ord.length+1) 1,au nx (some (.cells (kr ord ++ [I i]) .part)) (au b none h),nx.succ,some nx,by simp[tc,e2,hol,hm,lC],.inr ⟨nx,[],rfl,by simp,by simp[TD,MF],by omega⟩,⟨by omega,fun k hk bT=>?_,.inr ⟨nx,rfl,dQ _⟩⟩⟩;rw[aw (by omega),aG _ _ _ _ (fun e=>bT (by rw[e]))]
  |cons x js=>
   have e4:List.take ord.length (kr ord++x ::js)=kr ord:=by rw[←hol,List.take_left]
   have e5:List.drop (ord.length+1) (kr ord++x ::js)=js:=by rw[←hol,zqq,List.drop_eq_nil_of_le (by omega)];simp
   refine⟨.slice b 0 (ord.length+1) 1,au b (some (.cells (kr ord ++ [I i]++js) .part)) h,nx,some b,?_,.inr ⟨b,js,rfl,by simp,by simp[TD,MF],e3⟩,⟨dQ _,fun k hk bT=>aG _ _ _ _ (fun e=>bT (by rw[e])),.inl rfl⟩⟩;have hlj:ord.length+1≤ord.length+(js.length+1):=by omega
   simp[tc,e2,hol,hm,hlj,e4,e5]
theorem PoR.pop{c:AV}{ord:List Nat}{i:Nat}{h:T ag}{nx:Key}{op:Option Key}(g:PoR c (ord ++ [i]) h nx op):∃b,c=.slice b 0 (ord.length+1) 1∧PoR (.slice b 0 ord.length 1) ord h nx op:=by
 rcases g with⟨_,e,_⟩|⟨b,xu,rfl,rfl,e2,e3⟩
 ·simp at e
 ·refine⟨b,by simp,.inr ⟨b,I i ::xu,rfl,rfl,?_,e3⟩⟩;rw[e2,TD,MF];simp
end Ln
namespace Ln
theorem aa0{α:Type}{l:List α}(hn:l.Nodup){i:α}(hi:i∈l){p q:α→Bool}(h:∀x∈l,x≠i→p x=q x)(hp:p i=true)(hq:q i=false):l.countP p=l.countP q+1:=by
 induction l with
 |nil=>cases hi
 |cons a l ih=>
  rw[List.nodup_cons]at hn;rw[List.countP_cons,List.countP_cons];rcases List.mem_cons.1 hi with rfl|hi
  ·have e:l.countP p=l.countP q:=List.countP_congr fun x hx=>by rw[h x (by simp[hx]) fun e=>hn.1 (e ▸ hx)]
   rw[e,hp,hq];simp
  ·have:=ih hn.2 hi fun x hx=>h x (by simp[hx]);have ha:p a=q a:=h a (by simp) fun e=>hn.1 (e ▸ hi);rw[this,ha];omega
def lI(os:List Op)(d:Nat):Nat:=(List.range os.length).countP fun j=>decide (0≤(os.getD j default).e) && !d.testBit j
theorem Mp{os:List Op}{d:Nat}:lI os d=0↔ve os d=true:=by
 unfold lI ve;rw[List.countP_eq_zero,List.all_eq_true];constructor
 ·intro h x hx;have:=h x hx;revert this;cases decide (0≤(os.getD x default).e)<;>cases d.testBit x<;>simp
 ·intro h x hx;have:=h x hx;revert this;cases decide (0≤(os.getD x default).e)<;>cases d.testBit x<;>simp
theorem alX{os:List Op}{d i:Nat}(hi:i<os.length)(hf:d.testBit i=false)(he:0≤(os.getD i default).e):lI os d=lI os (d+2^i)+1:=by
 unfold lI;refine aa0 List.nodup_range (List.mem_range.2 hi) (fun x hx bT=>?_) ?_ ?_
 ·rw[←Cp i d hf,Nat.testBit_or,Nat.testBit_two_pow];have:decide (i=x)=false:=decide_eq_false fun e=>bT e.symm;rw[this,Bool.or_false]
 ·rw[decide_eq_true he,hf];rfl
 ·rw[←Cp i d hf,Nat.testBit_or,Nat.testBit_two_pow];simp
theorem aiQ{os:List Op}{d i:Nat}(hf:d.testBit i=false)(he:¬0≤(os.getD i default).e):lI os d=lI os (d+2^i):=by
 unfold lI;refine List.countP_congr fun x hx=>?_;by_cases hx:x=i
 ·subst hx;rw[decide_eq_false he];simp
 ·rw[←Cp i d hf,Nat.testBit_or,Nat.testBit_two_pow];have:decide (i=x)=false:=decide_eq_false fun e=>hx e.symm;rw[this,Bool.or_false]
def HL(os:List Op)(f:Nat)(ord:List Nat)(d:Nat)(R:List Nat):List (List Nat):=R.flatMap fun i=>if pg os i d=true then dfs os f (ord ++ [i]) (d+2^i)else []
theorem Tu(os:List Op)(f:Nat)(ord:List Nat)(d:Nat):dfs os (f+1) ord d=(if lI os d=0 then [ord]else [])++HL os f ord d (List.range os.length):=by
 rw[dfs];congr 1;by_cases h:ve os d=true
 ·rw[if_pos h,if_pos (Mp.2 h)]
 ·rw[if_neg h,if_neg fun e=>h (Mp.1 e)]
end Ln
namespace Ln
open Go.Sx Go
def eQ(q:List Nat):List AV:=[.sl (kr q) q.length 1 .any]
theorem W6(q:List Nat):AV.gS (kr q)=true:=CT.agM _
theorem GL:Flat 1 eQ where
 len _:=rfl
 wH x y hy:=by simp[eQ]at hy;subst hy;exact Xs _ _ _
 cell x y hy:=by simp[eQ]at hy;subst hy;rfl
 lits x:=by simp[eQ,AV.gS,AV.lits,W6]
structure Bx where
 (bo bq bl bm bf bt bg bw:Key)
structure Gi(os:List Op)(cO:AV)(most:Int)(B:Bx)(n1:Key)(qs:List (List Nat))(ord:List Nat)(d:Nat)(h:T ag)(nx:Key):Prop where
 rows:∃(cQ cP:AV) (oQ oP:Option Key),ae B.bo h=Qw [cQ]∧ae B.bq h=Qw [cP]∧Gr 1 cQ (ai eQ qs) qs.length h nx oQ∧PoR cP ord h nx oP∧(∀k,oQ=some k→n1.toNat≤k.toNat)∧(∀k,oP=some k→n1.toNat≤k.toNat)∧∀k,oQ=some k→oP≠some k
 l:ae B.bl h=Qw [cO]
 m:ae B.bm h=Qw [I most]
 f:ae B.bf h=Qw [.fn cZ [] [.ptr B.bl 0,.ptr B.bt 0]]
 t:ae B.bt h=Qw [.slice B.bg 0 os.length 1]
 g:ae B.bg h=Qw (c9 (lH os.length d))
 w:ae B.bw h=Qw [.fn aZ [] [.ptr B.bo 0,.ptr B.bq 0,.ptr B.bl 0,.ptr B.bm 0,.ptr B.bf 0,.ptr B.bt 0,.ptr B.bw 0]]
 ub:B.bo.toNat<n1.toNat∧B.bq.toNat<n1.toNat∧B.bl.toNat<n1.toNat∧B.bm.toNat<n1.toNat∧B.bf.toNat<n1.toNat∧B.bt.toNat<n1.toNat∧B.bg.toNat<n1.toNat∧B.bw.toNat<n1.toNat
 n:n1.toNat≤nx.toNat
theorem Gi.ext{os:List Op}{cO:AV}{most:Int}{B:Bx}{n1:Key}{qs:List (List Nat)}{ord:List Nat}{d:Nat}{h h':T ag}{nx nx':Key}(G:Gi os cO most B n1 qs ord d h nx)(e:Ext h nx h' nx'):Gi os cO most B n1 qs ord d h' nx':=by
 obtain⟨cQ,cP,oQ,oP,r1,r2,r3,r4,r5,r6,r7⟩:=G.rows;obtain⟨u1,u2,u3,u4,u5,u6,u7,u8⟩:=G.ub;have hn:=G.n;have hn':=e.n;have k:∀b:Key,b.toNat<n1.toNat→ae b h'=ae b h:=fun b hb=>e.g b (by omega);refine⟨⟨cQ,cP,oQ,oP,by rw[k _ u1];exact r1,by rw[k _ u2];exact r2,r3.ext e,r4.bZ e.n fun b hb=>?_,r5,r6,r7⟩,by rw[k _ u3];exact G.l,by rw[k _ u4];exact G.m,by rw[k _ u5];exact G.f,by rw[k _ u6];exact G.t,by rw[k _ u7];exact G.g,by rw[k _ u8];exact G.w,G.ub,by omega⟩;rcases r4 with⟨_,_,e1⟩|⟨b',xu,e1,_,_,e3⟩
 ·rw[hb]at e1;cases e1
 ·rw[hb]at e1;cases e1;exact e.g b e3
theorem acF{b:Key}{h:T ag}{nx:Key}(hb:ae b h=Qw []):appendTo 1 (.slice b 0 0 1) [] 0 h nx=.val (.slice b 0 0 1) (au b (Qw []) h) nx:=by simp[hb]
theorem akQ{b:Key}{q:List Nat}(h0:0<q.length)(h1:q.length≤1000){h:T ag}{nx:Key}(hb:ae b h=Qw []):appendTo 1 (.slice b 0 0 1) (kr q) q.length h nx=.val (.slice nx 0 q.length 1) (au nx (some (.cells (kr q) .part)) h) nx.succ:=by
 have e1:¬q.length≤0:=by omega
 have e2:q.length≤1048576:=by omega
 have e3:(kr q).all AV.aV=true:=CT.auW _;simp[hb,e1,e2,e3]
theorem Gi.azJ{os:List Op}{cO:AV}{most:Int}{B:Bx}{n1:Key}{qs:List (List Nat)}{d:Nat}{h:T ag}{nx:Key}{cQ:AV}{oQ:Option Key}(r1:ae B.bo h=Qw [cQ])(r2:ae B.bq h=Qw [.nils])(r3:Gr 1 cQ (ai eQ qs) qs.length h nx oQ)(u1:B.bo.toNat<nx.toNat)(u2:B.bq.toNat<nx.toNat)(hq:qs.length+1≤1048576){C:bU}{Q:cJ}{tm:T AV}(g1:ae (K 1) tm=some (.ptr B.bo 0))(g2:ae (K 2) tm=some (.ptr B.bq 0))(oqb:oQ≠some B.bo)
  (hQ:∀tm' h' nx' ya yV,(∀i,i≤7→ae (K i) tm'=ae (K i) tm)→ae B.bo h'=Qw [ya]→Gr 1 ya (ai eQ (qs ++ [[]])) (qs ++ [[]]).length h' nx' yV→nx.toNat≤nx'.toNat→(∀b:Key,b.toNat<nx.toNat→b≠B.bo→oQ≠some b→ae b h'=ae b h)→(yV=oQ∨∃b:Key,yV=some b∧nx.toNat≤b.toNat)→Q .norm tm' h' nx') :
  fJ C (.staged de ⟨[dT,gj,fc,ia,iM,iT],[]⟩) Q tm h nx:=by
 have s1:=kTSu nx;have a1:ae B.bq (au nx (Qw []) h)=Qw [.nils]:=by rw[aw (by omega)];exact r2
 have f1:=acF (b:=nx) (h:=au nx (Qw []) h) (nx:=nx.succ) (by simp);have e1:=(E0 h nx (.cells [] .fix)).trans (E0 (au nx (Qw []) h) nx.succ (.cells [] .fix));simp[-appendTo,de,g1,g2,r1,r2,a1];rw[f1];have a2:ae B.bo (au nx (Qw []) (au nx (Qw []) h))=Qw [cQ]:=by rw[aw (by omega),aw (by omega)];exact r1
 have a3:ae B.bo (au nx (Qw []) h)=Qw [cQ]:=by rw[aw (by omega)];exact r1
 have hg:ae nx (au nx.succ (Qw [.slice nx 0 0 1]) (au nx (Qw []) h))=Qw []:=by rw[aw (by omega)];simp
 have hz:=wF (n:=9998) (len:=0) (sz:=1) hg rfl (fun x hx=>by cases hx);have e2:Ext h nx (au nx (some (.cells [] .ro)) (au nx.succ (Qw [.slice nx 0 0 1]) (au nx (Qw []) h))) nx.succ.succ:=((E0 h nx (.cells [] .fix)).trans (E0 _ nx.succ (.cells [.slice nx 0 0 1] .fix))).put (dQ _);simp[-appendTo,a2,a3,hz];generalize au nx (some (.cells [] .ro)) (au nx.succ (Qw [.slice nx 0 0 1]) (au nx (Qw []) h))=h2 at *;obtain⟨c',h3,bP,o3,ha,g3,F⟩:=(r3.ext e2).IS GL rfl (by omega) hq [];have ha':appendTo 1 cQ [.sl [] 0 1 .any] 1 h2 nx.succ.succ=.val c' h3 bP:=ha;rw[ha'];have b3:ae B.bo h3=Qw [cQ]:=by rw[F.g _ (by have:=e2.n;omega) oqb,e2.g _ u1];exact r1
 have cc:=g3.cell;have Rl:AV.beq cQ cQ=true:=r3.lits GL;have ne:∀i,i≤7→∀k,13≤k→K i≠K k:=fun i hi k hk e=>by have:=Oy e;omega
 simp[-appendTo,Rl,b3,cc.1,cc.2];have f2:=F.n;have f3:=e2.n;refine hQ _ _ _ c' o3 (fun i hi=>?_) (by simp) (g3.bZ (dQ _) fun b hb=>aG _ _ _ _ fun e=>?_) (by omega) (fun b hb bT lC=>?_) ?_
 ·rw[aG _ _ _ _ (ne i hi 18 (by omega)),aG _ _ _ _ (ne i hi 17 (by omega)),aG _ _ _ _ (ne i hi 16 (by omega)),aG _ _ _ _ (ne i hi 15 (by omega)),aG _ _ _ _ (ne i hi 14 (by omega)),aG _ _ _ _ (ne i hi 13 (by omega))]
 ·subst e;exact F.ne (by omega) oqb hb
 ·rw[aG _ _ _ _ bT,F.g b (by omega) lC,e2.g b hb]
 ·rcases F.o with e|⟨b,e,hb⟩
  ·exact .inl e
  ·exact .inr ⟨b,e,by omega⟩
theorem Gi.azr{os:List Op}{cO:AV}{most:Int}{B:Bx}{n1:Key}{qs:List (List Nat)}{d:Nat}{ord:List Nat}{bp:Key}{xu:List AV}(h0:0<ord.length)(h9:ord.length≤1000){h:T ag}{nx:Key}{cQ:AV}{oQ:Option Key}(r1:ae B.bo h=Qw [cQ])(r2:ae B.bq h=Qw [.slice bp 0 ord.length 1])(rp:ae bp h=some (.cells (kr ord++xu) .part))(up:bp.toNat<nx.toNat)(r3:Gr 1 cQ (ai eQ qs) qs.length h nx oQ)(u1:B.bo.toNat<nx.toNat)(u2:B.bq.toNat<nx.toNat)(hq:qs.length+1≤1048576){C:bU}{Q:cJ}{tm:T AV}(g1:ae (K 1) tm=some (.ptr B.bo 0))(g2:ae (K 2) tm=some (.ptr B.bq 0))(oqb:oQ≠some B.bo)
  (hQ:∀tm' h' nx' ya yV,(∀i,i≤7→ae (K i) tm'=ae (K i) tm)→ae B.bo h'=Qw [ya]→Gr 1 ya (ai eQ (qs ++ [ord])) (qs ++ [ord]).length h' nx' yV→nx.toNat≤nx'.toNat→(∀b:Key,b.toNat<nx.toNat→b≠B.bo→oQ≠some b→ae b h'=ae b h)→(yV=oQ∨∃b:Key,yV=some b∧nx.toNat≤b.toNat)→Q .norm tm' h' nx') :
  fJ C (.staged de ⟨[dT,gj,fc,ia,iM,iT],[]⟩) Q tm h nx:=by
 have s1:=kTSu nx;have hol:=ZJ ord;have a1:ae B.bq (au nx (Qw []) h)=Qw [.slice bp 0 ord.length 1]:=by rw[aw (by omega)];exact r2
 have ap:ae bp (au nx (Qw []) h)=some (.cells (kr ord++xu) .part):=by rw[aw (by omega)];exact rp
 have tk:List.take ord.length (kr ord++xu)=kr ord:=by rw[←hol,List.take_left]
 have fz:∀H:T ag,cn (aW 9999) (kr ord) H=(kr ord,H):=fun H=>dw (CT.IL _);have le:ord.length≤ord.length+xu.length:=by omega
 have f1:=akQ h0 h9 (b:=nx) (h:=au nx (Qw []) h) (nx:=nx.succ) (by simp);have s2:=kTSu nx.succ;simp[-appendTo,de,g1,g2,r1,r2,a1,ap,tk,fz,hol,le];rw[f1];have a2:ae B.bo (au nx.succ (some (.cells (kr ord) .part)) (au nx (Qw []) h))=Qw [cQ]:=by rw[aw (by omega),aw (by omega)];exact r1
 have hg:ae nx.succ (au nx.succ.succ (Qw [.slice nx.succ 0 ord.length 1]) (au nx.succ (some (.cells (kr ord) .part)) (au nx (Qw []) h)))=some (.cells (kr ord) .part):=by rw[aw (by omega)];simp
 have hz:=CM (n:=9998) (len:=ord.length) (sz:=1) hg (by omega) (CT.IL _);have e2:Ext h nx (au nx.succ none (au nx.succ.succ (Qw [.slice nx.succ 0 ord.length 1]) (au nx.succ (some (.cells (kr ord) .part)) (au nx (Qw []) h)))) nx.succ.succ.succ:=by have s3:=kTSu nx.succ.succ;exact⟨by omega,fun b hb=>by rw[aw (by omega),aw (by omega),aw (by omega),aw (by omega)]⟩
 simp[-appendTo,a2,hz];generalize au nx.succ none (au nx.succ.succ (Qw [.slice nx.succ 0 ord.length 1]) (au nx.succ (some (.cells (kr ord) .part)) (au nx (Qw []) h)))=h2 at *;obtain⟨c',h3,bP,o3,ha,g3,F⟩:=(r3.ext e2).IS GL rfl (by omega) hq ord;have ha':appendTo 1 cQ [.sl (kr ord) ord.length 1 .any] 1 h2 nx.succ.succ.succ=.val c' h3 bP:=ha;rw[ha'];have b3:ae B.bo h3=Qw [cQ]:=by rw[F.g _ (by have:=e2.n;omega) oqb,e2.g _ u1];exact r1
 have cc:=g3.cell;have Rl:AV.beq cQ cQ=true:=r3.lits GL;have ne:∀i,i≤7→∀k,13≤k→K i≠K k:=fun i hi k hk e=>by have:=Oy e;omega
 simp[-appendTo,Rl,b3,cc.1,cc.2];have f2:=F.n;have f3:=e2.n;refine hQ _ _ _ c' o3 (fun i hi=>?_) (by simp) (g3.bZ (dQ _) fun b hb=>aG _ _ _ _ fun e=>?_) (by omega) (fun b hb bT lC=>?_) ?_
 ·rw[aG _ _ _ _ (ne i hi 18 (by omega)),aG _ _ _ _ (ne i hi 17 (by omega)),aG _ _ _ _ (ne i hi 16 (by omega)),aG _ _ _ _ (ne i hi 15 (by omega)),aG _ _ _ _ (ne i hi 14 (by omega)),aG _ _ _ _ (ne i hi 13 (by omega))]
 ·subst e;exact F.ne (by omega) oqb hb
 ·rw[aG _ _ _ _ bT,F.g b (by omega) lC,e2.g b hb]
 ·rcases F.o with e|⟨b,e,hb⟩
  ·exact .inl e
  ·exact .inr ⟨b,e,by omega⟩
theorem Gi.azK{os:List Op}{cO:AV}{most:Int}{B:Bx}{n1:Key}{qs:List (List Nat)}{d:Nat}{h:T ag}{nx:Key}{cQ:AV}{oQ:Option Key}(r1:ae B.bo h=Qw [cQ]){bp:Key}{xu:List AV}(r2:ae B.bq h=Qw [.slice bp 0 0 1])(rp:ae bp h=some (.cells xu .part))(up:bp.toNat<nx.toNat)(r3:Gr 1 cQ (ai eQ qs) qs.length h nx oQ)(u1:B.bo.toNat<nx.toNat)(u2:B.bq.toNat<nx.toNat)(hq:qs.length+1≤1048576){C:bU}{Q:cJ}{tm:T AV}(g1:ae (K 1) tm=some (.ptr B.bo 0))(g2:ae (K 2) tm=some (.ptr B.bq 0))(oqb:oQ≠some B.bo)
  (hQ:∀tm' h' nx' ya yV,(∀i,i≤7→ae (K i) tm'=ae (K i) tm)→ae B.bo h'=Qw [ya]→Gr 1 ya (ai eQ (qs ++ [[]])) (qs ++ [[]]).length h' nx' yV→nx.toNat≤nx'.toNat→(∀b:Key,b.toNat<nx.toNat→b≠B.bo→oQ≠some b→ae b h'=ae b h)→(yV=oQ∨∃b:Key,yV=some b∧nx.toNat≤b.toNat)→Q .norm tm' h' nx') :
  fJ C (.staged de ⟨[dT,gj,fc,ia,iM,iT],[]⟩) Q tm h nx:=by
 have s1:=kTSu nx;have a1:ae B.bq (au nx (Qw []) h)=Qw [.slice bp 0 0 1]:=by rw[aw (by omega)];exact r2
 have ap:ae bp (au nx (Qw []) h)=some (.cells xu .part):=by rw[aw (by omega)];exact rp
 have f1:=acF (b:=nx) (h:=au nx (Qw []) h) (nx:=nx.succ) (by simp);have e1:=(E0 h nx (.cells [] .fix)).trans (E0 (au nx (Qw []) h) nx.succ (.cells [] .fix));simp[-appendTo,de,g1,g2,r1,r2,a1,ap];rw[f1];have a2:ae B.bo (au nx (Qw []) (au nx (Qw []) h))=Qw [cQ]:=by rw[aw (by omega),aw (by omega)];exact r1
 have a3:ae B.bo (au nx (Qw []) h)=Qw [cQ]:=by rw[aw (by omega)];exact r1
 have hg:ae nx (au nx.succ (Qw [.slice nx 0 0 1]) (au nx (Qw []) h))=Qw []:=by rw[aw (by omega)];simp
 have hz:=wF (n:=9998) (len:=0) (sz:=1) hg rfl (fun x hx=>by cases hx);have e2:Ext h nx (au nx (some (.cells [] .ro)) (au nx.succ (Qw [.slice nx 0 0 1]) (au nx (Qw []) h))) nx.succ.succ:=((E0 h nx (.cells [] .fix)).trans (E0 _ nx.succ (.cells [.slice nx 0 0 1] .fix))).put (dQ _);simp[-appendTo,a2,a3,hz];generalize au nx (some (.cells [] .ro)) (au nx.succ (Qw [.slice nx 0 0 1]) (au nx (Qw []) h))=h2 at *;obtain⟨c',h3,bP,o3,ha,g3,F⟩:=(r3.ext e2).IS GL rfl (by omega) hq [];have ha':appendTo 1 cQ [.sl [] 0 1 .any] 1 h2 nx.succ.succ=.val c' h3 bP:=ha;rw[ha'];have b3:ae B.bo h3=Qw [cQ]:=by rw[F.g _ (by have:=e2.n;omega) oqb,e2.g _ u1];exact r1
 have cc:=g3.cell;have Rl:AV.beq cQ cQ=true:=r3.lits GL;have ne:∀i,i≤7→∀k,13≤k→K i≠K k:=fun i hi k hk e=>by have:=Oy e;omega
 simp[-appendTo,Rl,b3,cc.1,cc.2];have f2:=F.n;have f3:=e2.n;refine hQ _ _ _ c' o3 (fun i hi=>?_) (by simp) (g3.bZ (dQ _) fun b hb=>aG _ _ _ _ fun e=>?_) (by omega) (fun b hb bT lC=>?_) ?_
 ·rw[aG _ _ _ _ (ne i hi 18 (by omega)),aG _ _ _ _ (ne i hi 17 (by omega)),aG _ _ _ _ (ne i hi 16 (by omega)),aG _ _ _ _ (ne i hi 15 (by omega)),aG _ _ _ _ (ne i hi 14 (by omega)),aG _ _ _ _ (ne i hi 13 (by omega))]
 ·subst e;exact F.ne (by omega) oqb hb
 ·rw[aG _ _ _ _ bT,F.g b (by omega) lC,e2.g b hb]
 ·rcases F.o with e|⟨b,e,hb⟩
  ·exact .inl e
  ·exact .inr ⟨b,e,by omega⟩
structure UX(B:Bx):Prop where
 o:B.bo≠B.bq∧B.bo≠B.bl∧B.bo≠B.bm∧B.bo≠B.bf∧B.bo≠B.bt∧B.bo≠B.bg∧B.bo≠B.bw
 q:B.bq≠B.bl∧B.bq≠B.bm∧B.bq≠B.bf∧B.bq≠B.bt∧B.bq≠B.bg∧B.bq≠B.bw
 g:B.bg≠B.bl∧B.bg≠B.bm∧B.bg≠B.bf∧B.bg≠B.bt∧B.bg≠B.bw
theorem Gi.leaf{os:List Op}{cO:AV}{most:Int}{B:Bx}(P:UX B){n1:Key}{qs:List (List Nat)}{ord:List Nat}{d:Nat}{h:T ag}{nx:Key}(G:Gi os cO most B n1 qs ord d h nx)(h9:ord.length≤1000)(hq:qs.length+1≤1048576){C:bU}{Q:cJ}{tm:T AV}(g1:ae (K 1) tm=some (.ptr B.bo 0))(g2:ae (K 2) tm=some (.ptr B.bq 0))
  (hQ:∀tm' h' nx',(∀i,i≤7→ae (K i) tm'=ae (K i) tm)→Gi os cO most B n1 (qs ++ [ord]) ord d h' nx'→nx.toNat≤nx'.toNat→(∀b:Key,b.toNat<n1.toNat→b≠B.bo→ae b h'=ae b h)→Q .norm tm' h' nx') :
  fJ C (.staged de ⟨[dT,gj,fc,ia,iM,iT],[]⟩) Q tm h nx:=by
 obtain⟨cQ,cP,oQ,oP,r1,r2,r3,r4,r5,r6,r7⟩:=G.rows;obtain⟨u1,u2,u3,u4,u5,u6,u7,u8⟩:=G.ub;have hn:=G.n;have oq:∀b:Key,b.toNat<n1.toNat→oQ≠some b:=fun b hb e=>by have:=r5 b e;omega
 have fin:∀tm' h' nx' ya yV,(∀i,i≤7→ae (K i) tm'=ae (K i) tm)→ae B.bo h'=Qw [ya]→Gr 1 ya (ai eQ (qs ++ [ord])) (qs ++ [ord]).length h' nx' yV→nx.toNat≤nx'.toNat→(∀b:Key,b.toNat<nx.toNat→b≠B.bo→oQ≠some b→ae b h'=ae b h)→(yV=oQ∨∃b:Key,yV=some b∧nx.toNat≤b.toNat)→Q .norm tm' h' nx':=by
  intro tm' h' nx' ya yV q1 q2 q3 q4 q5 q6;have k:∀b:Key,b.toNat<n1.toNat→b≠B.bo→ae b h'=ae b h:=fun b hb bT=>q5 b (by omega) bT (oq b hb);have opl:∀b,oP=some b→b.toNat<nx.toNat:=fun b hb=>by
   rcases r4 with⟨_,_,e1⟩|⟨b',xu,e1,_,_,e3⟩
   ·rw[hb]at e1;cases e1
   ·rw[hb]at e1;cases e1;exact e3
  refine hQ _ _ _ q1 ⟨⟨ya,cP,yV,oP,q2,by rw[k _ u2 P.o.1.symm];exact r2,q3,r4.bZ q4 fun b hb=>q5 b (opl b hb) (fun e=>?_) (fun e=>r7 b e hb),fun b hb=>?_,r6,fun b hb hp=>?_⟩,by rw[k _ u3 P.o.2.1.symm];exact G.l,by rw[k _ u4 P.o.2.2.1.symm];exact G.m,by rw[k _ u5 P.o.2.2.2.1.symm];exact G.f,by rw[k _ u6 P.o.2.2.2.2.1.symm];exact G.t,by rw[k _ u7 P.o.2.2.2.2.2.1.symm];exact G.g,by rw[k _ u8 P.o.2.2.2.2.2.2.symm];exact G.w,G.ub,by omega⟩ q4 k
  ·have:=r6 b hb;rw[e]at this;omega
  ·rcases q6 with e|⟨b',e,ir⟩
   ·exact r5 b (by rw[←e];exact hb)
   ·rw[hb]at e;cases e;omega
  ·rcases q6 with e|⟨b',e,ir⟩
   ·exact r7 b (by rw[←e];exact hb) hp
   ·rw[hb]at e;cases e;have:=opl b hp;omega
 rcases r4 with⟨rfl,rfl,rfl⟩|⟨b,xu,rfl,rfl,e2,e3⟩
 ·exact Gi.azJ (os:=os) (cO:=cO) (most:=most) (n1:=n1) (d:=d) r1 r2 r3 (by omega) (by omega) hq g1 g2 (oq _ u1) fin
 ·cases ord with
  |nil=>exact Gi.azK (os:=os) (cO:=cO) (most:=most) (n1:=n1) (d:=d) r1 r2 e2 e3 r3 (by omega) (by omega) hq g1 g2 (oq _ u1) fin
  |cons a l=>exact Gi.azr (os:=os) (cO:=cO) (most:=most) (n1:=n1) (d:=d) (by simp) h9 r1 r2 e2 e3 r3 (by omega) (by omega) hq g1 g2 (oq _ u1) fin
theorem acz{d i:Nat}(hf:d.testBit i=false)(j:Nat):(d+2^i).testBit j=(d.testBit j||decide (i=j)):=by rw[←Cp i d hf,Nat.testBit_or,Nat.testBit_two_pow]
theorem alV{n d i:Nat}(hi:i<n)(hf:d.testBit i=false):(lH n d).set i true=lH n (d+2^i):=by
 apply List.ext_getElem (by rw[List.length_set,jw,jw]);intro j h1 h2;rw[List.getElem_set];simp only[lH,List.getElem_map,List.getElem_range,acz hf];by_cases h:i=j
 ·rw[if_pos h,decide_eq_true h,Bool.or_true]
 ·rw[if_neg h,decide_eq_false h,Bool.or_false]
theorem alW{n d i:Nat}(hi:i<n)(hf:d.testBit i=false):(lH n (d+2^i)).set i false=lH n d:=by
 apply List.ext_getElem (by rw[List.length_set,jw,jw]);intro j h1 h2;rw[List.getElem_set];simp only[lH,List.getElem_map,List.getElem_range,acz hf];by_cases h:i=j
 ·rw[if_pos h,←h,hf]
 ·rw[if_neg h,decide_eq_false h,Bool.or_false]
variable{os:List Op}{cO:AV}{most:Int}{B:Bx}{n1:Key}{qs:List (List Nat)}{ord:List Nat}{d:Nat}{h:T ag}{nx:Key}
theorem Gi.bit(P:UX B)(G:Gi os cO most B n1 qs ord d h nx)(d':Nat):Gi os cO most B n1 qs ord d' (au B.bg (Qw (c9 (lH os.length d'))) h) nx:=by
 obtain⟨cQ,cP,oQ,oP,r1,r2,r3,r4,r5,r6,r7⟩:=G.rows;obtain⟨u1,u2,u3,u4,u5,u6,u7,u8⟩:=G.ub;have k:∀b:Key,b≠B.bg→ae b (au B.bg (Qw (c9 (lH os.length d'))) h)=ae b h:=fun b hb=>aG _ _ _ _ hb;refine⟨⟨cQ,cP,oQ,oP,by rw[k _ P.o.2.2.2.2.2.1];exact r1,by rw[k _ P.q.2.2.2.2.1];exact r2,r3.bZ (dQ _) fun b hb=>k b fun e=>?_,r4.bZ (dQ _) fun b hb=>k b fun e=>?_,r5,r6,r7⟩,by rw[k _ P.g.1.symm];exact G.l,by rw[k _ P.g.2.1.symm];exact G.m,by rw[k _ P.g.2.2.1.symm];exact G.f,by rw[k _ P.g.2.2.2.1.symm];exact G.t,by rw[gTSm],by rw[k _ P.g.2.2.2.2.symm];exact G.w,G.ub,G.n⟩
 ·have:=r5 b hb;rw[e]at this;omega
 ·have:=r6 b hb;rw[e]at this;omega
theorem Gi.push(P:UX B)(G:Gi os cO most B n1 qs ord d h nx)(hl:ord.length+1≤1000)(i:Nat) :
  ∃cP c' h' nx',ae B.bq h=Qw [cP]∧tc 1 cP [I i] 1 h nx=.val c' h' nx'∧c'.aV=true∧c'.cells=[c']∧ae B.bq h'=Qw [cP]∧AV.beq cP cP=true∧Gi os cO most B n1 qs (ord ++ [i]) d (au B.bq (Qw [c']) h') nx'∧nx.toNat≤nx'.toNat∧∀b:Key,b.toNat<n1.toNat→b≠B.bq→ae b (au B.bq (Qw [c']) h')=ae b h:=by
 obtain⟨cQ,cP,oQ,oP,r1,r2,r3,r4,r5,r6,r7⟩:=G.rows;obtain⟨u1,u2,u3,u4,u5,u6,u7,u8⟩:=G.ub;have hn:=G.n;obtain⟨c',h',nx',op',ha,g,F⟩:=r4.push hl i;have hF:=F.n;have aBK:∀b:Key,b.toNat<n1.toNat→ae b h'=ae b h:=fun b hb=>F.g b (by omega) fun e=>by have:=r6 b e;omega
 have k:∀b:Key,b.toNat<n1.toNat→b≠B.bq→ae b (au B.bq (Qw [c']) h')=ae b h:=fun b hb bT=>by rw[aG _ _ _ _ bT];exact aBK b hb
 have oQl:∀b,oQ=some b→b.toNat<nx.toNat:=fun b hb=>r3.lt b hb;have zr:c'.aV=true∧c'.cells=[c']:=by
  rcases g with⟨e,_⟩|⟨b,j,_,e,_⟩
  ·subst e;exact⟨rfl,rfl⟩
  ·subst e;exact⟨rfl,rfl⟩
 have Rl:AV.beq cP cP=true:=by
  rcases r4 with⟨e,_⟩|⟨b,j,_,e,_⟩
  ·subst e;exact beq_refl _ rfl
  ·subst e;exact beq_refl _ rfl
 have op6:∀b,op'=some b→n1.toNat≤b.toNat:=fun b hb=>by
  rcases F.o with e|⟨b',e,ir⟩
  ·exact r6 b (by rw[←e];exact hb)
  ·rw[hb]at e;cases e;omega
 refine⟨cP,c',h',nx',r2,ha,zr.1,zr.2,by rw[aBK _ u2];exact r2,Rl,⟨⟨cQ,c',oQ,op',by rw[k _ u1 P.o.1];exact r1,by rw[gTSm],r3.bZ hF fun b hb=>?_,g.bZ (dQ _) fun b hb=>aG _ _ _ _ fun e=>?_,r5,op6,fun b hb hp=>?_⟩,by rw[k _ u3 P.q.1.symm];exact G.l,by rw[k _ u4 P.q.2.1.symm];exact G.m,by rw[k _ u5 P.q.2.2.1.symm];exact G.f,by rw[k _ u6 P.q.2.2.2.1.symm];exact G.t,by rw[k _ u7 P.q.2.2.2.2.1.symm];exact G.g,by rw[k _ u8 P.q.2.2.2.2.2.symm];exact G.w,G.ub,by omega⟩,hF,k⟩
 ·have h5:=r5 b hb;rw[aG _ _ _ _ fun e=>by rw[e]at h5;omega];exact F.g b (oQl b hb) (r7 b hb)
 ·have:=op6 b hb;rw[e]at this;omega
 ·rcases F.o with e|⟨b',e,ir⟩
  ·exact r7 b hb (by rw[←e];exact hp)
  ·rw[hp]at e;cases e;have:=oQl b hb;omega
theorem Gi.pop{i:Nat}(P:UX B)(G:Gi os cO most B n1 qs (ord ++ [i]) d h nx) :
  ∃b xu,ae B.bq h=Qw [.slice b 0 (ord.length+1) 1]∧ae b h=some (.cells (kr (ord ++ [i])++xu) .part)∧Gi os cO most B n1 qs ord d (au B.bq (Qw [.slice b 0 ord.length 1]) h) nx∧∀k:Key,k.toNat<n1.toNat→k≠B.bq→ae k (au B.bq (Qw [.slice b 0 ord.length 1]) h)=ae k h:=by
 obtain⟨cQ,cP,oQ,oP,r1,r2,r3,r4,r5,r6,r7⟩:=G.rows;obtain⟨u1,u2,u3,u4,u5,u6,u7,u8⟩:=G.ub;obtain⟨b,e,g⟩:=r4.pop;subst e;have Nb:∃xu,ae b h=some (.cells (kr (ord ++ [i])++xu) .part):=by
  rcases r4 with⟨e,_⟩|⟨b',j,_,e,e2,_⟩
  ·cases e
  ·simp only[AV.slice.injEq]at e;obtain⟨rfl,_⟩:=e;exact⟨j,e2⟩
 obtain⟨xu,Nb⟩:=Nb;have k:∀k:Key,k≠B.bq→ae k (au B.bq (Qw [.slice b 0 ord.length 1]) h)=ae k h:=fun k hb=>aG _ _ _ _ hb;refine⟨b,xu,r2,Nb,⟨⟨cQ,_,oQ,oP,by rw[k _ P.o.1];exact r1,by rw[gTSm],r3.bZ (dQ _) fun b hb=>k b fun e=>?_,g.bZ (dQ _) fun b hb=>k b fun e=>?_,r5,r6,r7⟩,by rw[k _ P.q.1.symm];exact G.l,by rw[k _ P.q.2.1.symm];exact G.m,by rw[k _ P.q.2.2.1.symm];exact G.f,by rw[k _ P.q.2.2.2.1.symm];exact G.t,by rw[k _ P.q.2.2.2.2.1.symm];exact G.g,by rw[k _ P.q.2.2.2.2.2.symm];exact G.w,G.ub,G.n⟩,fun b _ hb=>k b hb⟩
 ·have:=r5 b hb;rw[e]at this;omega
 ·have:=r6 b hb;rw[e]at this;omega
end Ln
