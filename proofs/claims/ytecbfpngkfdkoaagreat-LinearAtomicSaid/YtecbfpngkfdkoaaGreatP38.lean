/- A part of the proof. No condition. -/
import Derived.Test.YtecbfpngkfdkoaaGreatP15
import Derived.Test.YtecbfpngkfdkoaaGreatP20
import Derived.Test.YtecbfpngkfdkoaaGreatP34
import Derived.Test.YtecbfpngkfdkoaaGreatP19
import Derived.Test.YtecbfpngkfdkoaaGreatP36
import Derived.Test.YtecbfpngkfdkoaaGreatP37
set_option linter.unusedSimpArgs false
set_option linter.unusedVariables false
set_option linter.unusedSectionVars false
namespace Ln
open Go.Sx Go Go.Proofs
section
variable{ρ:Nat→Int}
theorem auX(i:Nat):(SI.var i).den ρ=ρ i:=rfl
theorem auY(n:Int):(SI.lit n).den ρ=n:=rfl
end
theorem aCO{s:St}(h:AD 0 s):∃l,s=⟨2,0,l⟩∧l.length≤3∧∀u∈l,u.k=0:=by obtain⟨k,n,l⟩:=s;simp only[AD,if_pos]at h;obtain⟨rfl,rfl,h3,h4⟩:=h;exact⟨l,rfl,h3,h4⟩
theorem ao9{i:Nat}{s:St}(h:AD i s)(hi:i≠0):∃n,s=⟨0,n,[]⟩:=by obtain⟨k,n,l⟩:=s;simp only[AD,if_neg hi]at h;obtain⟨rfl,rfl⟩:=h;exact⟨n,rfl⟩
inductive K3:List U→Prop
 |k0:K3 []
 |k1 (a:Int):K3 [⟨0,a⟩]
 |k2 (a b:Int):K3 [⟨0,a⟩,⟨0,b⟩]
 |k3 (a b c:Int):K3 [⟨0,a⟩,⟨0,b⟩,⟨0,c⟩]
theorem K3.of:∀{l:List U},l.length≤3→(∀u∈l,u.k=0)→K3 l
 | [],_,_=>.k0
 | [⟨k,a⟩],_,h=>by have h1:=h ⟨k,a⟩ (by simp);cases h1;exact .k1 a
 | [⟨k,a⟩,⟨l,b⟩],_,h=>by have h1:=h ⟨k,a⟩ (by simp);have h2:=h ⟨l,b⟩ (by simp);cases h1;cases h2;exact .k2 a b
 | [⟨k,a⟩,⟨l,b⟩,⟨m,c⟩],_,h=>by have h1:=h ⟨k,a⟩ (by simp);have h2:=h ⟨l,b⟩ (by simp);have h3:=h ⟨m,c⟩ (by simp);cases h1;cases h2;cases h3;exact .k3 a b c
 |_ ::_ ::_ ::_ ::_,h,_=>absurd h (by simp)
inductive ShF:cd→St→List U→Prop
 |put (l:List U) (n:Int) (h:K3 l):ShF .put ⟨2,0,l⟩ [⟨0,n⟩]
 |get (l:List U) (h:K3 l):ShF .get ⟨2,0,l⟩ []
 |inc (m:Int):ShF .inc ⟨0,m,[]⟩ []
 |readC (m:Int):ShF .readC ⟨0,m,[]⟩ []
 |add (m n:Int):ShF .add ⟨0,m,[]⟩ [⟨0,n⟩]
 |write (m n:Int):ShF .write ⟨0,m,[]⟩ [⟨0,n⟩]
 |readR (m:Int):ShF .readR ⟨0,m,[]⟩ []
theorem ShF.of{c:cd}{s:St}{a:List U}(hs:AD c.fm s)(ha:LJ c a):ShF c s a:=by
 cases c
 ·obtain⟨l,rfl,h1,h2⟩:=aCO hs;obtain⟨n,rfl⟩:=ha.one rfl;exact .put l n (.of h1 h2)
 ·obtain⟨l,rfl,h1,h2⟩:=aCO hs;cases ha.none rfl;exact .get l (.of h1 h2)
 ·obtain⟨m,rfl⟩:=ao9 hs (by decide);cases ha.none rfl;exact .inc m
 ·obtain⟨m,rfl⟩:=ao9 hs (by decide);cases ha.none rfl;exact .readC m
 ·obtain⟨m,rfl⟩:=ao9 hs (by decide);obtain⟨n,rfl⟩:=ha.one rfl;exact .add m n
 ·obtain⟨m,rfl⟩:=ao9 hs (by decide);obtain⟨n,rfl⟩:=ha.one rfl;exact .write m n
 ·obtain⟨m,rfl⟩:=ao9 hs (by decide);cases ha.none rfl;exact .readR m
theorem aCP{c:cd}{s:St}{a:List U}(h:ShF c s a):ZX c s a=.tuple [.bool (Ck c s),I 0]:=by
 cases h with
 |put l n h=>cases h<;>rfl
 |get l h=>cases h<;>rfl
 |inc m=>
  by_cases q:m<99
  ·show DT.val _ (aL.dt tX)=_;have e:holds (yz ⟨0,m,[]⟩ [] z0 0) .lss (.var 1) (.lit 99)=true:=by simp[holds,fS,auX,auY];exact decide_eq_true q
   simp only[tX,aL.dt,DT.val,e,Ck,decide_eq_true q];rfl
  ·show DT.val _ (aL.dt tX)=_;have e:holds (yz ⟨0,m,[]⟩ [] z0 0) .lss (.var 1) (.lit 99)=false:=by simp[holds,fS,auX,auY];exact decide_eq_false q
   simp only[tX,aL.dt,DT.val,e,Ck,decide_eq_false q];rfl
 |readC m=>rfl
 |add m n=>rfl
 |write m n=>rfl
 |readR m=>rfl
def ax9(x e:SI):DT:=.ask .lss x e (.leaf (.tuple [.bool false,I 0])) (.ask .gtr x e (.leaf (.tuple [.bool false,I 0])) (.leaf (.tuple [.bool true,I 0])))
theorem apa{ρ:Nat→Int}(x e:SI):(ax9 x e).val ρ=.tuple [.bool (decide (x.den ρ=e.den ρ)),I 0]:=by
 simp only[ax9,DT.val,holds,fS];by_cases h1:x.den ρ<e.den ρ
 ·have h:¬x.den ρ=e.den ρ:=by omega
  simp only[decide_eq_true h1,decide_eq_false h];rfl
 ·by_cases h2:x.den ρ>e.den ρ
  ·have h:¬x.den ρ=e.den ρ:=by omega
   simp only[decide_eq_false h1,decide_eq_true h2,decide_eq_false h];rfl
  ·have h:x.den ρ=e.den ρ:=by omega
   simp only[decide_eq_false h1,decide_eq_false h2,decide_eq_true h];rfl
theorem aKV(a b:Int):decide ((⟨0,a⟩:U)=⟨0,b⟩)=decide (a=b):=by
 by_cases h:a=b
 ·subst h;simp
 ·simp[h]
theorem xo{ρ:Nat→Int}{d:DT}{x e:SI}{a b:Int}(h:d.val ρ=(ax9 x e).val ρ)(hx:x.den ρ=a)(he:e.den ρ=b):d.val ρ=.tuple [.bool (decide ((⟨0,a⟩:U)=⟨0,b⟩)),I 0]:=by rw[h,apa,hx,he,aKV]
theorem asS{c:cd}{s:St}{a:List U}{r:U}(h:ShF c s a)(hc:Ck c s=true)(hr:r.k=0):GM c s a r=.tuple [.bool (decide (r=pz c s a)),I 0]:=by
 obtain⟨k,b⟩:=r;cases hr;cases h with
 |put l n h=>
  cases h
  ·exact xo (x:=.var 11) (e:=.lit 0) rfl rfl rfl
  ·exact xo (x:=.var 11) (e:=.lit 0) rfl rfl rfl
  ·exact xo (x:=.var 11) (e:=.lit 0) rfl rfl rfl
  ·exact xo (x:=.var 11) (e:=.lit 0) rfl rfl rfl
 |get l h=>
  cases h
  ·exact absurd hc (by decide)
  ·exact xo (x:=.var 11) (e:=.var 3) rfl rfl rfl
  ·exact xo (x:=.var 11) (e:=.var 3) rfl rfl rfl
  ·exact xo (x:=.var 11) (e:=.var 3) rfl rfl rfl
 |inc m=>exact xo (x:=.var 11) (e:=.bin .add .i64 (.var 1) (.lit 1)) rfl rfl ((eK ..).symm)
 |readC m=>exact xo (x:=.var 11) (e:=.var 1) rfl rfl rfl
 |add m n=>exact xo (x:=.var 11) (e:=.bin .add .i64 (.var 1) (.var 9)) rfl rfl ((eK ..).symm)
 |write m n=>exact xo (x:=.var 11) (e:=.lit 0) rfl rfl rfl
 |readR m=>exact xo (x:=.var 11) (e:=.var 1) rfl rfl rfl
theorem aya{c:cd}{s:St}{a:List U}{r:U}(h:ShF c s a)(hc:Ck c s=true):O1 c s a r=.tuple [.agg (eS (wP c s a)),I 0]:=by
 cases h with
 |put l n h=>cases h<;>rfl
 |get l h=>cases h<;>first|exact absurd hc (by decide)|rfl
 |inc m=>show AV.tuple [.agg [I 0,I (IntKind.i64.wrap (m+1)),.str 0 0,.nils],I 0]=.tuple [.agg [I 0,I (bD .i64 (m+1)),.str 0 0,.nils],I 0];rw[eK]
 |readC m=>rfl
 |add m n=>show AV.tuple [.agg [I 0,I (IntKind.i64.wrap (m+n)),.str 0 0,.nils],I 0]=.tuple [.agg [I 0,I (bD .i64 (m+n)),.str 0 0,.nils],I 0];rw[eK]
 |write m n=>rfl
 |readR m=>rfl
theorem aCQ:XF K0 where
 can c s a hs ha:=by
  have h:=aCP (ShF.of hs ha);refine⟨?_,?_⟩
  ·show RD (ZX c s a)=0;rw[h];rfl
  ·show adR (ZX c s a)=_;rw[h];rfl
 hold c s a r hs ha hc hr:=by
  have h:=asS (r:=r) (ShF.of hs ha) hc hr;refine⟨?_,?_⟩
  ·show RD (GM c s a r)=0;rw[h];rfl
  ·show adR (GM c s a r)=_;rw[h];rfl
 next c s a r hs ha hc hr:=by
  have h:=aya (r:=r) (ShF.of hs ha) hc;refine⟨?_,?_⟩
  ·show RD (O1 c s a r)=0;rw[h];rfl
  ·show aiM (O1 c s a r)=_;rw[h];clear h;cases ShF.of hs ha with
   |put l n q=>cases q<;>rfl
   |get l q=>cases q<;>rfl
   |_=>rfl
end Ln
namespace Ln
open Go.Sx Go
theorem Pv(x:Ev):∀(l p:List Ev),cM p l=0→cM p (l ++ [x])=BS (l.reverse++p) x
 | [],p,_=>by show(match BS p x with|0=>cM (x ::p) []|n=>n)=BS p x;cases BS p x<;>rfl
 |y ::l,p,h=>by
  have h':(match BS p y with|0=>cM (y ::p) l|n=>n)=0:=h;have hb:BS p y=0:=by
   cases hb:BS p y with
   |zero=>rfl
   |succ n=>rw[hb]at h';simp at h'
  have hv:cM (y ::p) l=0:=by simpa[hb]using h'
  show(match BS p y with|0=>cM (y ::p) (l ++ [x])|n=>n)=_;simp only[hb];rw[Pv x l (y ::p) hv];simp
theorem amc(i:Nat)(x:Ev)(o:Op):(kn i x o).name=o.name∧(kn i x o).args=o.args∧(kn i x o).b=o.b:=by
 unfold kn;split
 ·split
  ·exact⟨rfl,rfl,rfl⟩
  ·split<;>exact⟨rfl,rfl,rfl⟩
 ·exact⟨rfl,rfl,rfl⟩
def Fwd(o:Op):Prop:=(o.e<0∨(o.b:Int)≤o.e)∧(o.lost<0∨(o.b:Int)≤o.lost)
theorem S0:∀(l:List Ev) (o:Op) (i:Nat),o.b≤i→Fwd o→Fwd (follow o i l)
 | [],o,i,_,h=>h
 |x ::l,o,i,hb,h=>by
  refine S0 l (kn i x o) (i+1) (by rw[(amc i x o).2.2];omega) ?_;unfold kn;split
  ·split
   ·exact⟨h.1,.inr (by show(o.b:Int)≤(i:Int);omega)⟩
   ·split
    ·exact⟨.inr (by show(o.b:Int)≤(i:Int);omega),h.2⟩
    ·exact h
  ·exact h
theorem aaD:∀(l:List Ev) (i:Nat),∀o∈aR i l,Fwd o
 | [],i,o,ho=>by simp[aR]at ho
 |x ::l,i,o,ho=>by
  rcases List.mem_append.1 ho with ho|ho
  ·split at ho
   ·simp at ho;subst ho;exact S0 l _ _ (by show i≤i+1;omega) ⟨.inl (by show(-1:Int)<0;omega),.inl (by show(-1:Int)<0;omega)⟩
   ·simp at ho
  ·exact aaD l (i+1) o ho
theorem aaq{l:List Ev}{i:Nat}:∀o∈aR i l,before o o=false:=by intro o ho;obtain⟨h1,h2⟩:=aaD l i o ho;unfold before;rw[decide_eq_false_iff_not];omega
inductive Way(os:List Op):List Nat→Nat→Prop
 |nil:Way os [] 0
 |cons {p:List Nat} {d j:Nat} (h:Way os p d) (hj:j<os.length) (ho:Cw os j d=true):Way os (j ::p) (d+2^j)
theorem WD{os:List Op}{k d:Nat}(h:Cw os k d=true):d.testBit k=false:=by unfold Cw at h;rw[jq]at h;simpa using h.1
theorem amd{os:List Op}{k d:Nat}(h:Cw os k d=true){q:Nat}(hq:q<os.length)(hn:q≠k):¬(before (os.getD q default) (os.getD k default)=true∧0≤(os.getD q default).e∧d.testBit q=false)∧¬(d.testBit q=true∧before (os.getD k default) (os.getD q default)=true):=by
 unfold Cw at h;rw[jq,sF]at h;have:=h.2 q (List.mem_range.2 hq);have hb:(q==k)=false:=by simpa using hn
 rw[hb]at this;simp only[Bool.false_or,jq,Bool.not_eq_true',Bool.and_eq_false_iff,decide_eq_false_iff_not]at this;obtain⟨h1,h2⟩:=this;constructor
 ·rintro⟨a,b,c⟩;rcases h1 with(h1|h1)|h1
  ·rw[a]at h1;cases h1
  ·exact h1 b
  ·rw[c]at h1;simp at h1
 ·rintro⟨a,b⟩;rcases h2 with h2|h2
  ·rw[a]at h2;cases h2
  ·rw[b]at h2;cases h2
theorem aqH{os:List Op}{k d:Nat}(h0:d.testBit k=false)(h:∀q,q<os.length→q≠k→¬(before (os.getD q default) (os.getD k default)=true∧0≤(os.getD q default).e∧d.testBit q=false)∧¬(d.testBit q=true∧before (os.getD k default) (os.getD q default)=true)):Cw os k d=true:=by
 unfold Cw;rw[jq,sF];refine⟨by simpa using h0,fun q hq=>?_⟩;by_cases e:q=k
 ·simp[e]
 ·obtain⟨h1,h2⟩:=h q (List.mem_range.1 hq) e;have hb:(q==k)=false:=by simpa using e
  rw[hb];simp only[Bool.false_or,jq,Bool.not_eq_true'];constructor
  ·cases a:before (os.getD q default) (os.getD k default)with
   |false=>simp
   |true=>
    by_cases b:0≤(os.getD q default).e
    ·cases c:d.testBit q with
     |true=>simp
     |false=>exact absurd ⟨a,b,c⟩ h1
    ·rw[decide_eq_false b];simp
  ·cases a:d.testBit q with
   |false=>simp
   |true=>
    cases b:before (os.getD k default) (os.getD q default)with
    |false=>simp
    |true=>exact absurd ⟨a,b⟩ h2
theorem Way.bit{os:List Op}{p:List Nat}{d:Nat}(h:Way os p d):∀q,d.testBit q=true↔q∈p:=by
 induction h with
 |nil=>intro q;simp
 | @cons p d j h hj ho ih=>
  intro q;rw[←RI j d (WD ho),Nat.testBit_or,Nat.testBit_two_pow,Bool.or_eq_true,ih q,GP,decide_eq_true_eq];constructor
  ·rintro(h|h)
   ·exact .inr h
   ·exact .inl h.symm
  ·rintro(h|h)
   ·exact .inr h.symm
   ·exact .inl h
theorem Way.lt{os:List Op}{p:List Nat}{d:Nat}(h:Way os p d):∀j∈p,j<os.length:=by
 induction h with
 |nil=>simp
 | @cons p d j h hj ho ih=>
  intro q hq;rcases GP.1 hq with rfl|hq
  ·exact hj
  ·exact ih q hq
section
variable{σ:Type}
def adO(take:Nat→σ→Option σ):List Nat→σ→Option σ
 | [],s=>some s
 |i ::l,s=>(take i s).bind (adO take l)
end
theorem S6:∀(l:List Ev) (o:Op) (i:Nat),(o.e=-1∨0≤o.e)→((follow o i l).e=-1∨0≤(follow o i l).e)
 | [],o,i,h=>h
 |x ::l,o,i,h=>by
  refine S6 l (kn i x o) (i+1) ?_;unfold kn;split
  ·split
   ·exact h
   ·split
    ·exact .inr (by show(0:Int)≤(i:Int);omega)
    ·exact h
  ·exact h
theorem aaE:∀(l:List Ev) (i:Nat),∀o∈aR i l,o.e=-1∨0≤o.e
 | [],i,o,ho=>by simp[aR]at ho
 |x ::l,i,o,ho=>by
  rcases List.mem_append.1 ho with ho|ho
  ·split at ho
   ·simp at ho;subst ho;exact S6 l _ _ (.inl rfl)
   ·simp at ho
  ·exact aaE l (i+1) o ho
theorem aak{os:List Op}{p:List Nat}{d:Nat}(h:Way os p d):p.Pairwise fun y x=>x≠y∧before (os.getD y default) (os.getD x default)=false:=by
 induction h with
 |nil=>exact .nil
 | @cons p d j h hj ho ih=>
  refine .cons (fun x hx=>?_) ih;have hb:=(h.bit x).2 hx;have bW:x≠j:=fun e=>by have:=WD ho;rw[←e,hb]at this;cases this
  refine⟨bW,?_⟩;have:=(amd ho (h.lt x hx) bW).2;cases hc:before (os.getD j default) (os.getD x default)with
  |false=>rfl
  |true=>exact absurd ⟨hb,hc⟩ this
theorem aqI{l:List Ev}{i:Nat}{p:List Nat}{d:Nat}(h:Way (aR i l) p d)(ha:FP (aR i l) d=true):Lin (aR i l) (p.reverse.map fun k:Nat=>(k:Int)):=by
 refine⟨?_,?_,?_⟩
 ·intro x hx;obtain⟨k,hk,rfl⟩:=NI.1 hx;have:=h.lt k (by simpa using hk);exact⟨by omega,by omega⟩
 ·intro k o hk he;have cQ:=(List.getElem?_eq_some_iff.1 hk).1;unfold FP at ha;rw[sF]at ha;have h1:=ha k (List.mem_range.2 cQ);have hg:(aR i l).getD k default=o:=by rw[List.getD_eq_getElem?_getD,hk];rfl
  rw[hg]at h1;have h0:0≤o.e:=by
   rcases aaE l i o (List.mem_of_getElem? hk)with h|h
   ·exact absurd h he
   ·exact h
  have hb:d.testBit k=true:=by simpa[h0]using h1
  exact NI.2 ⟨k,by simpa using(h.bit k).1 hb,rfl⟩
 ·rw[List.pairwise_map,List.pairwise_reverse];refine(aak h).imp fun {a b} ⟨h1,h2⟩=>⟨by omega,?_⟩;exact h2
theorem aaj{X:Kn}{i:Nat}{os:List Op}:∀(q:List Nat) (s:St),(∀k∈q,k<os.length)→X.run i os (jU q) s=(adO (aY X i os).take q s).isSome
 | [],s,_=>rfl
 |k ::q,s,h=>by
  have hk:=h k (by simp);have DK:at_ os (k:Int)=os.getD k default:=by rw[Yj rfl hk,vq hk]
  show(match X.take (cm i (at_ os (k:Int))) (at_ os (k:Int)) s with|none=>false|some t=>X.run i os (jU q) t)=((X.take (cm i (os.getD k default)) (os.getD k default) s).bind _).isSome;rw[DK];cases X.take (cm i (os.getD k default)) (os.getD k default) s with
  |none=>rfl
  |some t=>exact aaj q t fun x hx=>h x (by simp[hx])
theorem aqj{X:Kn}{i:Nat}{os:List Op}{ord:List Nat}{s0 s:St}(nd:ord.Nodup)(lt:∀k∈ord,k<os.length)(en:∀k,k<os.length→0≤(os.getD k default).e→k∈ord)(rt:ord.Pairwise fun x y=>before (os.getD y default) (os.getD x default)=false)(run:adO (aY X i os).take ord s0=some s):Good (aY X i os) (0,s0):=by
 have key:∀(post pre:List Nat) (d:Nat) (s1:St),ord=pre++post→(∀q,d.testBit q=true↔q∈pre)→adO (aY X i os).take post s1=some s→Good (aY X i os) (d,s1):=by
  intro post
  induction post with
  |nil=>
   intro pre d s1 e hb _;refine .now ?_;show FP os d=true;unfold FP;rw[sF];intro q hq;have hq:=List.mem_range.1 hq;by_cases h0:0≤(os.getD q default).e
   ·have:=en q hq h0;rw[e,List.append_nil]at this;rw[(hb q).2 this,Bool.or_true]
   ·rw[decide_eq_false h0];rfl
  |cons k post ih=>
   intro pre d s1 e hb hr;have hk:k∈ord:=by rw[e];simp
   have UB:=lt k hk;have hkp:k∉pre:=fun h=>by rw[e,List.nodup_append]at nd;exact nd.2.2 k h k (by simp) rfl
   have h0:d.testBit k=false:=by
    cases hd:d.testBit k with
    |false=>rfl
    |true=>exact absurd ((hb k).1 hd) hkp
   rw[e,List.pairwise_append,List.pairwise_cons]at rt;obtain⟨_,⟨r1,_⟩,r2⟩:=rt;have ho:Cw os k d=true:=by
    refine aqH h0 fun q hq bW=>⟨?_,?_⟩
    ·rintro⟨h1,h2,h3⟩;have hm:=en q hq h2;rw[e]at hm;rcases List.mem_append.1 hm with hm|hm
     ·rw[(hb q).2 hm]at h3;cases h3
     ·rcases GP.1 hm with hm|hm
      ·exact bW hm
      ·rw[r1 q hm]at h1;cases h1
    ·rintro⟨h1,h2⟩;have:=r2 q ((hb q).1 h1) k (by simp);rw[this]at h2;cases h2
   have hr:((aY X i os).take k s1).bind (adO (aY X i os).take post)=some s:=hr;cases ht:(aY X i os).take k s1 with
   |none=>rw[ht]at hr;cases hr
   |some t=>
    rw[ht]at hr;have g:=ih (pre ++ [k]) (d+2^k) t (by rw[e];simp) (fun q=>by rw[←RI k d h0,Nat.testBit_or,Nat.testBit_two_pow,Bool.or_eq_true,hb q,List.mem_append,List.mem_singleton,decide_eq_true_eq];exact⟨fun h=>h.imp id Eq.symm,fun h=>h.imp id Eq.symm⟩) hr
    refine .step (i:=k) (c':=(d+2^k,t)) ?_ g;unfold Sys.steps;rw[List.mem_filterMap];refine⟨k,List.mem_range.2 UB,?_⟩;unfold Sys.step;rw[if_pos (show(aY X i os).Gf k (d,s1).1=true from ho)];show((aY X i os).take k s1).map _=_;rw[ht];rfl
 exact key ord [] 0 s0 rfl (fun q=>by simp) run
theorem alT{X:Kn}{i:Nat}{os:List Op}{c:Cf St}{p:List Nat}(h:Path (aY X i os) c p):∀p0,Way os p0 c.1→∃d',Way os (p.reverse++p0) d'∧FP os d'=true∧(adO (aY X i os).take p c.2).isSome=true:=by
 induction h with
 | @now c h=>exact fun p0 hw=>⟨c.1,by simpa using hw,h,rfl⟩
 | @step c c' j p a b h e no g ih=>intro p0 hw;obtain⟨h1,h2,h3,h4⟩:=Il (S:=aY X i os) (c:=c) (c':=c') (i:=j) (by rw[e];simp);obtain⟨d',w,ac,r⟩:=ih (j ::p0) (by rw[h3];exact .cons hw h1 h2);refine⟨d',by simpa using w,ac,?_⟩;show(((aY X i os).take j c.2).bind _).isSome=true;rw[h4];exact r
theorem ad4{X:Kn}{i:Nat}{l:List Ev}(h0:sK i l=0){p:List Nat}(hp:Path (aY X i (aR 0 l)) (0,bJ i) p):X.check i l (jU p)=0∧p.length≤(aR 0 l).length:=by
 obtain⟨d',hw,ha,hr⟩:=alT hp [] .nil;rw[List.append_nil]at hw;have hl:=aqI hw ha;rw[List.reverse_reverse]at hl;have hl:jt (aR 0 l) (jU p)=true:=O6 hl;have cQ:∀k∈p,k<(aR 0 l).length:=fun k hk=>hw.lt k (by simpa using hk);refine⟨?_,?_⟩
 ·unfold Kn.check;rw[if_pos h0,if_pos hl,aaj p _ cQ,if_pos hr]
 ·have hn:p.reverse.Nodup:=(aak hw).imp fun {a b} h e=>h.1 e.symm;have:=Q6 (m:=List.range (aR 0 l).length) hn fun x hx=>List.mem_range.2 (cQ x (by simpa using hx));simpa using this
structure Cl where
 calls:List (cd×List U)
 fin:Nat
 op:Bool
 dn:Nat
 loc:U
 ix:Nat
structure Wd where
 sh:St
 eG:List Ev
 cls:List Cl
structure Gh where
 c:cd
 a:List U
 r:U
def kB(c:Nat)(q:cd×List U):Ev:=⟨0,c,q.1.name,q.2,BM⟩
def qn(c:Nat)(r:U):Ev:=⟨1,c,(0,0),[],r⟩
def IK:Ev:=⟨2,0,(0,0),[],BM⟩
def NN(gs:List Gh):List Nat→St→Option St
 | [],s=>some s
 |k ::l,s=>match gs[k]? with
  |none=>none
  |some g=>if Ck g.c s=true∧g.r=pz g.c s g.a then NN gs l (wP g.c s g.a)else none
theorem aa9(gs:List Gh):∀(l m:List Nat) (s:St),NN gs (l++m) s=(NN gs l s).bind (NN gs m)
 | [],m,s=>rfl
 |k ::l,m,s=>by
  simp only[List.cons_append,NN];cases gs[k]? with
  |none=>rfl
  |some g=>
   simp only;split
   ·exact aa9 gs l m _
   ·rfl
theorem KW{gs gs':List Gh}:∀{l:List Nat} {s:St},(∀k∈l,gs'[k]?=gs[k]?)→NN gs' l s=NN gs l s
 | [],s,_=>rfl
 |k ::l,s,h=>by
  simp only[NN];rw[h k (by simp)];cases gs[k]? with
  |none=>rfl
  |some g=>
   simp only;split
   ·exact KW fun x hx=>h x (by simp[hx])
   ·rfl
def small(a:List U):Prop:=∀u∈a,0≤u.n∧u.n≤2
structure OkC(i:Nat)(x:Cl):Prop where
 q:∀q∈x.calls,q.1.fm=i∧LJ q.1 q.2∧small q.2
 len:x.calls.length≤3
 fin:x.fin+(if x.op=true then 1 else 0)≤x.calls.length
structure OpG(i:Nat)(wR:List Nat)(n k:Nat)(o:Op)(g:Gh):Prop where
 name:o.name=g.c.name
 args:o.args=g.a
 fm:g.c.fm=i
 ok:LJ g.c g.a
 b:o.b<n
 e:0≤o.e→k∈wR∧o.res=g.r
 z:o.e<0→o.res=BM
 k:o.res.k=0
 gk:g.r.k=0
def CV(l:List Cl):Nat:=(l.map fun x=>x.fin+if x.op=true then 1 else 0).sum
structure Inv(i:Nat)(w:Wd)(gs:List Gh)(wR:List Nat):Prop where
 sh:AD i w.sh
 bd:i=1→0≤w.sh.n∧w.sh.n≤2*(wR.length:Int)
 vd:cM [] w.eG=0
 ob:∀c:Nat,c<4→(0≤kC c w.eG.reverse↔∃x,w.cls[c]?=some x∧x.op=true)
 gl:gs.length=(aR 0 w.eG).length
 ea:∀k o g,(aR 0 w.eG)[k]?=some o→gs[k]?=some g→OpG i wR w.eG.length k o g
 k1:∀(c:Nat) (x:Cl),w.cls[c]?=some x→x.op=true→∃o g,(aR 0 w.eG)[x.ix]?=some o∧gs[x.ix]?=some g∧o.client=(c:Int)∧o.e<0∧o.lost<0∧x.calls[x.fin]?=some (g.c,g.a)∧((x.dn=0∧x.ix∉wR∧x.loc=BM)∨(x.dn=1∧x.ix∈wR∧g.r=x.loc))
 k2:∀k o,(aR 0 w.eG)[k]?=some o→o.e<0→o.lost<0→∃(c:Nat) (x:Cl),o.client=(c:Int)∧w.cls[c]?=some x∧x.op=true∧x.ix=k
 nd:wR.Nodup
 lt:∀k∈wR,k<gs.length
 rt:wR.Pairwise fun x y=>before ((aR 0 w.eG).getD y default) ((aR 0 w.eG).getD x default)=false
 run:NN gs wR (bJ i)=some w.sh
 cn:gs.length=CV w.cls
 cl:w.cls.length≤3
 cf:∀(c:Nat) (x:Cl),w.cls[c]?=some x→OkC i x
theorem ahF:∀(l:List Nat) (i v:Nat) (h:i<l.length),(l.set i v).sum+l[i]=l.sum+v
 |a ::l,0,v,_=>by simp;omega
 |a ::l,i+1,v,h=>by have:=ahF l i v (by simpa using h);simp only[List.set_cons_succ,List.sum_cons,List.getElem_cons_succ];omega
theorem Om{l:List Cl}{c:Nat}{x y:Cl}(h:l[c]?=some x):CV (l.set c y)+(x.fin+if x.op=true then 1 else 0)=CV l+(y.fin+if y.op=true then 1 else 0):=by obtain⟨hl,e⟩:=List.getElem?_eq_some_iff.1 h;have:=ahF (l.map fun x=>x.fin+if x.op=true then 1 else 0) c (y.fin+if y.op=true then 1 else 0) (by simpa using hl);rw[List.getElem_map,e]at this;unfold CV;rw[List.map_set];exact this
theorem aba{i:Nat}:∀{l:List Cl},(∀x∈l,OkC i x)→CV l≤3*l.length
 | [],_=>by simp[CV]
 |x ::l,h=>by have:=aba (l:=l) fun y hy=>h y (by simp[hy]);have hx:=h x (by simp);have h1:=hx.fin;have h2:=hx.len;unfold CV at *;simp only[ZC,List.sum_cons,ZW];omega
theorem Inv.few{i:Nat}{w:Wd}{gs:List Gh}{wR:List Nat}(I:Inv i w gs wR):(aR 0 w.eG).length≤9:=by
 have:=aba (i:=i) (l:=w.cls) fun x hx=>by obtain⟨c,hc,rfl⟩:=List.getElem_of_mem hx;exact I.cf c _ (pY hc)
 have h1:=I.cn;have h2:=I.gl;have h3:=I.cl;omega
theorem Inv.alr{i:Nat}{w:Wd}{gs:List Gh}{wR:List Nat}(I:Inv i w gs wR):wR.length≤9:=by have:=Q6 (m:=List.range gs.length) I.nd fun x hx=>List.mem_range.2 (I.lt x hx);have h1:=I.few;have h2:=I.gl;simp at this;omega
theorem ahG:∀{l:List Cl},(∀x∈l,x.fin=0∧x.op=false)→CV l=0
 | [],_=>rfl
 |x ::l,h=>by have h1:=h x (by simp);have:=ahG (l:=l) fun y hy=>h y (by simp[hy]);unfold CV at *;simp[h1.1,h1.2,this]
theorem amN{i:Nat}{cls:List Cl}(hl:cls.length≤3)(h:∀x∈cls,OkC i x∧x.fin=0∧x.op=false):Inv i ⟨bJ i,[],cls⟩ [] []:=by
 have hx:∀(c:Nat) (x:Cl),cls[c]?=some x→OkC i x∧x.fin=0∧x.op=false:=fun c x hc=>h x (List.mem_of_getElem? hc);refine⟨AD.init i,fun e=>by subst e;exact⟨Int.le_refl _,Int.le_refl _⟩,rfl,fun c hc=>⟨fun h0=>absurd h0 (by simp[kC]),?_⟩,rfl,fun k o g h1=>(by simp[aR]at h1),?_,fun k o h1=>(by simp[aR]at h1),.nil,by simp,.nil,rfl,(ahG fun x hx=>(h x hx).2).symm,hl,fun c x hc=>(hx c x hc).1⟩
 ·rintro⟨x,h1,h2⟩;rw[(hx c x h1).2.2]at h2;cases h2
 ·intro c x h1 h2;rw[(hx c x h1).2.2]at h2;cases h2
theorem asV(l:List Ev)(c:Nat)(q:cd×List U):aR 0 (l ++ [kB c q])=aR 0 l ++ [CW l.length (kB c q)]:=by rw[CM,Nat.zero_add,if_pos (show(kB c q).kind=0 from rfl)];congr 1;exact(List.map_congr_left fun o _=>W9 (show(kB c q).kind=0 from rfl)).trans (List.map_id _)
theorem Ze(l:List Ev){y:Ev}(h:y.kind≠0):aR 0 (l ++ [y])=(aR 0 l).map (kn l.length y):=by rw[CM,Nat.zero_add,if_neg h,List.append_nil]
theorem aCW(n:Nat)(y:Ev)(o:Op):(kn n y o).b=o.b∧(kn n y o).name=o.name∧(kn n y o).args=o.args∧(kn n y o).client=o.client:=by
 unfold kn
 repeat' split
 all_goals exact⟨rfl,rfl,rfl,rfl⟩
theorem agN{n:Nat}{y:Ev}{a b:Op}(hb:b.b≤n)(h:before a b=false):before (kn n y a) (kn n y b)=false:=by
 unfold before at *;rw[decide_eq_false_iff_not]at *;rw[(aCW n y b).1];unfold kn
 repeat' split
 all_goals first|omega|(simp only;omega)
theorem aye{l:List Cl}{c:Nat}{x y:Cl}(hx:l[c]?=some x)(h:y.op=x.op)(c':Nat):(∃z,(l.set c y)[c']?=some z∧z.op=true)↔∃z,l[c']?=some z∧z.op=true:=by
 have hl:=(List.getElem?_eq_some_iff.1 hx).1;rw[List.getElem?_set];by_cases e:c=c'
 ·subst e;rw[if_pos rfl,if_pos hl,hx];simp[h]
 ·rw[if_neg e]
theorem Iy{l:List Cl}{c c':Nat}{x y z:Cl}(hx:l[c]?=some x)(h:(l.set c y)[c']?=some z):(c'=c∧z=y)∨(c'≠c∧l[c']?=some z):=by
 have hl:=(List.getElem?_eq_some_iff.1 hx).1;rw[List.getElem?_set]at h;by_cases e:c=c'
 ·rw[if_pos e,if_pos hl]at h;exact .inl ⟨e.symm,(Option.some.inj h).symm⟩
 ·rw[if_neg e]at h;exact .inr ⟨fun q=>e q.symm,h⟩
theorem qC{l:List Cl}{c:Nat}{x y:Cl}(hx:l[c]?=some x):(l.set c y)[c]?=some y:=by have hl:=(List.getElem?_eq_some_iff.1 hx).1;rw[List.getElem?_set,if_pos rfl,if_pos hl]
theorem Dq{l:List Cl}{c c':Nat}{y:Cl}(h:c'≠c):(l.set c y)[c']?=l[c']?:=by rw[List.getElem?_set,if_neg fun e=>h e.symm]
variable{i:Nat}{w:Wd}{gs:List Gh}{wR:List Nat}
theorem Inv.aCX(I:Inv i w gs wR){c c':Nat}{x x':Cl}(h:w.cls[c]?=some x)(h':w.cls[c']?=some x')(o:x.op=true)(o':x'.op=true)(e:x.ix=x'.ix):c=c':=by obtain⟨a,_,a1,_,a2,_⟩:=I.k1 c x h o;obtain⟨b,_,b1,_,b2,_⟩:=I.k1 c' x' h' o';rw[e,b1]at a1;cases a1;omega
theorem aqv(I:Inv i w gs wR){c:Nat}{x:Cl}{q:cd×List U}(hx:w.cls[c]?=some x)(ho:x.op=true)(hd:x.dn=0)(hq:x.calls[x.fin]?=some q)(Xo:Ck q.1 w.sh=true):Inv i ⟨wP q.1 w.sh q.2,w.eG,w.cls.set c {x with dn:=1,loc:=pz q.1 w.sh q.2}⟩ (gs.set x.ix ⟨q.1,q.2,pz q.1 w.sh q.2⟩) (wR ++ [x.ix]):=by
 obtain⟨o,g,ho1,hg1,SZ,he,lV,hcq,Fk⟩:=I.k1 c x hx ho;have hqg:q=(g.c,g.a):=by rw[hcq]at hq;exact(Option.some.inj hq).symm
 have XU:x.ix∉wR:=by
  rcases Fk with h|h
  ·exact h.2.1
  ·omega
 have RJ:x.ix<gs.length:=(List.getElem?_eq_some_iff.1 hg1).1;have G:=I.ea _ _ _ ho1 hg1;have hm:q.1.fm=i:=by rw[hqg];exact G.fm
 have ha:LJ q.1 q.2:=by rw[hqg];exact G.ok
 have hsm:small q.2:=((I.cf c x hx).q q (List.mem_of_getElem? hq)).2.2;have hs:=I.sh;have hgd:(aR 0 w.eG).getD x.ix default=o:=by rw[List.getD_eq_getElem?_getD,ho1];rfl
 refine⟨by rw[←hm]at hs ⊢;exact AD.next hs ha Xo,fun e=>?_,I.vd,fun c' LU=>?_,by rw[List.length_set];exact I.gl,fun k o' g' h1 h2=>?_,fun c' x' h1 h2=>?_,fun k o' h1 h2 h3=>?_,?_,fun k hk=>?_,?_,?_,?_,by rw[List.length_set];exact I.cl,fun c' x' h1=>?_⟩
 ·obtain⟨b1,b2⟩:=I.bd e;have:=I.alr;have hn:∀d:Int,0≤d→d≤2→w64 (w.sh.n+d)=w.sh.n+d:=fun d h1 h2=>aO (by omega) (by omega);rw[DG,List.length_singleton];subst e;generalize q.1=cc at *;cases cc<;>simp only[cd.fm]at hm<;>simp only[wP]
  all_goals first|omega|skip
  ·rw[hn 1 (by omega) (by omega)];omega
  ·obtain⟨v,hv⟩:=ha.one rfl;rw[hv]at hsm ⊢;have:=hsm ⟨0,v⟩ (by simp);simp only at this;simp only[List.headD_cons];rw[hn v this.1 this.2];omega
 ·rw[I.ob c' LU];exact(aye (y:={x with dn:=1,loc:=pz q.1 w.sh q.2}) hx rfl c').symm
 ·by_cases ek:k=x.ix
  ·subst ek;rw[List.getElem?_set,if_pos rfl,if_pos RJ]at h2;cases h2;rw[ho1]at h1;cases h1;refine⟨by rw[hqg];exact G.name,by rw[hqg];exact G.args,hm,ha,G.b,fun h=>absurd h (by omega),G.z,G.k,?_⟩;show(pz q.1 w.sh q.2).k=0;exact ak6 (by rw[hm];exact hs)
  ·rw[List.getElem?_set,if_neg fun e=>ek e.symm]at h2;have G':=I.ea _ _ _ h1 h2;exact⟨G'.name,G'.args,G'.fm,G'.ok,G'.b,fun h=>⟨List.mem_append_left _ (G'.e h).1,(G'.e h).2⟩,G'.z,G'.k,G'.gk⟩
 ·rcases Iy hx h1 with⟨rfl,rfl⟩|⟨bW,h1⟩
  ·exact⟨o,⟨q.1,q.2,pz q.1 w.sh q.2⟩,ho1,by rw[List.getElem?_set,if_pos rfl,if_pos RJ],SZ,he,lV,hq,.inr ⟨rfl,by simp,rfl⟩⟩
  ·obtain⟨o',g',a1,a2,a3,a4,a5,a6,a7⟩:=I.k1 c' x' h1 h2;have hix:x'.ix≠x.ix:=fun e=>bW (I.aCX h1 hx h2 ho e);refine⟨o',g',a1,by rw[List.getElem?_set,if_neg fun e=>hix e.symm];exact a2,a3,a4,a5,a6,?_⟩;rcases a7 with⟨b1,b2,b3⟩|⟨b1,b2,b3⟩
   ·exact .inl ⟨b1,by simp[b2,hix],b3⟩
   ·exact .inr ⟨b1,List.mem_append_left _ b2,b3⟩
 ·obtain⟨c',x',a1,a2,a3,a4⟩:=I.k2 k o' h1 h2 h3;by_cases e:c'=c
  ·subst e;rw[hx]at a2;cases a2;exact⟨c',_,a1,qC hx,ho,a4⟩
  ·exact⟨c',x',a1,by rw[Dq e];exact a2,a3,a4⟩
 ·rw[List.nodup_append];exact⟨I.nd,by simp,fun a ha b hb e=>by simp at hb;subst hb;subst e;exact XU ha⟩
 ·rw[List.length_set];rcases List.mem_append.1 hk with h|h
  ·exact I.lt k h
  ·simp at h;subst h;exact RJ
 ·rw[List.pairwise_append];refine⟨I.rt,by simp,fun a ha b hb=>?_⟩;simp at hb;subst hb;rw[hgd];unfold before;rw[decide_eq_false_iff_not];omega
 ·rw[aa9,KW (gs:=gs) (fun k hk=>by rw[List.getElem?_set,if_neg];intro e;subst e;exact XU hk),I.run];show NN _ [x.ix] w.sh=_;simp only[NN];rw[List.getElem?_set,if_pos rfl,if_pos RJ];simp only;rw[if_pos ⟨Xo,trivial⟩]
 ·have:=Om (y:={x with dn:=1,loc:=pz q.1 w.sh q.2}) hx;rw[List.length_set,I.cn];simp only at this ⊢;omega
 ·rcases Iy hx h1 with⟨rfl,rfl⟩|⟨bW,h1⟩
  ·have:=I.cf c' x hx;exact⟨this.q,this.len,this.fin⟩
  ·exact I.cf c' x' h1
theorem Zf{l:List Ev}{y:Ev}(h:cM [] l=0)(hb:BS l.reverse y=0):cM [] (l ++ [y])=0:=by rw[Pv y l [] h,List.append_nil];exact hb
theorem agO(c:Int)(l:List Ev)(y:Ev):kC c (l ++ [y]).reverse=kC c (y ::l.reverse):=by rw[List.reverse_append];rfl
theorem aiS(I:Inv i w gs wR){c:Nat}{x:Cl}{q:cd×List U}(AN:c<4)(hx:w.cls[c]?=some x)(ho:x.op=false)(hq:x.calls[x.fin]?=some q):Inv i ⟨w.sh,w.eG ++ [kB c q],w.cls.set c {x with op:=true,dn:=0,loc:=BM,ix:=gs.length}⟩ (gs ++ [⟨q.1,q.2,BM⟩]) wR:=by
 have NH:=asV w.eG c q;have hf:=(I.cf c x hx);obtain⟨hm,ha,hsm⟩:=hf.q q (List.mem_of_getElem? hq);have hfl:=(List.getElem?_eq_some_iff.1 hq).1;have AB:¬0≤kC c w.eG.reverse:=fun h=>by obtain⟨z,h1,h2⟩:=(I.ob c AN).1 h;rw[hx]at h1;cases h1;rw[ho]at h2;cases h2
 have Wq:∀{k:Nat},k<gs.length→(aR 0 (w.eG ++ [kB c q]))[k]?=(aR 0 w.eG)[k]?∧(gs ++ [(⟨q.1,q.2,BM⟩:Gh)])[k]?=gs[k]?:=fun {k} hk=>by rw[NH,List.getElem?_append_left (by rw[←I.gl];exact hk),List.getElem?_append_left hk];exact⟨rfl,rfl⟩
 have new:(aR 0 (w.eG ++ [kB c q]))[gs.length]?=some (CW w.eG.length (kB c q))∧(gs ++ [(⟨q.1,q.2,BM⟩:Gh)])[gs.length]?=some ⟨q.1,q.2,BM⟩:=by
  rw[NH,I.gl];constructor
  ·simp
  ·rw[←I.gl];simp
 have hn1:(gs ++ [(⟨q.1,q.2,BM⟩:Gh)]).length=gs.length+1:=by simp
 have he1:(w.eG ++ [kB c q]).length=w.eG.length+1:=by simp
 have Fk:∀{k:Nat} {o:Op},(aR 0 (w.eG ++ [kB c q]))[k]?=some o→k<gs.length∨(k=gs.length∧o=CW w.eG.length (kB c q)):=fun {k o} h=>by
  have hl:=(List.getElem?_eq_some_iff.1 h).1;rw[NH,DG,List.length_singleton,←I.gl]at hl;rcases KA k gs.length with h1|h1
  ·exact .inl h1
  ·have:k=gs.length:=by omega
   subst this;rw[new.1]at h;exact .inr ⟨rfl,(Option.some.inj h).symm⟩
 refine⟨I.sh,I.bd,?_,fun c' LU=>?_,?_,fun k o' g' h1 h2=>?_,fun c' x' h1 h2=>?_,fun k o' h1 h2 h3=>?_,I.nd,fun k hk=>?_,?_,?_,?_,by rw[List.length_set];exact I.cl,fun c' x' h1=>?_⟩
 ·refine Zf I.vd ?_;have pB:zk (kB c q)=true:=by unfold zk;rw[decide_eq_true_eq];have:=alN q.1;have har:=ZL q.1;have ha1:=ha.1;refine⟨by simp[kB],by simp[kB],by show(0:Int)≤(c:Int);omega,by show(c:Int)≤3;omega,.inl ⟨rfl,rfl,this.1,this.2,by show q.2.length≤16;omega,sF.2 fun u hu=>an2 (ha.2 u hu)⟩⟩
  unfold BS;rw[pB,if_neg (by decide),if_neg,if_neg (by simp[kB])];rintro⟨_,h⟩;exact AB h
 ·show 0≤kC (c':Int) (w.eG ++ [kB c q]).reverse↔∃x,(w.cls.set c _)[c']?=some x∧x.op=true;rw[agO,aih (x:=kB c q) rfl];by_cases e:c'=c
  ·subst e;rw[if_pos (show(c':Int)=(kB c' q).client from rfl),qC hx];exact⟨fun _=>⟨_,rfl,rfl⟩,fun _=>by omega⟩
  ·rw[if_neg (show ¬(c':Int)=(kB c q).client from fun h=>e (by have:(c':Int)=(c:Int):=h;omega)),Dq e];exact I.ob c' LU
 ·show(gs ++ [_]).length=_;rw[NH,DG,DG,I.gl];rfl
 ·rcases Fk h1 with hk|⟨rfl,rfl⟩
  ·rw[(Wq hk).1]at h1;rw[(Wq hk).2]at h2;have G:=I.ea _ _ _ h1 h2;exact⟨G.name,G.args,G.fm,G.ok,by show _<(w.eG ++ [_]).length;rw[he1];have:=G.b;omega,G.e,G.z,G.k,G.gk⟩
  ·rw[new.2]at h2;cases h2;exact⟨rfl,rfl,hm,ha,by show _<(w.eG ++ [_]).length;rw[he1];show w.eG.length<_;omega,fun h=>absurd h (by simp[CW]),fun _=>rfl,rfl,rfl⟩
 ·rcases Iy hx h1 with⟨rfl,rfl⟩|⟨bW,h1⟩
  ·exact⟨_,_,new.1,new.2,rfl,by simp[CW],by simp[CW],hq,.inl ⟨rfl,fun h=>by have:=I.lt _ h;simp only at this;omega,rfl⟩⟩
  ·obtain⟨o',g',a1,a2,a3⟩:=I.k1 c' x' h1 h2;have hl:=(List.getElem?_eq_some_iff.1 a2).1;exact⟨o',g',by rw[(Wq hl).1];exact a1,by rw[(Wq hl).2];exact a2,a3⟩
 ·rcases Fk h1 with hk|⟨rfl,rfl⟩
  ·rw[(Wq hk).1]at h1;obtain⟨c',x',a1,a2,a3,a4⟩:=I.k2 k o' h1 h2 h3;refine⟨c',x',a1,?_,a3,a4⟩;show(w.cls.set c _)[c']?=_;rw[Dq,a2];rintro rfl;rw[hx]at a2;cases a2;rw[ho]at a3;cases a3
  ·exact⟨c,_,rfl,qC hx,rfl,rfl⟩
 ·rw[hn1];have:=I.lt k hk;omega
 ·refine I.rt.imp_of_mem fun {a b} ha hb h=>?_;have h1:=I.lt a ha;have h2:=I.lt b hb;show before ((aR 0 (w.eG ++ [kB c q])).getD b default) ((aR 0 (w.eG ++ [kB c q])).getD a default)=false;rw[List.getD_eq_getElem?_getD,List.getD_eq_getElem?_getD,(Wq h1).1,(Wq h2).1,←List.getD_eq_getElem?_getD,←List.getD_eq_getElem?_getD];exact h
 ·rw[KW (gs:=gs) fun k hk=>(Wq (I.lt k hk)).2];exact I.run
 ·have:=Om (y:={x with op:=true,dn:=0,loc:=BM,ix:=gs.length}) hx;have e:=I.cn;rw[hn1];simp[ho]at this ⊢;omega
 ·rcases Iy hx h1 with⟨rfl,rfl⟩|⟨bW,h1⟩
  ·exact⟨hf.q,hf.len,by simp;omega⟩
  ·exact I.cf c' x' h1
theorem apf{l:List Ev}{y:Ev}(hy:y.kind≠0){gs:List Gh}{wR:List Nat}(gl:gs.length=(aR 0 l).length)(hb:∀(k:Nat) (o:Op),(aR 0 l)[k]?=some o→o.b<l.length)(lt:∀k∈wR,k<gs.length)(rt:wR.Pairwise fun x y=>before ((aR 0 l).getD y default) ((aR 0 l).getD x default)=false):wR.Pairwise fun a b=>before ((aR 0 (l ++ [y])).getD b default) ((aR 0 (l ++ [y])).getD a default)=false:=by rw[Ze l hy];refine rt.imp_of_mem fun {a b} ha fF h=>?_;have h1:=lt a ha;have h2:=lt b fF;rw[gl]at h1 h2;have e1:=pY h1;have e2:=pY h2;rw[List.getD_eq_getElem?_getD,List.getD_eq_getElem?_getD,e1,e2]at h;rw[List.getD_eq_getElem?_getD,List.getD_eq_getElem?_getD,List.getElem?_map,List.getElem?_map,e1,e2];exact agN (by have:=hb a _ e1;omega) h
theorem aqw(I:Inv i w gs wR){c:Nat}{x:Cl}(AN:c<4)(hx:w.cls[c]?=some x)(ho:x.op=true)(hd:x.dn=1):Inv i ⟨w.sh,w.eG ++ [qn c x.loc],w.cls.set c {x with op:=false,fin:=x.fin+1}⟩ gs wR:=by
 have hk:(qn c x.loc).kind≠0:=by simp[qn]
 have NH:=Ze w.eG hk;have hf:=(I.cf c x hx);obtain⟨o,g,ho1,hg1,SZ,he,lV,hcq,Fk⟩:=I.k1 c x hx ho;have yI:x.ix∈wR∧g.r=x.loc:=by
  rcases Fk with h|h
  ·omega
  ·exact h.2
 have G0:=I.ea _ _ _ ho1 hg1;have he1:(w.eG ++ [qn c x.loc]).length=w.eG.length+1:=by simp
 have hlk:x.loc.k=0:=by rw[←yI.2];exact G0.gk
 have aTy:0≤kC c w.eG.reverse:=(I.ob c AN).2 ⟨x,hx,ho⟩;have hbs:∀(k:Nat) (o:Op),(aR 0 w.eG)[k]?=some o→o.b<w.eG.length:=fun k o h=>by have hl:=(List.getElem?_eq_some_iff.1 h).1;rw[←I.gl]at hl;exact(I.ea k o _ h (pY hl)).b
 have hup:∀{k:Nat} {o':Op},(aR 0 (w.eG ++ [qn c x.loc]))[k]?=some o'→∃p,(aR 0 w.eG)[k]?=some p∧((k=x.ix∧p=o∧o'={o with e:=w.eG.length,res:=x.loc})∨(o'=p∧¬(p.e<0∧p.lost<0∧p.client=c))):=fun {k o'} h=>by
  rw[NH,List.getElem?_map]at h;cases hp:(aR 0 w.eG)[k]? with
  |none=>rw[hp]at h;cases h
  |some p=>
   rw[hp]at h;have h:kn w.eG.length (qn c x.loc) p=o':=Option.some.inj h;refine⟨p,rfl,?_⟩;unfold kn at h;split at h
   ·rename_i lf;rw[if_neg (by simp[qn])]at h;by_cases Nt:p.client=c
    ·rw[if_pos ⟨rfl,Nt.symm⟩]at h;obtain⟨c',x',a1,a2,a3,a4⟩:=I.k2 k p hp lf.1 lf.2;have:c'=c:=by omega
     subst this;rw[hx]at a2;cases a2;subst a4;rw[ho1]at hp;cases hp;exact .inl ⟨rfl,rfl,h.symm⟩
    ·rw[if_neg (fun q=>Nt q.2.symm)]at h;exact .inr ⟨h.symm,fun q=>Nt q.2.2⟩
   ·rename_i lf;exact .inr ⟨h.symm,fun q=>lf ⟨q.1,q.2.1⟩⟩
 refine⟨I.sh,I.bd,?_,fun c' LU=>?_,?_,fun k o' g' h1 h2=>?_,fun c' x' h1 h2=>?_,fun k o' h1 h2 h3=>?_,I.nd,I.lt,?_,I.run,?_,by rw[List.length_set];exact I.cl,fun c' x' h1=>?_⟩
 ·refine Zf I.vd ?_;have pB:zk (qn c x.loc)=true:=by unfold zk;rw[decide_eq_true_eq];exact⟨by simp[qn],by simp[qn],by show(0:Int)≤(c:Int);omega,by show(c:Int)≤3;omega,.inr (.inl ⟨rfl,rfl,rfl,an2 hlk⟩)⟩
  unfold BS;rw[pB,if_neg (by decide),if_neg (by simp[qn]),if_neg];rintro⟨_,h⟩;have h:kC (c:Int) w.eG.reverse<0:=h;omega
 ·show 0≤kC (c':Int) (w.eG ++ [qn c x.loc]).reverse↔∃x,(w.cls.set c _)[c']?=some x∧x.op=true;rw[agO,aii (x:=qn c x.loc) rfl];by_cases e:c'=c
  ·subst e;rw[if_pos (show(c':Int)=(qn c' x.loc).client from rfl),qC hx];exact⟨fun h=>absurd h (by omega),fun⟨z,h1,h2⟩=>by cases h1;cases h2⟩
  ·rw[if_neg (show ¬(c':Int)=(qn c x.loc).client from fun h=>e (by have:(c':Int)=(c:Int):=h;omega)),Dq e];exact I.ob c' LU
 ·show gs.length=_;rw[NH,List.length_map];exact I.gl
 ·obtain⟨p,hp,⟨rfl,rfl,rfl⟩|⟨rfl,_⟩⟩:=hup h1
  ·rw[hg1]at h2;cases h2;exact⟨G0.name,G0.args,G0.fm,G0.ok,by show _<(w.eG ++ [_]).length;rw[he1];have:=G0.b;show p.b<_;omega,fun _=>⟨yI.1,yI.2.symm⟩,fun h=>by have h:(w.eG.length:Int)<0:=h;omega,hlk,G0.gk⟩
  ·have G:=I.ea _ _ _ hp h2;exact⟨G.name,G.args,G.fm,G.ok,by show _<(w.eG ++ [_]).length;rw[he1];have:=G.b;omega,G.e,G.z,G.k,G.gk⟩
 ·rcases Iy hx h1 with⟨rfl,rfl⟩|⟨bW,h1⟩
  ·cases h2
  ·obtain⟨o',g',a1,a2,a3,a4⟩:=I.k1 c' x' h1 h2;refine⟨o',g',?_,a2,a3,a4⟩;rw[NH,List.getElem?_map,a1];show some (kn w.eG.length (qn c x.loc) o')=_;congr 1;unfold kn;rw[if_pos ⟨a4.1,a4.2.1⟩,if_neg (by simp[qn]),if_neg];rintro⟨_,h⟩;have h:(c:Int)=o'.client:=h;omega
 ·obtain⟨p,hp,⟨rfl,rfl,rfl⟩|⟨rfl,AB⟩⟩:=hup h1
  ·have h2:(w.eG.length:Int)<0:=h2;omega
  ·obtain⟨c',x',a1,a2,a3,a4⟩:=I.k2 k o' hp h2 h3;refine⟨c',x',a1,?_,a3,a4⟩;show(w.cls.set c _)[c']?=_;rw[Dq,a2];rintro rfl;exact AB ⟨h2,h3,a1⟩
 ·exact apf hk I.gl hbs I.lt I.rt
 ·have:=Om (y:={x with op:=false,fin:=x.fin+1}) hx;have e:=I.cn;simp[ho]at this ⊢;omega
 ·rcases Iy hx h1 with⟨rfl,rfl⟩|⟨bW,h1⟩
  ·have:=hf.fin;rw[ho]at this;exact⟨hf.q,hf.len,by simpa using this⟩
  ·exact I.cf c' x' h1
def sU(x:Cl):Cl:=if x.op=true then {x with op:=false,fin:=x.fin+1}else x
theorem acZ(x:Cl):(sU x).op=false:=by
 unfold sU;split
 ·rfl
 ·simpa using ‹¬x.op=true›
theorem Ug:∀l:List Cl,CV (l.map sU)=CV l
 | []=>rfl
 |x ::l=>by
  have:=Ug l;have h1:=acZ x;unfold CV at *;simp only[ZC,List.sum_cons,this,h1];unfold sU;by_cases h:x.op=true
  ·simp[h]
  ·simp[h]
theorem aj1(I:Inv i w gs wR):Inv i ⟨w.sh,w.eG ++ [IK],w.cls.map sU⟩ gs wR:=by
 have hk:IK.kind≠0:=by simp[IK]
 have NH:=Ze w.eG hk;have he1:(w.eG ++ [IK]).length=w.eG.length+1:=by simp
 have hbs:∀(k:Nat) (o:Op),(aR 0 w.eG)[k]?=some o→o.b<w.eG.length:=fun k o h=>by have hl:=(List.getElem?_eq_some_iff.1 h).1;rw[←I.gl]at hl;exact(I.ea k o _ h (pY hl)).b
 have hup:∀{k:Nat} {o':Op},(aR 0 (w.eG ++ [IK]))[k]?=some o'→∃p,(aR 0 w.eG)[k]?=some p∧o'.name=p.name∧o'.args=p.args∧o'.b=p.b∧o'.e=p.e∧o'.res=p.res∧¬(o'.e<0∧o'.lost<0):=fun {k o'} h=>by
  rw[NH,List.getElem?_map]at h;cases hp:(aR 0 w.eG)[k]? with
  |none=>rw[hp]at h;cases h
  |some p=>
   rw[hp]at h;have h:kn w.eG.length IK p=o':=Option.some.inj h;refine⟨p,rfl,?_⟩;unfold kn at h;split at h
   ·rw[if_pos (show IK.kind=2 from rfl)]at h;subst h;exact⟨rfl,rfl,rfl,rfl,rfl,fun q=>by have:=q.2;simp only at this;omega⟩
   ·rename_i lf;subst h;exact⟨rfl,rfl,rfl,rfl,rfl,lf⟩
 have aCZ:∀(c:Nat) (x:Cl),(w.cls.map sU)[c]?=some x→x.op=false:=fun c x h=>by
  rw[List.getElem?_map]at h;cases hp:w.cls[c]? with
  |none=>rw[hp]at h;cases h
  |some p=>rw[hp]at h;cases h;exact acZ p
 refine⟨I.sh,I.bd,?_,fun c' LU=>?_,?_,fun k o' g' h1 h2=>?_,fun c' x' h1 h2=>?_,fun k o' h1 h2 h3=>?_,I.nd,I.lt,apf hk I.gl hbs I.lt I.rt,I.run,?_,by rw[List.length_map];exact I.cl,fun c' x' h1=>?_⟩
 ·refine Zf I.vd ?_;unfold BS;rw[show zk IK=true from by decide,if_neg (by decide),if_neg (by simp[IK]),if_neg (by simp[IK])]
 ·show 0≤kC (c':Int) (w.eG ++ [IK]).reverse↔∃x,(w.cls.map sU)[c']?=some x∧x.op=true;rw[agO,aij (x:=IK) rfl];exact⟨fun h=>absurd h (by omega),fun⟨z,h1,h2⟩=>by rw[aCZ c' z h1]at h2;cases h2⟩
 ·show gs.length=_;rw[NH,List.length_map];exact I.gl
 ·obtain⟨p,hp,a1,a2,a3,a4,a5,_⟩:=hup h1;have G:=I.ea _ _ _ hp h2;exact⟨a1.trans G.name,a2.trans G.args,G.fm,G.ok,by show _<(w.eG ++ [_]).length;rw[he1,a3];have:=G.b;omega,by rw[a4,a5];exact G.e,by rw[a4,a5];exact G.z,by rw[a5];exact G.k,G.gk⟩
 ·rw[aCZ c' x' h1]at h2;cases h2
 ·obtain⟨p,_,_,_,_,_,_,a6⟩:=hup h1;exact absurd ⟨h2,h3⟩ a6
 ·show gs.length=CV (w.cls.map sU);rw[Ug];exact I.cn
 ·have h1:(w.cls.map sU)[c']?=some x':=h1;rw[List.getElem?_map]at h1;cases hp:w.cls[c']? with
  |none=>rw[hp]at h1;cases h1
  |some p=>
   rw[hp]at h1;cases h1;have hf:=I.cf c' p hp;unfold sU;split
   ·rename_i ho;have:=hf.fin;rw[ho]at this;exact⟨hf.q,hf.len,by simpa using this⟩
   ·exact hf
end Ln
namespace Ln
open Go.Sx Go
theorem ZV{i:Nat}:∀{l:List Op},(∀o∈l,∃c:cd,c.fm=i∧o.name=c.name∧o.args.length=c.ar)→yx i l=0
 | [],_=>rfl
 |o ::l,h=>by obtain⟨c,h1,h2,h3⟩:=h o (by simp);subst h1;show(match y9 c.fm o.name with|none=>(6:Int)|some c'=>if o.args.length=c'.ar then yx c.fm l else 1)=0;rw[h2,RB];simp only;rw[if_pos h3];exact ZV fun x hx=>h x (by simp[hx])
variable{i:Nat}{w:Wd}{gs:List Gh}{wR:List Nat}
theorem Inv.opg(I:Inv i w gs wR){o:Op}(h:o∈aR 0 w.eG):∃k g,(aR 0 w.eG)[k]?=some o∧gs[k]?=some g∧OpG i wR w.eG.length k o g:=by
 obtain⟨k,hk,rfl⟩:=List.getElem_of_mem h;have hl:k<gs.length:=by rw[I.gl];exact hk
 exact⟨k,_,pY hk,pY hl,I.ea k _ _ (pY hk) (pY hl)⟩
theorem Inv.code(I:Inv i w gs wR):sK i w.eG=0:=by unfold sK;rw[if_pos I.vd];refine ZV fun o ho=>?_;obtain⟨k,g,_,_,G⟩:=I.opg ho;exact⟨g.c,G.fm,G.name,by rw[G.args];exact G.ok.1⟩
theorem Inv.aAb{X:Kn}(F:XF X)(I:Inv i w gs wR){k:Nat}(hk:k∈wR){s:St}(hs:AD i s){g:Gh}(hg:gs[k]?=some g)(hc:Ck g.c s=true)(hr:g.r=pz g.c s g.a):(aY X i (aR 0 w.eG)).take k s=some (wP g.c s g.a):=by
 have hl:k<(aR 0 w.eG).length:=by rw[←I.gl];exact I.lt k hk
 have ho:=pY hl;have G:=I.ea _ _ _ ho hg;show X.take (cm i ((aR 0 w.eG).getD k default)) ((aR 0 w.eG).getD k default) s=_;rw[vq hl];generalize (aR 0 w.eG)[k]=o at *;have hm:=G.fm;have e:cm i o=g.c:=by unfold cm;rw[G.name,←hm,RB];rfl
 rw[←hm]at hs;have h1:=F.can g.c s g.a hs G.ok;have h2:=F.hold g.c s g.a o.res hs G.ok hc G.k;have h3:=F.next g.c s g.a o.res hs G.ok hc G.k;rw[e];unfold Kn.take;rw[G.args,h1.1,h1.2,hc,if_neg (by simp),if_neg,if_neg (by rw[h3.1];simp),h3.2];rintro⟨q0,q⟩;have:=(G.e q0).2;rw[h2.1,h2.2,this,hr]at q;simp at q
theorem Inv.runs{X:Kn}(F:XF X)(I:Inv i w gs wR):∀{l:List Nat} {s t:St},(∀k∈l,k∈wR)→AD i s→NN gs l s=some t→adO (aY X i (aR 0 w.eG)).take l s=some t
 | [],s,t,_,_,h=>h
 |k ::l,s,t,hk,hs,h=>by
  unfold NN at h;cases hg:gs[k]? with
  |none=>rw[hg]at h;cases h
  |some g=>
   rw[hg]at h;simp only at h;split at h
   ·rename_i hh;have UB:=hk k (by simp);have ht:=I.aAb F UB hs hg hh.1 hh.2;show((aY X i (aR 0 w.eG)).take k s).bind _=some t;rw[ht];refine I.runs F (fun x hx=>hk x (by simp[hx])) ?_ h;have hl:k<(aR 0 w.eG).length:=by rw[←I.gl];exact I.lt k UB
    have G:=I.ea _ _ _ (pY hl) hg;have hm:=G.fm;rw[←hm]at hs ⊢;exact AD.next hs G.ok hh.1
   ·cases h
theorem Inv.NO{X:Kn}(F:XF X)(I:Inv i w gs wR):Good (aY X i (aR 0 w.eG)) (0,bJ i):=by
 refine aqj (ord:=wR) (s:=w.sh) I.nd (fun k hk=>by rw[←I.gl];exact I.lt k hk) (fun k hk he=>?_) I.rt (I.runs F (fun _ h=>h) (AD.init i) I.run);have hl:k<gs.length:=by rw[I.gl];exact hk
 rw[vq hk]at he;exact((I.ea _ _ _ (pY hk) (pY hl)).e he).1
theorem Inv.can(I:Inv i w gs wR)(hi:i=1∨i=2){c:cd}(hc:c.fm=i):Ck c w.sh=true:=by
 have:=I.alr;cases c<;>simp only[cd.fm]at hc<;>simp only[Ck]
 all_goals first|omega|skip
 have:=(I.bd hc.symm).2;rw[decide_eq_true_eq];omega
end Ln
namespace Ln
open Go.Sx Go
theorem agW(u:U):(eU u).length=4:=rfl
theorem aF8{α:Type}{l a b c:List α}{o n k:Nat}(h:l=a++(b++c))(ha:a.length=o)(hb:b.length=n)(hk:k<n):l[o+k]?=b[k]?:=by subst h ha;rw[List.getElem?_append_right (by omega),show a.length+k-a.length=k by omega,List.getElem?_append_left (by omega)]
theorem aF9{α:Type}{l a b c:List α}{o n k q:Nat}(h:l=a++(b++c))(ha:a.length=o)(hb:b.length=n)(hk:k+q≤n):List.take q (List.drop (o+k) l)=List.take q (List.drop k b):=by subst h ha;rw[zqq,List.drop_eq_nil_of_le (show a.length≤a.length+k by omega),List.nil_append,show a.length+k-a.length=k by omega,List.drop_append_of_le_length (by omega),List.take_append_of_le_length (by rw[List.length_drop];omega)]
theorem Xp(u:U):(eU u).all AV.aM=true:=by simp[eU]
theorem aAP(s:St):∀y∈eS s,KD y:=by
 intro y hy;simp[eS]at hy;rcases hy with rfl|rfl|rfl|rfl
 ·exact c5 _ _
 ·exact c5 _ _
 ·exact jj _ _
 ·exact gx _
theorem Wc(u:U):∀y∈eU u,KD y:=Cu.wU u
theorem Cel.beq{n:Nat}{l:List AV}(h:Cel n l):AV.beq (.agg l) (.agg l)=true:=beq_refl _ (by simp only[AV.lits];exact h.lits)
theorem Cel.ZM{n:Nat}{l:List AV}(h:Cel n l)(k:Nat)(H:T ah):bA (aS k) l H=(l,H):=bF h.wU
def EI(a:List U):AV:=if a=[]then .nils else .sl [I (-1)] 1 1 .any
def vS(c:cd)(a:List U):List AV:=[.str c.name.1 c.name.2,aV a,EI a]
theorem amj(a:List U):KD (EI a):=by
 unfold EI;split
 ·exact qG
 ·exact KE _ _ _
theorem aje(a:List U):AV.lits (EI a)=true:=by unfold EI;split<;>rfl
theorem ajf(a:List U):(EI a).aM=true∧(EI a).cells=[EI a]:=by unfold EI;split<;>exact⟨rfl,rfl⟩
theorem RN(a:List U):AV.lits (aV a)=true:=Cv a
theorem Hg(c:cd)(a:List U):Cel 3 (vS c a):=by
 refine⟨rfl,fun y hy=>?_,fun y hy=>?_,by simp[vS,AV.dU,AV.lits,RN,aje]⟩
 ·simp[vS]at hy;rcases hy with rfl|rfl|rfl
  ·exact jj _ _
  ·exact gx _
  ·exact amj _
 ·simp[vS]at hy;rcases hy with rfl|rfl|rfl
  ·rfl
  ·exact(du a).1
  ·exact(ajf a).1
theorem LJ.shape{c:cd}{a:List U}(h:LJ c a):a=[]∨∃n,a=[⟨0,n⟩]:=by
 have:=ZL c;rcases Nat.eq_zero_or_pos c.ar with h0|h0
 ·exact .inl (h.none h0)
 ·exact .inr (h.one (by omega))
def ajg(c:AV)(m:Nat):Prop:=(c=.nils∧m=0)∨(∃l z f,c=.sl l m z f)∨∃b o z,c=.slice b o m z
theorem ajg.ln{c:AV}{m:Nat}(g:ajg c m){C:bP}{Q:cH}{L:List aC}{tm:T AV}{h2:T ah}{n2 k1 d1:Key}(h1:ag k1 tm=some c) :
  qy C Q (⟨some d1,.lenL (.t k1),none⟩ ::L) tm h2 n2=qy C Q L (aw d1 (some (I m)) tm) h2 n2:=by
 rcases g with⟨rfl,rfl⟩|⟨l,z,f,rfl⟩|⟨b,o,z,rfl⟩
 ·simp[h1]
 ·simp[h1]
 ·simp[h1]
theorem ajg.lnS{c:AV}{m:Nat}(g:ajg c m){C:bP}{Q:cH}{d:SD}{av:List (Nat×Key×ah)}{i:Nat}{L:List aN}{tm:T AV}{h2:T ah}{n2 k1 d1:Key}(h1:ag k1 tm=some c) :
  wpS C Q d (.L i ⟨some d1,.lenL (.t k1),none⟩ ::L) av tm h2 n2=wpS C Q d L av (aw d1 (some (I m)) tm) h2 n2:=by
 rcases g with⟨rfl,rfl⟩|⟨l,z,f,rfl⟩|⟨b,o,z,rfl⟩
 ·simp[h1]
 ·simp[h1]
 ·simp[h1]
theorem _root_.Go.Sx.O7.aAn{z:Nat}{c:AV}{l:List AV}{m:Nat}{h:T ah}{nx:Key}{ob:Option Key}(g:O7 z c l m h nx ob):ajg c m:=by
 rcases g with⟨h1,_,h2,_⟩|⟨b,_,h1,_⟩
 ·exact .inl ⟨h1,h2⟩
 ·exact .inr (.inr ⟨_,_,_,h1⟩)
theorem XW{C:bP}{X:Kn}{Y:BJ}(Q:Zz C X Y)(c:cd):Cel 3 (Y.op c):=by
 have hz:KD (Ku c (Y.par c) 4)∧(Ku c (Y.par c) 4).aM=true∧AV.lits (Ku c (Y.par c) 4)=true:=by
  unfold Ku;split
  ·exact⟨qG,rfl,rfl⟩
  ·have:=ZL c;exact⟨KE _ _ _,rfl,(Q.par c (by omega)).1.lits⟩
 refine⟨rfl,fun y hy=>?_,fun y hy=>?_,by simp[BJ.op,AV.dU,AV.lits,hz.2.2,(Q.act c).lits]⟩
 ·simp[BJ.op]at hy;rcases hy with rfl|rfl|rfl
  ·exact jj _ _
  ·exact hz.1
  ·exact KE _ _ _
 ·simp[BJ.op]at hy;rcases hy with rfl|rfl|rfl
  ·rfl
  ·exact hz.2.1
  ·rfl
theorem Rs{l:List AV}{len sz:Nat}{b:Key}{k:CK}{h:T ah}(hb:ag b h=some (.cells l k))(hl:l.length=len*sz)(hs:∀x∈l,KD x):∃H,aS 9999 (.slice b 0 len sz) h=(.sl l len sz .any,H)∧(∀x,x≠b→ag x H=ag x h)∧∃k',ag b H=some (.cells l k'):=by
 cases k with
 |fix=>exact⟨_,o9 (n:=9998) hb hl hs,fun x hx=>aP _ _ _ _ hx,.ro,by simp⟩
 |part=>exact⟨_,yQ (n:=9998) hb hl hs,fun x hx=>aP _ _ _ _ hx,.rop,by simp⟩
 |ro=>exact⟨_,ame (n:=9998) hb hl hs,fun x hx=>rfl,.ro,hb⟩
 |rop=>exact⟨_,ahm (n:=9998) hb hl hs,fun x hx=>rfl,.rop,hb⟩
theorem ak4(c:cd)(s:St)(a:List U)(h:a.length≤1):(DB c s a).length=(2+a.length)*5:=by
 match a,h with
 | [],_=>rfl
 | [_],_=>rfl
theorem Rt(c:cd)(s:St)(a:List U):∀y∈DB c s a,KD y:=by
 intro y hy;unfold DB at hy;rcases List.mem_append.1 hy with hy|hy
 ·rcases List.mem_append.1 hy with hy|hy
  ·rcases GP.1 hy with rfl|hy
   ·exact jj _ _
   ·exact aAP s y hy
  ·rcases GP.1 hy with rfl|hy
   ·exact jj _ _
   ·exact Wc BM y hy
 ·cases a with
  |nil=>simp[adF]at hy
  |cons u t=>
   rcases GP.1 hy with rfl|hy
   ·exact jj _ _
   ·exact Wc u y hy
theorem WE{α:Type}{z:Nat}{enc:α→List AV}(F:Flat z enc)(l:List α):AV.dU (aq enc l)=true:=by rw[kF];intro y hy;unfold aq at hy;rw[List.mem_flatMap]at hy;obtain⟨x,_,hx⟩:=hy;exact kF.1 (F.lits x) y hx
theorem aAQ{z:Nat}{α:Type}{enc:α→List AV}(F:Flat z enc){c:AV}{us:List α}{len:Nat}{h:T ah}{nx:Key}{ob:Option Key}(g:Gr z c (aq enc us) len h nx ob):AV.beq c c=true:=by
 refine beq_refl _ ?_;rcases g with⟨rfl,_⟩|⟨b,k,_,rfl,_⟩|⟨t,_,rfl,_⟩
 ·rfl
 ·rfl
 ·simp only[AV.lits];exact WE F us
theorem avw{z:Nat}{c:AV}{l:List AV}{len:Nat}{h:T ah}{nx:Key}{ob:Option Key}(g:Gr z c l len h nx ob):c.aM=true∧c.cells=[c]:=by rcases g with⟨e,_⟩|⟨b,k,_,e,_⟩|⟨t,_,e,_⟩<;>rw[e]<;>exact⟨rfl,rfl⟩
def FR(x:cd×List U):List AV:=vS x.1 x.2
theorem DH:Flat 3 FR where
 len _:=rfl
 wU x:=(Hg x.1 x.2).wU
 cell x:=(Hg x.1 x.2).cell
 lits x:=(Hg x.1 x.2).lits
theorem RH{z:Nat}{α:Type}{enc:α→List AV}(F:Flat z enc){c:AV}{us:List α}{h:T ah}{nx:Key}{ob:Option Key}(g:Gr z c (aq enc us) us.length h nx ob)(n:Nat):∃c' H,aS (n+1) c h=(c',H)∧nW z enc c' us∧∀b:Key,ob≠some b→ag b H=ag b h:=by
 rcases g with⟨rfl,e1,e2,_⟩|⟨b,k,rfl,rfl,hb,_,hl,hk⟩|⟨t,rfl,rfl,_⟩
 ·exact⟨_,_,rfl,.inl ⟨rfl,zqr e2⟩,fun _ _=>rfl⟩
 ·rcases hk with rfl|rfl
  ·exact⟨_,_,yQ hb hl (F.FM us),.inr rfl,fun x hx=>aP _ _ _ _ (fun e=>hx (by rw[e]))⟩
  ·exact⟨_,_,o9 hb hl (F.FM us),.inr rfl,fun x hx=>aP _ _ _ _ (fun e=>hx (by rw[e]))⟩
 ·exact⟨_,_,rfl,.inr rfl,fun _ _=>rfl⟩
theorem amk{α:Type}{z:Nat}{enc:α→List AV}{c:AV}{l:List α}(h:nW z enc c l):ajg c l.length:=by
 rcases h with⟨rfl,rfl⟩|rfl
 ·exact .inl ⟨rfl,rfl⟩
 ·exact .inr (.inl ⟨_,_,_,rfl⟩)
theorem aqM{α:Type}{z:Nat}{enc:α→List AV}{c:AV}{l:List α}(h:nW z enc c l):c.aM=true∧c.cells=[c]:=by rcases h with⟨rfl,_⟩|rfl<;>exact⟨rfl,rfl⟩
def qA(n:Int):Prop:=-9223372036854775808≤n∧n<9223372036854775808
def MH(n:Int)(m:Nat):Nat:=(if n<0 then -(n+1)else n).toNat%m
theorem Hv{m:Nat}(h:0<m)(n:Int):MH n m<m:=Nat.mod_lt _ h
def nmI(n:Int):Nat:=MH n 3
variable{C:bP}{X:Kn}(S:Std C X)
include S
theorem uk{n:Int}(hn:qA n){m:Nat}(hm:0<m)(MI:m≤1000000){h:T ah}{nx:Key}:aJ C bI [I n,I m] h nx (fun o h' nx'=>o=.ret (I (MH n m))∧h'=h∧nx'=nx):=by
 obtain⟨h1,h2⟩:=hn;have NY:((m:Int)==0)=false:=bq (by omega);refine S.HB.call ?_;simp[D0];simp[Fb];have fin:∀(tm2:T AV) (k:Nat),(k:Int)<9223372036854775808→MH n m=k%m→ag (K 0) tm2=some (I k)→ag (K 1) tm2=some (I m)→iT C (.seq (.ops xd) .ret) (fQ [.tmp (K 4)] fun o h' nx'=>o=.ret (I (MH n m))∧h'=h∧nx'=nx) tm2 h nx:=by intro tm2 k hk e q0 q1;have cQ:k%m<m:=Nat.mod_lt _ hm;have ht:Int.tmod (k:Int) (m:Int)=((k%m:Nat):Int):=rfl;have hw:bD .i64 ((k%m:Nat):Int)=((k%m:Nat):Int):=aO (by omega) (by omega);rw[e];simp;simp[-Int.natCast_emod,xd,q0,q1,NY,ht,hw];exact Int.natCast_emod k m
 simp only[dO,fo]at fin;by_cases cQ:n<0
 ·obtain⟨k,hk⟩:=Int.eq_ofNat_of_zero_le (a:=-(n+1)) (by omega);have e:MH n m=k%m:=by unfold MH;rw[if_pos cQ,hk];rfl
  have w1:bD .i64 (n+1)=n+1:=aO (by omega) (by omega);have w2:bD .i64 (-(n+1))=k:=by rw[aO (by omega) (by omega),hk]
  simp[xe,cQ];simp[Fc,w1,w2];refine fin _ k (by omega) e ?_ ?_<;>simp
 ·obtain⟨k,hk⟩:=Int.eq_ofNat_of_zero_le (a:=n) (by omega);have e:MH n m=k%m:=by unfold MH;rw[if_neg cQ,hk];rfl
  simp[xe,cQ];refine fin _ k (by omega) e ?_ ?_
  ·simp[hk]
  ·simp
theorem ajG{h:T ah}{nx:Key}:aJ C mu [] h nx (fun o h' nx'=>o=.ret (.sl [fT 0,fT 1,fT 2] 3 1 .any)∧Ext h nx h' nx'):=by have s1:=kTSu nx;refine S.HC.call ?_;simp[D9];simp[Fe];have fz:=fun(H:T ah) (hg:ag nx H=some (ah.cells [fT 0,fT 1,fT 2] CK.fix))=>o9 (n:=9998) (len:=3) (sz:=1) hg rfl (by intro x hx;simp at hx;rcases hx with rfl|rfl|rfl<;>exact jj _ _);simp[NU]at fz;simp[Ff,fz,NU];exact E0 _ _ _
theorem XV{n:Int}(hn:qA n){h:T ah}{nx:Key}:aJ C iK [I n] h nx (fun o h' nx'=>o=.ret (fT (nmI n))∧Ext h nx h' nx'):=by
 have rM:=S.r mu;have rA:=S.r bI;refine S.MJ.call ?_;simp[KX];simp[JH];simp[JI,rM];refine(ajG S).mono ?_;rintro o h1 bw ⟨rfl,e1⟩;simp[rA];refine(uk S hn (m:=3) (by omega) (by omega)).mono ?_;rintro o h2 bu ⟨rfl,rfl,rfl⟩;have cQ:=Hv (m:=3) (by omega) n;have hi:nmI n=MH n 3:=rfl;rw[hi];generalize MH n 3=k at *;have hk:k=0∨k=1∨k=2:=by omega
 rcases hk with rfl|rfl|rfl<;>simp<;>exact e1
theorem NZ{h:T ah}{nx:Key}:aJ C fV [] h nx (fun o h' nx'=>o=.ret iW∧Ext h nx h' nx'):=by refine S.HD.call ?_;simp[Ea];simp[Fg];simp[Fh,iW];exact E0 _ _ _
end Ln
namespace Ln
open Go.Sx Go
theorem _root_.Go.Sx.nW.full{z:Nat}{α:Type}{enc:α→List AV}{c:AV}{l:List α}(h:nW z enc c l){i:Nat}(hi:i<l.length):c=.sl (aq enc l) l.length z .any:=by
 rcases h with⟨_,e⟩|e
 ·rw[e]at hi;simp at hi
 ·exact e
variable{C:bP}{X:Kn}(S:Std C X)
include S
end Ln
namespace Ln
open Go.Sx Go
theorem am9{k:Int}(h:qA k):qA (Int.tdiv k 3)∧bD .i64 (Int.tdiv k 3)=Int.tdiv k 3:=by
 obtain⟨h1,h2⟩:=h;have:qA (Int.tdiv k 3):=by
  unfold qA;rcases Int.lt_or_le k 0 with hk|hk
  ·have e:Int.tdiv k 3=-((-k) / 3):=by have:=Int.neg_tdiv k 3;rw[Int.tdiv_eq_ediv_of_nonneg (by omega)]at this;omega
   rw[e];omega
  ·rw[Int.tdiv_eq_ediv_of_nonneg hk];omega
 exact⟨this,aO this.1 this.2⟩
def On:Nat→Nat→cd
 |0,1=>.get|0,_=>.put
 |1,0=>.inc|1,1=>.readC|1,_=>.add
 |_,1=>.readR|_,_=>.write
def Tu(c:cd)(k:Int):List U:=if c.ar=1 then [⟨0,MH (Int.tdiv k 3) 3⟩]else []
def ym(i:Nat)(k:Int):cd×List U:=(On i (MH k 3),Tu (On i (MH k 3)) k)
theorem ana{i r:Nat}(hi:i<3)(hr:r<3):(On i r).fm=i:=by
 have:i=0∨i=1∨i=2:=by omega
 have:r=0∨r=1∨r=2:=by omega
 rcases ‹i=0∨_› with rfl|rfl|rfl<;>rcases ‹r=0∨_› with rfl|rfl|rfl<;>rfl
theorem arv(c:cd)(k:Int):LJ c (Tu c k):=by
 unfold Tu;split
 ·exact⟨by simp[*],by simp⟩
 ·exact⟨by have:=ZL c;simp;omega,by simp⟩
theorem abb{i:Nat}(hi:i<3)(k:Int):(ym i k).1.fm=i∧LJ (ym i k).1 (ym i k).2:=⟨ana hi (Hv (by omega) k),arv _ _⟩
theorem anb{c:cd}{y m1 m2:Nat}(hc:c.name=(m1,m2)){h0 H:T ah}{n0 n2:Key}(hn:n0.toNat≤n2.toNat)(g1:ag n2 H=QZ [I 0,I y,.str 0 0,.nils])(g2:ag n2.succ H=QZ [I (-1)])(e:Ext h0 n0 H n2.succ.succ) :
  [AV.str m1 m2,(aS 9998 (.slice n2 0 1 4) H).1,(aS 9998 (.slice n2.succ 0 1 1) (aS 9998 (.slice n2 0 1 4) H).2).1]=FR (c,[⟨0,(y:Int)⟩])∧Ext h0 n0 (aS 9998 (.slice n2.succ 0 1 1) (aS 9998 (.slice n2 0 1 4) H).2).2 n2.succ.succ:=by
 have s1:=kTSu n2;have nn:n2.succ≠n2:=fun q=>by have:=congrArg Key.toNat q;omega
 have z1:=o9 (n:=9997) (len:=1) (sz:=4) g1 rfl (Wc ⟨0,y⟩);have z2:=o9 (n:=9997) (len:=1) (sz:=1) (H:=aw n2 (some (.cells [I 0,I y,.str 0 0,.nils] .ro)) H) (by rw[aP _ _ _ _ nn];exact g2) rfl (by intro x hx;simp at hx;subst hx;exact c5 _ _);rw[z1];simp only;rw[z2];refine⟨?_,(e.put hn).put (by omega)⟩;show _=[AV.str c.name.1 c.name.2,_,_];rw[hc];rfl
variable{C:bP}{X:Kn}{Y:BJ}(S:Std C X)(J:Sqf C)
include S J
theorem ajv{n:Int}(hn:qA n){h:T ah}{nx:Key}:aJ C ml [I n] h nx (fun o h' nx'=>o=.ret (aw8 (nmI n))∧Ext h nx h' nx'):=by
 have rA:=S.r bI;have s1:=kTSu nx;refine J.Hs.call ?_;simp[DQ];simp[E9];simp[Fa,rA];refine(uk S hn (m:=3) (by omega) (by omega)).mono ?_;rintro o h2 bu ⟨rfl,rfl,rfl⟩;have cQ:=Hv (m:=3) (by omega) n;have hi:nmI n=MH n 3:=rfl;rw[hi];generalize MH n 3=k at *;have hk:k=0∨k=1∨k=2:=by omega
 rcases hk with rfl|rfl|rfl<;>simp[anc]<;>exact E0 _ _ _
theorem ajF{k:Int}(hk:qA k)(c:cd){tm:T AV}{h0 h:T ah}{n0 nx p4 p6:Key}(g1:ag (K 1) tm=some (I k))(g4:ag (K 4) tm=some (.ptr p4 0))(g6:ag (K 6) tm=some (.ptr p6 0))(b4:ag p4 h=QZ [.str 0 0,.nils,.nils])(b6:ag p6 h=QZ [.str c.name.1 c.name.2,.nils,.nils])(l4:n0.toNat≤p4.toNat)(l46:p4.toNat<p6.toNat)(l6:p6.toNat<nx.toNat)(e:Ext h0 n0 h nx) :
  iT C (.seq (.seq (.ops oh) (.cond (.t (K 32)) (.seq (.ops u5) (.ops u6)) .skip)) (.seq (.ops mr) .ret)) (fQ [.cell (K 4) true 3] fun o h' nx'=>o=.ret (.agg (FR (c,Tu c k)))∧Ext h0 n0 h' nx') tm h nx:=by
 have rA:=S.r bI;have s1:=kTSu nx;have s2:=kTSu nx.succ;have en:=e.n;obtain⟨hk3,hw3⟩:=am9 hk;have h46:p4≠p6:=by rintro rfl;omega
 have no:c.ar=0→(decide (c.name=(3,7632240))=false):=by cases c<;>decide
 by_cases ha:c.ar=1
 ·have har:Tu c k=[⟨0,MH (Int.tdiv k 3) 3⟩]:=by unfold Tu;rw[if_pos ha]
  rw[har];have q:c=.put∨c=.add∨c=.write:=by cases c<;>simp_all [cd.ar]
  rcases q with rfl|rfl|rfl
  all_goals
   simp[cd.name]at b6;simp[oh,g6,b6];simp[u5,g1,hw3,rA];refine(uk S hk3 (m:=3) (by omega) (by omega)).mono ?_;rintro o h2 bu ⟨rfl,rfl,rfl⟩;generalize MH (Int.tdiv k 3) 3=y at *;have p6n:p6≠bu:=by rintro rfl;omega
   have p4n:p4≠bu:=by rintro rfl;omega
   have p6m:p6≠bu.succ:=by rintro rfl;omega
   have p4m:p4≠bu.succ:=by rintro rfl;omega
   have nn:bu≠bu.succ:=fun q=>by have:=congrArg Key.toNat q;omega
   simp[g6,aP _ _ _ _ p6n,b6];simp[u6,g6,aP _ _ _ _ p6n,aP _ _ _ _ p6m,b6];simp[mr,g4,g6,aP _ _ _ _ p4n,aP _ _ _ _ p4m,aP _ _ _ _ h46,b4];refine anb ?_ (by omega) ?_ ?_ ?_
   ·rfl
   ·rw[aP _ _ _ _ (Ne.symm p4n),aP _ _ _ _ (Ne.symm p6n),aP _ _ _ _ nn,aP _ _ _ _ (Ne.symm p6n),gTSm]
   ·rw[aP _ _ _ _ (Ne.symm p4m),aP _ _ _ _ (Ne.symm p6m),gTSm]
   ·exact(((((e.trans (E0 _ bu _)).put (by omega)).up (by omega)).put (by omega)).put (by omega)).put (by omega)
 ·have har:Tu c k=[]:=by unfold Tu;rw[if_neg ha]
  rw[har];have q:c=.get∨c=.inc∨c=.readC∨c=.readR:=by cases c<;>simp_all [cd.ar]
  rcases q with rfl|rfl|rfl|rfl
  all_goals
   simp[cd.name]at b6;simp[oh,g6,b6];simp[mr,g4,g6,b4,b6];exact⟨rfl,e.put (by omega)⟩
theorem arw{i:Nat}(hi:i<3){k:Int}(hk:qA k){h:T ah}{nx:Key}:aJ C qX [fT i,I k] h nx (fun o h' nx'=>o=.ret (.agg (FR (ym i k)))∧Ext h nx h' nx'):=by
 have rA:=S.r bI;have s1:=kTSu nx;have s2:=kTSu nx.succ;have s3:=kTSu nx.succ.succ;have s4:=kTSu nx.succ.succ.succ;have tail:∀(tm:T AV) (h2:T ah) (bu br:Key),ag (K 1) tm=some (I k)→ag (K 4) tm=some (.ptr nx 0)→ag (K 5) tm=some (.slice br 0 3 1)→ag br h2=QZ [.str (On i 0).name.1 (On i 0).name.2,.str (On i 1).name.1 (On i 1).name.2,.str (On i 2).name.1 (On i 2).name.2]→ag nx h2=QZ [.str 0 0,.nils,.nils]→nx.toNat<bu.toNat→br.toNat<bu.toNat→Ext h nx h2 bu→
   qy C (aW (iT C (.seq (.seq (.ops oh) (.cond (.t (K 32)) (.seq (.ops u5) (.ops u6)) .skip)) (.seq (.ops mr) .ret)) (fQ [.cell (K 4) true 3] fun o h' nx'=>o=.ret (.agg (FR (ym i k)))∧Ext h nx h' nx')) (fQ [.cell (K 4) true 3] fun o h' nx'=>o=.ret (.agg (FR (ym i k)))∧Ext h nx h' nx')) BX tm h2 bu:=by
  intro tm h2 bu br g1 g4 g5 hbr b4 l4 lbr e2;have t1:=kTSu bu;simp only[BX,sM,xK,xL,sN,xM,sO,xN,xO,sP,sQ,xP,xQ,xR,xS];simp[g1,g5,rA];refine(uk S hk (m:=3) (by omega) (by omega)).mono ?_;rintro o h3 dZ ⟨rfl,rfl,rfl⟩;have cQ:=Hv (m:=3) (by omega) k;have hcK:ym i k=(On i (MH k 3),Tu (On i (MH k 3)) k):=rfl;rw[hcK];generalize MH k 3=r at *;have hr:r=0∨r=1∨r=2:=by omega
  rcases hr with rfl|rfl|rfl
  all_goals
   simp[g5,hbr];refine ajF S J hk _ (p4:=nx) (p6:=dZ) ?_ ?_ ?_ ?_ ?_ (fE _) l4 (by omega) (e2.trans (E0 _ dZ _))
   ·simp[g1]
   ·simp[g4]
   ·simp
   ·rw[aA l4];exact b4
   ·simp
 have e1:=(E0 h nx (.cells [AV.str 0 0,AV.nils,AV.nils] .fix)).trans (E0 _ nx.succ (.cells [AV.str 3 7632240,AV.str 3 7628135,AV.str 3 7632240] .fix));have b1:ag nx (aw nx.succ (QZ [AV.str 3 7632240,AV.str 3 7628135,AV.str 3 7632240]) (aw nx (QZ [AV.str 0 0,AV.nils,AV.nils]) h))=QZ [AV.str 0 0,AV.nils,AV.nils]:=by rw[aA (by omega)];simp
 have c1:ag nx.succ (aw nx.succ (QZ [AV.str 3 7632240,AV.str 3 7628135,AV.str 3 7632240]) (aw nx (QZ [AV.str 0 0,AV.nils,AV.nils]) h))=QZ [AV.str 3 7632240,AV.str 3 7628135,AV.str 3 7632240]:=by simp
 refine J.MC.call ?_;simp[KP];simp[JD];simp[JE];generalize aw nx.succ (QZ [AV.str 3 7632240,AV.str 3 7628135,AV.str 3 7632240]) (aw nx (QZ [AV.str 0 0,AV.nils,AV.nils]) h)=h1 at *;have hi3:i=0∨i=1∨i=2:=by omega
 rcases hi3 with rfl|rfl|rfl
 ·simp[u7,NU];simp[u9,NU];refine tail _ _ _ nx.succ ?_ ?_ ?_ c1 b1 (by omega) (by omega) e1<;>simp
 ·simp[u7,NU];simp[JF];simp[u9,NU];refine tail _ _ _ nx.succ.succ ?_ ?_ ?_ ?_ ?_ (by omega) (by omega) (e1.trans (E0 _ _ _))
  ·simp
  ·simp
  ·simp
  ·simp[On,cd.name]
  ·rw[aA (by omega)];exact b1
 ·simp[u7,NU];simp[u9,NU];simp[JG];refine tail _ _ _ nx.succ.succ ?_ ?_ ?_ ?_ ?_ (by omega) (by omega) (e1.trans (E0 _ _ _))
  ·simp
  ·simp
  ·simp
  ·simp[On,cd.name]
  ·rw[aA (by omega)];exact b1
end Ln
namespace Ln
open Go.Sx Go
def eCl(k:AV)(x:Cl):List AV:=[k,I x.fin,.bool x.op,I x.dn,I x.loc.k,I x.loc.n,.str 0 0,.nils]
def vh(Y:BJ)(q:cd×List U):List AV:=Y.op q.1 ++ [aV q.2]
def Cm(Y:BJ)(l:List (cd×List U)):AV:=.sl (aq (vh Y) l) l.length 4 .any
def BL(Y:BJ):List Cl→List AV
 | []=>[]
 |x ::l=>eCl (Cm Y x.calls) x++BL Y l
def uW(Y:BJ)(i k:Nat):AV:=(Y.sys i).getD k .nils
def aea(Y:BJ)(i:Nat):List AV:=[uW Y i 38,uW Y i 39,uW Y i 40,uW Y i 41,uW Y i 42,uW Y i 43,uW Y i 44]
def vl(X:Kn)(Y:BJ)(i:Nat)(n:Int)(cE cC:AV):List AV:=[.sl X.rows 7 45 .any,uW Y i 38,uW Y i 39,uW Y i 40,uW Y i 41,uW Y i 42,uW Y i 43,uW Y i 44,I 200,I 50,I 0,I 0,I 0,I n,.str 0 0,.nils,cE,cC]
section
variable{C:bP}{X:Kn}{Y:BJ}(A:Zz C X Y)
include A
theorem tS:Flat 4 (vh Y) where
 len _:=rfl
 wU q y hy:=by
  unfold vh at hy;rcases List.mem_append.1 hy with hy|hy
  ·exact(XW A q.1).wU y hy
  ·simp at hy;subst hy;exact gx _
 cell q y hy:=by
  unfold vh at hy;rcases List.mem_append.1 hy with hy|hy
  ·exact(XW A q.1).cell y hy
  ·simp at hy;subst hy;exact(du _).1
 lits q:=by
  rw[kF];intro y hy;unfold vh at hy;rcases List.mem_append.1 hy with hy|hy
  ·exact kF.1 (XW A q.1).lits y hy
  ·simp at hy;subst hy;exact RN _
theorem ahf{i:Nat}(h1:1≤i)(h3:i<3){k:Nat}(hk:k<45):uW Y i k∈Y.sys i:=by have hl:=(A.sys i h1 h3).len;unfold uW;rw[List.getD_eq_getElem?_getD,pY (by omega)];exact LA _
theorem aqG{i:Nat}(h1:1≤i)(h3:i<3){k:Nat}(hk:k<45):KD (uW Y i k):=(A.sys i h1 h3).wU _ (ahf A h1 h3 hk)
theorem GA{i:Nat}(h1:1≤i)(h3:i<3){k:Nat}(hk:k<45):(uW Y i k).aM=true:=(A.sys i h1 h3).cell _ (ahf A h1 h3 hk)
theorem ahg{i:Nat}(h1:1≤i)(h3:i<3):(Y.sys i).drop 38=aea Y i:=by
 have hl:=(A.sys i h1 h3).len;apply List.ext_getElem?;intro j;rw[List.getElem?_drop];by_cases hj:j<7
 ·have:j=0∨j=1∨j=2∨j=3∨j=4∨j=5∨j=6:=by omega
  rcases this with rfl|rfl|rfl|rfl|rfl|rfl|rfl
  all_goals
   simp only[aea,uW];rw[pY (by omega)];simp[pY,hl]
 ·rw[zqo (by omega),zqo (by simp[aea];omega)]
theorem alS{i:Nat}(h1:1≤i)(h3:i<3):Qj 38 (Y.sys i)=.agg (aea Y i):=by unfold Qj;rw[ahg A h1 h3];rfl
end
theorem AD.num{i:Nat}{s:St}(h:AD i s)(h1:1≤i):s.k=0∧s.kids=[]:=by unfold AD at h;rw[if_neg (by omega)]at h;exact h
theorem AD.eS{i:Nat}{s:St}(h:AD i s)(h1:1≤i):eS s=[I 0,I s.n,.str 0 0,.nils]:=by obtain⟨a,b⟩:=h.num h1;obtain⟨k,n,l⟩:=s;simp only at a b;subst a;subst b;rfl
structure Et(X:Kn)(Y:BJ)(i:Nat)(b bc:Key)(w:Wd)(h0:T ah)(n0:Key)(h:T ah)(nx:Key):Prop where
 sh:AD i w.sh
 ev:∃cE oE,ag b h=QZ (vl X Y i w.sh.n cE (.slice bc 0 3 8))∧O7 8 cE (aq eE w.eG) w.eG.length h nx oE∧∀x,oE=some x→n0.toNat≤x.toNat∧x≠b∧x≠bc
 c3:w.cls.length=3
 cb:ag bc h=some (.cells (BL Y w.cls) .part)
 nb:n0.toNat≤b.toNat∧b.toNat<nx.toNat
 nc:n0.toNat≤bc.toNat∧bc.toNat<nx.toNat
 ne:b≠bc
 ex:Ext h0 n0 h nx
section
variable{X:Kn}{Y:BJ}{i:Nat}{b bc:Key}{w:Wd}{h0 h h':T ah}{n0 nx nx':Key}
theorem Et.lt3(W:Et X Y i b bc w h0 n0 h nx){j:Nat}{x:Cl}(hx:w.cls[j]?=some x):j<3:=by have:=(List.getElem?_eq_some_iff.1 hx).1;rw[W.c3]at this;exact this
theorem Et.ext(W:Et X Y i b bc w h0 n0 h nx)(e:Ext h nx h' nx'):Et X Y i b bc w h0 n0 h' nx':=by have hn:=e.n;obtain⟨cE,oE,e1,e2,e3⟩:=W.ev;refine⟨W.sh,⟨cE,oE,(e.g b W.nb.2).trans e1,e2.cv hn fun x hx=>e.g x (e2.lt x hx),e3⟩,W.c3,(e.g bc W.nc.2).trans W.cb,⟨W.nb.1,by have:=W.nb.2;omega⟩,⟨W.nc.1,by have:=W.nc.2;omega⟩,W.ne,W.ex.trans e⟩
end
end Ln
namespace Ln
open Go.Sx Go Go.Proofs
def okL(n:Nat)(l:List AV):Bool:=Nat.beq l.length n&&l.all Z2&&AV.dU l
theorem Rg{n:Nat}{l:List AV}(h:okL n l=true):Cel n l:=by unfold okL at h;rw[jq,jq,sF]at h;exact⟨o5 h.1.1,fun y hy=>(Ih (h.1.2 y hy)).1,fun y hy=>(Ih (h.1.2 y hy)).2,h.2⟩
theorem apj:okL 45 (JS 1)=true:=by kernel_rfl
theorem apk:okL 45 (JS 2)=true:=by kernel_rfl
theorem asZ(c:cd):okL 14 (Y0.act c)=true:=by cases c<;>kernel_rfl
def ayk(n:Nat):Option AV→Bool
 |some (.str a b)=>Nat.beq a 1&&Nat.beq b n
 |_=>false
theorem as0{n:Nat}{o:Option AV}(h:ayk n o=true):o=some (.str 1 n):=by
 unfold ayk at h;split at h
 ·rw[jq]at h;rw[o5 h.1,o5 h.2]
 ·cases h
theorem au1{c:cd}(h:c.ar=1):okL 4 (Y0.par c)=true∧ayk (nmC c) (Y0.par c)[0]?=true:=by cases c<;>first|exact absurd h (by decide)|exact⟨by kernel_rfl,by kernel_rfl⟩
theorem apl{F:Im}(hm:F∈gw)(hf:Nat.beq F.f 63=false)(q:F.Q)(h:T ah)(nx:Key):CS.sum F.f (F.args q) h nx=some (F.res q,h,nx):=(ef hf _ h nx).trans (bK hm ed q h nx)
theorem aky{t:TgA}(ht:Yu t=true)(n v:Int)(h:T ah)(nx:Key):CS.sum fi [vM,eEx t n v,exA t,iW,zN] h nx=some (rEx t n v,h,nx):=apl (F:=anr) (by simp[gw]) (by decide) (⟨t,n,v,ht⟩:QA) h nx
theorem apm{c:cd}{a:List U}(ha:LJ c a):∃v,a=arV c v∧a.length=c.ar:=by
 refine(?_:∃v,a=arV c v).imp fun v e=>⟨e,ha.1⟩;have:=ZL c;rcases Nat.eq_zero_or_pos c.ar with h0|h0
 ·exact⟨0,by rw[ha.none h0];unfold arV;rw[h0];rfl⟩
 ·have h1:c.ar=1:=by omega
  obtain⟨n,e⟩:=ha.one h1;exact⟨n,by rw[e];unfold arV;rw[h1];rfl⟩
theorem agR{i:Nat}{s:St}(h:AD i s)(h1:1≤i):∃n,s=⟨0,n,[]⟩:=by obtain⟨a,b⟩:=h.num h1;obtain⟨k,n,l⟩:=s;simp only at a b;subst a;subst b;exact⟨n,rfl⟩
theorem i12{i:Nat}(h1:1≤i)(h3:i<3):i=1∨i=2:=by omega
theorem aJP:Zz CS K0 Y0 where
 f:=aCQ
 avI:=avr
 sys i h1 h3:=by
  rcases i12 h1 h3 with rfl|rfl
  ·exact Rg apj
  ·exact Rg apk
 par _ h:=⟨Rg (au1 h).1,as0 (au1 h).2⟩
 act c:=Rg (asZ c)
 aBD h nx:=apl (F:=ant) (by simp[gw]) (by decide) () h nx
 auw i h1 h3 h nx:=by
  rcases i12 h1 h3 with rfl|rfl
  ·exact apl (F:=ahJ) (by simp[gw]) (by decide) (⟨true⟩:QSy) h nx
  ·exact apl (F:=ahJ) (by simp[gw]) (by decide) (⟨false⟩:QSy) h nx
 aCD c hc h nx:=apl (F:=anw) (by simp[gw]) (by decide) (⟨c,hc⟩:QOp) h nx
 anl i h1 h3:=by
  rcases i12 h1 h3 with rfl|rfl
  ·exact⟨_,_,_,fun h nx=>aky (t:=.e1) rfl 0 0 h nx⟩
  ·exact⟨_,_,_,fun h nx=>aky (t:=.e2) rfl 0 0 h nx⟩
 atw i h1 h3 s hs:=by
  obtain⟨n,rfl⟩:=agR hs h1;rcases i12 h1 h3 with rfl|rfl
  ·exact⟨_,_,_,fun h nx=>aky (t:=.r1) rfl n 0 h nx⟩
  ·exact⟨_,_,_,fun h nx=>aky (t:=.r2) rfl n 0 h nx⟩
 atd c s a hc hs ha:=by obtain⟨n,rfl⟩:=agR hs hc;obtain⟨v,e,hl⟩:=apm ha;rw[hl,e];exact⟨_,_,_,fun h nx=>aky (t:=.s c) (by simpa[Yu]using hc) n v h nx⟩
 ate c s a hc hs ha:=by obtain⟨n,rfl⟩:=agR hs hc;obtain⟨v,e,hl⟩:=apm ha;rw[hl,e];exact⟨_,_,_,fun h nx=>aky (t:=.l c) (by simpa[Yu]using hc) n v h nx⟩
end Ln
namespace Ln
open Go.Sx Go
variable{Y:BJ}
theorem agK:∀(cls:List Cl) (c:Nat) (x:Cl),cls[c]?=some x→∃P B,P.length=c*8∧BL Y cls=P++(eCl (Cm Y x.calls) x++B)∧∀y:Cl,BL Y (cls.set c y)=P++(eCl (Cm Y y.calls) y++B)
 | [],c,x,h=>by simp at h
 |z ::l,0,x,h=>by simp at h;subst h;exact⟨[],BL Y l,rfl,rfl,fun y=>rfl⟩
 |z ::l,c+1,x,h=>by
  obtain⟨P,B,h1,h2,h3⟩:=agK l c x (by simpa using h);refine⟨eCl (Cm Y z.calls) z++P,B,?_,?_,fun y=>?_⟩
  ·rw[DG,h1];simp[eCl];omega
  ·simp only[BL];rw[h2,List.append_assoc]
  ·simp only[BL,List.set_cons_succ];rw[h3,List.append_assoc]
theorem mE:∀(cls:List Cl),(BL Y cls).length=cls.length*8
 | []=>rfl
 |x ::l=>by simp only[BL,DG,mE l,ZW];simp[eCl];omega
theorem aid:∀(l m:List Cl),BL Y (l++m)=BL Y l++BL Y m
 | [],m=>rfl
 |x ::l,m=>by simp only[List.cons_append,BL,aid l,List.append_assoc]
structure ClA(Y:BJ)(cls:List Cl)(c:Nat)(x:Cl):Prop where
 r0:(BL Y cls)[c*8]?=some (Cm Y x.calls)
 r1:(BL Y cls)[c*8+1]?=some (I x.fin)
 r2:(BL Y cls)[c*8+2]?=some (.bool x.op)
 r3:(BL Y cls)[c*8+3]?=some (I x.dn)
 r4:List.take 4 (List.drop (c*8+4) (BL Y cls))=eU x.loc
 w1:∀f:Nat,List.take (c*8+1) (BL Y cls)++I f ::List.drop (c*8+1+1) (BL Y cls)=BL Y (cls.set c {x with fin:=f})
 w2:∀o:Bool,List.take (c*8+2) (BL Y cls) ++ .bool o ::List.drop (c*8+2+1) (BL Y cls)=BL Y (cls.set c {x with op:=o})
 w3:∀d:Nat,List.take (c*8+3) (BL Y cls)++I d ::List.drop (c*8+3+1) (BL Y cls)=BL Y (cls.set c {x with dn:=d})
 w4:∀u:U,List.take (c*8+4) (BL Y cls)++I u.k ::I u.n ::.str 0 0 ::.nils ::List.drop (c*8+4+4) (BL Y cls)=BL Y (cls.set c {x with loc:=u})
theorem clA{cls:List Cl}{c:Nat}{x:Cl}(h:cls[c]?=some x):ClA Y cls c x:=by
 obtain⟨P,B,h1,h2,h3⟩:=agK (Y:=Y) cls c x h;have hR:∀t,t<8→(BL Y cls)[c*8+t]?=(eCl (Cm Y x.calls) x)[t]?:=fun t ht=>aF8 h2 h1 (n:=8) rfl ht;have hw:∀(t m:Nat) (v:List AV),t+m≤8→v.length=m→List.take (c*8+t) (BL Y cls)++(v++List.drop (c*8+t+m) (BL Y cls))=P++((List.take t (eCl (Cm Y x.calls) x)++(v++List.drop (t+m) (eCl (Cm Y x.calls) x)))++B):=fun t m v ht hv=>by rw[h2,←h1,zqw,zqq];rw[Lm (show P.length≤P.length+t by omega),show P.length+t-P.length=t by omega,List.drop_eq_nil_of_le (show P.length≤P.length+t+m by omega),show P.length+t+m-P.length=t+m by omega];rw[List.take_append_of_le_length (by simp[eCl];omega),List.drop_append_of_le_length (by simp[eCl];omega)];simp only[List.nil_append,List.append_assoc]
 refine⟨hR 0 (by decide),hR 1 (by decide),hR 2 (by decide),hR 3 (by decide),?_,fun f=>?_,fun o=>?_,fun d=>?_,fun u=>?_⟩
 ·rw[aF9 (k:=4) (q:=4) h2 h1 (n:=8) rfl (by decide)];rfl
 ·rw[h3];exact hw 1 1 [I f] (by decide) rfl
 ·rw[h3];exact hw 2 1 [.bool o] (by decide) rfl
 ·rw[h3];exact hw 3 1 [I d] (by decide) rfl
 ·rw[h3];exact hw 4 4 (eU u) (by decide) rfl
end Ln
namespace Ln
open Go.Sx Go
variable{C:bP}{X:Kn}{Y:BJ}(S:Std C X)(A:Zz C X Y)(J:Sqf C)
section
variable{i:Nat}{b bc:Key}{w:Wd}{h0 h:T ah}{n0 nx:Key}
include J
theorem O3(W:Et X Y i b bc w h0 n0 h nx){c:Nat}{x:Cl}(hx:w.cls[c]?=some x):aJ C df [.ptr bc (c*8)] h nx (fun o h' nx'=>o=.ret (.bool (decide (x.fin<x.calls.length)))∧h'=h∧nx'=nx):=by have q:=clA (Y:=Y) hx;have hl:=mE (Y:=Y) w.cls;have hc:=W.lt3 hx;have AN:=W.c3;have b1:=W.cb;refine J.vV.call ?_;simp[pE];simp[tP];have r0:=q.r0;simp only[Cm]at r0;simp[tQ,b1,hl,r0,q.r1]
theorem aiR(A:Zz C X Y)(W:Et X Y i b bc w h0 n0 h nx){c:Nat}{x:Cl}(hx:w.cls[c]?=some x){q:cd×List U}(hq:x.calls[x.fin]?=some q):aJ C gz [.ptr bc (c*8)] h nx (fun o h' nx'=>o=.ret (I (if x.op=false then 0 else if x.dn=0 then 1 else 2))∧h'=h∧nx'=nx):=by
 have a:=clA (Y:=Y) hx;have r0:=a.r0;simp only[Cm]at r0;have hl:=mE (Y:=Y) w.cls;have hc:=W.lt3 hx;have AN:=W.c3;have b1:=W.cb;refine J.x8.call ?_;simp[qY];simp[wu];cases ho:x.op with
 |false=>simp[mA,b1,hl,a.r2,ho];simp[wv]
 |true=>
  obtain⟨hql,hqe⟩:=List.getElem?_eq_some_iff.1 hq;have hr:=(tS A).rows x.calls;have ec:=(tS A).at hql;rw[hqe]at ec;have h4:4≤x.calls.length*4-x.fin*4:=by omega
  have h2:(vh Y q)[2]?=some (.sl (Y.act q.1) 1 14 .any):=rfl;have Nq:=lat h2;have ZA:(vh Y q).length=4:=rfl;simp[mA,b1,hl,a.r2,ho];simp[wx,b1,hl,r0,a.r1,a.r3,hql,hr,h4,ec,ZA,h2,Nq];by_cases hd:x.dn=0
  ·simp[hd];simp[wy]
  ·have hd1:¬(x.dn:Int)<1:=by omega
   simp[hd,hd1];simp[wA]
omit J in
theorem Et.IA(W:Et X Y i b bc w h0 n0 h nx)(hlen:w.eG.length<64)(e:Ev){cE:AV}(hE:ag b h=QZ (vl X Y i w.sh.n cE (.slice bc 0 3 8))):∃h3,appendTo 8 cE (eE e) 1 (aw nx (QZ (eE e)) h) nx.succ=.val (.slice nx.succ 0 (w.eG.length+1) 8) h3 nx.succ.succ∧ag b h3=QZ (vl X Y i w.sh.n cE (.slice bc 0 3 8))∧
  Et X Y i b bc {w with eG:=w.eG ++ [e]} h0 n0 (aw b (QZ (vl X Y i w.sh.n (.slice nx.succ 0 (w.eG.length+1) 8) (.slice bc 0 3 8))) h3) nx.succ.succ:=by
 have s1:=kTSu nx;have s2:=kTSu nx.succ;obtain⟨cE',oE,hb,g,ho⟩:=W.ev;have ee:cE'=cE:=by rw[hb]at hE;simp[vl]at hE;exact hE
 subst ee;have OV:=W.nb;have hnc:=W.nc;have ng:(eE e).all AV.aM=true:=sF.2 (nZ.cell e);have E2:=E0 h nx (.cells (eE e) .fix);have g2:=g.cv (h':=aw nx (QZ (eE e)) h) E2.n fun x hx=>E2.g x (g.lt x hx);obtain⟨h3,ha,g3,F3⟩:=g2.add (m:=1) (new:=eE e) rfl (by decide) rfl (by omega) ng;have nb:oE≠some b:=fun q=>(ho b q).2.1 rfl;have b3:ag b h3=QZ (vl X Y i w.sh.n cE' (.slice bc 0 3 8)):=by rw[F3.g b (by omega) nb,E2.g b (by omega)];exact hb
 refine⟨h3,ha,b3,?_⟩;have n3:=F3.n;have low:∀x:Key,x.toNat<nx.toNat→oE≠some x→ag x h3=ag x h:=fun x hx hn=>by rw[F3.g x (by omega) hn];exact E2.g x hx
 have ne:∀x:Key,x≠b→oE≠some x→x.toNat<nx.toNat→ag x (aw b (QZ (vl X Y i w.sh.n (.slice nx.succ 0 (w.eG.length+1) 8) (.slice bc 0 3 8))) h3)=ag x h:=fun x h2 h3 h4=>by rw[aP _ _ _ _ h2];exact low x h4 h3
 have nbc:oE≠some bc:=fun q=>(ho bc q).2.2 rfl;refine⟨W.sh,⟨.slice nx.succ 0 (w.eG.length+1) 8,some nx.succ,by simp,?_,fun x hx=>?_⟩,W.c3,?_,⟨OV.1,by omega⟩,⟨hnc.1,by omega⟩,W.ne,⟨by have:=W.ex.n;omega,fun x hx=>?_⟩⟩
 ·have e1:aq eE (w.eG ++ [e])=aq eE w.eG++eE e:=by rw[ju,iC]
  show O7 8 _ (aq eE (w.eG ++ [e])) (w.eG ++ [e]).length _ _ _;rw[e1,DG,List.length_singleton];refine g3.cv (fE _) fun x hx=>?_;cases hx;exact aP _ _ _ _ (fun q=>by have:=congrArg Key.toNat q;omega)
 ·cases hx;exact⟨by omega,fun q=>by have:=congrArg Key.toNat q;omega,fun q=>by have:=congrArg Key.toNat q;omega⟩
 ·rw[ne bc W.ne.symm nbc hnc.2];exact W.cb
 ·rw[aP _ _ _ _ (fun q=>by rw[q]at hx;omega),low x (by have:=W.ex.n;omega) (fun q=>by have:=(ho x q).1;omega)];exact W.ex.g x hx
theorem acX(A:Zz C X Y)(Cc:1≤i)(AL:i<3)(W:Et X Y i b bc w h0 n0 h nx)(hlen:w.eG.length<64)(e:Ev):aJ C eP [.ptr b 0,.agg (eE e)] h nx (fun o h' nx'=>o=.ret (I 0)∧Et X Y i b bc {w with eG:=w.eG ++ [e]} h0 n0 h' nx'):=by
 obtain⟨cE,oE,hb,g,ho⟩:=W.ev;have OV:=W.nb;have ng:(eE e).all AV.aM=true:=sF.2 (nZ.cell e);have hl8:(eE e).length=8:=rfl;have ht8:List.take 8 (eE e)=eE e:=rfl;have hd8:List.drop 8 (eE e)=[]:=rfl;have zE:∀H,bA (aS 9999) (eE e) H=(eE e,H):=fun H=>bF (nZ.wU e);have lL:=fun {Q L tm h2 n2 k1 d1}=>g.aAn.ln (C:=C) (Q:=Q) (L:=L) (tm:=tm) (h2:=h2) (n2:=n2) (k1:=k1) (d1:=d1);have h64:(w.eG.length:Int)<64:=by omega
 have E1:=E0 h nx (.cells (eE e) .fix);have W1:=W.ext E1;have b1:=(E1.g b OV.2).trans hb;have c1:ag nx (aw nx (QZ (eE e)) h)=QZ (eE e):=by simp
 have gc:=g.cell;have hbE:AV.beq cE cE=true:=aAQ nZ g.gr;have hr:∀k,k<45→(uW Y i k).aM=true:=fun k hk=>GA A Cc AL hk;refine J.Bg.call ?_;simp[w8];simp[An,ng];generalize aw nx (QZ (eE e)) h=h1 at *;obtain⟨h3,ha,b3,W3⟩:=W1.IA hlen e b1;simp only[vl]at b1 b3 W3;simp only[Ao,sM,xK,xL,sN,xM,sO,xN,xO,sP,sQ,xP,xQ,xR,xS];simp[↓lL,b1,h64];simp[-appendTo,Ap,b1,c1,hl8,ht8,hd8,ng,gc.1,gc.2,hbE,zE,ha,b3,hr];simp[Aq];exact W3
omit J in
theorem Et.aqb(W:Et X Y i b bc w h0 n0 h nx){cls':List Cl}(h3:cls'.length=3):Et X Y i b bc {w with cls:=cls'} h0 n0 (aw bc (some (.cells (BL Y cls') .part)) h) nx:=by obtain⟨cE,oE,hb,g,ho⟩:=W.ev;exact⟨W.sh,⟨cE,oE,by rw[aP _ _ _ _ W.ne];exact hb,g.cv (fE _) fun x hx=>aP _ _ _ _ (ho x hx).2.2,ho⟩,h3,by simp,W.nb,W.nc,W.ne,W.ex.put W.nc.1⟩
omit J in
theorem Et.az0(W:Et X Y i b bc w h0 n0 h nx){s:St}(hs:AD i s){cE:AV}(hE:ag b h=QZ (vl X Y i w.sh.n cE (.slice bc 0 3 8))):Et X Y i b bc {w with sh:=s} h0 n0 (aw b (QZ (vl X Y i s.n cE (.slice bc 0 3 8))) h) nx:=by
 obtain⟨cE',oE,hb,g,ho⟩:=W.ev;have e:cE'=cE:=by rw[hb]at hE;simp[vl]at hE;exact hE
 subst e;exact⟨hs,⟨cE',oE,by simp,g.cv (fE _) fun x hx=>aP _ _ _ _ (ho x hx).2.1,ho⟩,W.c3,by rw[aP _ _ _ _ W.ne.symm];exact W.cb,W.nb,W.nc,W.ne,W.ex.put W.nb.1⟩
omit J in
theorem ayd{cls:List Cl}{c:Nat}{x:Cl}(h:cls[c]?=some x)(y:Cl)(n:Nat):BL Y (cls.set c {y with ix:=n})=BL Y (cls.set c y):=by obtain⟨P,B,_,_,h3⟩:=agK (Y:=Y) cls c x h;rw[h3,h3];rfl
theorem adT(A:Zz C X Y)(S:Std C X)(Cc:1≤i)(AL:i<3)(W:Et X Y i b bc w h0 n0 h nx)(hlen:w.eG.length<64){c:Nat}{x:Cl}(hx:w.cls[c]?=some x){q:cd×List U}(hq:x.calls[x.fin]?=some q)(n:Nat):aJ C cp [.ptr b 0,I c] h nx (fun o h' nx'=>o=.ret (I 0)∧Et X Y i b bc ⟨w.sh,w.eG ++ [kB c q],w.cls.set c {x with op:=true,dn:=0,loc:=BM,ix:=n}⟩ h0 n0 h' nx'):=by
 have s1:=kTSu nx;have rA:=S.r eP;obtain⟨cE,oE,hb,g,ho⟩:=W.ev;have a:=clA (Y:=Y) hx;have r0:=a.r0;simp only[Cm]at r0;have hl:=mE (Y:=Y) w.cls;have hc:=W.lt3 hx;have AN:=W.c3;have b1:=W.cb;obtain⟨hql,hqe⟩:=List.getElem?_eq_some_iff.1 hq;have hr:=(tS A).rows x.calls;have ec:=(tS A).at hql;rw[hqe]at ec;have Nt:(vh Y q).all AV.aM=true:=sF.2 ((tS A).cell q);have ZA:(vh Y q).length=4:=rfl;have ht4:List.take 4 (vh Y q)=vh Y q:=rfl;have h4:4≤x.calls.length*4-x.fin*4:=by omega
 refine J.x9.call ?_;simp[qZ];simp[wC];simp[wD,hb,vl,hc];simp[wE,b1,hl,AN,r0,a.r1,hql,hr,ec,Nt,ZA,ht4,h4];have E1:=E0 h nx (.cells (vh Y q) .fix);have W1:=W.ext E1;have c1:ag nx (aw nx (QZ (vh Y q)) h)=QZ (vh Y q):=by simp
 generalize aw nx (QZ (vh Y q)) h=h1 at *;have q0:(vh Y q)[0]?=some (.str q.1.name.1 q.1.name.2):=rfl;have q3:(vh Y q)[3]?=some (aV q.2):=rfl;have q0':=lat q0;have q3':=lat q3;have za:∀n H,aS n (aV q.2) H=(aV q.2,H):=gx q.2;have ca:=du q.2;simp[wF,c1,ZA,q0,q0',q3,q3',rA,za,ca.1,ca.2];refine(acX J A Cc AL W1 hlen (kB c q)).mono ?_;rintro o h2 bu ⟨rfl,W2⟩;simp;simp[wG];have hx2:({w with eG:=w.eG ++ [kB c q]}:Wd).cls[c]?=some x:=hx;generalize hw2:({w with eG:=w.eG ++ [kB c q]}:Wd)=w2 at *;have hw3:w2.cls=w.cls:=by rw[←hw2]
 have aTw:=hw3 ▸ hx;have b4:=W2.cb;rw[hw3]at b4;have x1:=qC (y:={x with op:=true}) hx;have a1:=clA (Y:=Y) x1;have x2:=qC (y:={x with op:=true,dn:=0}) hx;have a2:=clA (Y:=Y) x2;have w1:=a.w2 true;have w2':=a1.w3 0;have w3:=a2.w4 BM;rw[List.set_set]at w2' w3;have l1:=mE (Y:=Y) (w.cls.set c {x with op:=true});have l2:=mE (Y:=Y) (w.cls.set c {x with op:=true,dn:=0});rw[List.length_set,AN]at l1 l2;have h21:c*8≤21:=by omega
 have h20:c*8≤20:=by omega
 have h16:c*8≤16:=by omega
 simp only[BM,Int.natCast_zero]at w2' w3;simp[wH,b4,hl,AN,l1,l2,h21,h20,h16,w1,w2',w3];simp[wI];have key:=W2.aqb (cls':=w.cls.set c {x with op:=true,dn:=0,loc:=BM,ix:=n}) (by rw[List.length_set];exact AN);rw[ayd hx {x with op:=true,dn:=0,loc:=BM} n]at key;subst hw2;exact key
theorem alG(A:Zz C X Y)(S:Std C X)(Cc:1≤i)(AL:i<3)(W:Et X Y i b bc w h0 n0 h nx)(hlen:w.eG.length<64){c:Nat}{x:Cl}(hx:w.cls[c]?=some x)(hf:x.fin<1000):aJ C c9 [.ptr b 0,I c] h nx (fun o h' nx'=>o=.ret (I 0)∧Et X Y i b bc ⟨w.sh,w.eG ++ [qn c x.loc],w.cls.set c {x with op:=false,fin:=x.fin+1}⟩ h0 n0 h' nx'):=by
 have rA:=S.r eP;obtain⟨cE,oE,hb,g,ho⟩:=W.ev;have a:=clA (Y:=Y) hx;have r0:=a.r0;simp only[Cm]at r0;have hl:=mE (Y:=Y) w.cls;have hc:=W.lt3 hx;have AN:=W.c3;have b1:=W.cb;have h16:c*8≤16:=by omega
 have r4:=a.r4;simp only[eU]at r4;refine J.Bh.call ?_;simp[w9];simp[Ar];simp[As,hb,vl,hc];have h4c:4≤20-c*8:=by omega
 simp[Au,b1,hl,AN,h4c,r4,rA];refine(acX J A Cc AL W hlen (qn c x.loc)).mono ?_;rintro o h2 bu ⟨rfl,W2⟩;simp;simp[Av];have b4:=W2.cb;have hx2:({w with eG:=w.eG ++ [qn c x.loc]}:Wd).cls[c]?=some x:=hx;have x1:=qC (y:={x with op:=false}) hx;have a1:=clA (Y:=Y) x1;have w1:=a.w2 false;have w2':=a1.w1 (x.fin+1);rw[List.set_set]at w2';have l1:=mE (Y:=Y) (w.cls.set c {x with op:=false});rw[List.length_set,AN]at l1;have h21:c*8≤21:=by omega
 have h22:c*8≤22:=by omega
 have OW:bD .i64 ((x.fin:Int)+1)=((x.fin+1:Nat):Int):=aO (by omega) (by omega);simp[Aw,b4,hl,AN,h21,w1];simp[-Int.natCast_add,Ax,b4,hl,AN,l1,h21,h22,a1.r1,OW,w2'];simp[Ay];exact W2.aqb (cls':=w.cls.set c {x with op:=false,fin:=x.fin+1}) (by rw[List.length_set];exact AN)
end
end Ln
namespace Ln
open Go.Sx Go
def azY:aK:=(.seq (.staged py ⟨[Km,IB,Dw,Gy,H8,Gc,Ko,NB,H9,cJ],[]⟩)
 (.seq (.staged nC ⟨[NC,Lk,Ia,Nr,LB,Qb,Ll,Ns,ND,OT,LC,Q1,UK,OU,Rl,Xk,I5,Xl,Zy,UL,ZJ,dd,dy,dz,eh],[]⟩)
 (.seq (.seq (.ops nD)
 (.cond (.t k97)
 (.seq (.ops xu)
 .ret)
 .skip))
 (.seq (.staged nF ⟨[IC,ID,IE,IF,Gz,Kq,IG,IH,LD,FN,Kr,Ks,LF,LG,LH,LI,Xm,NF,NG,Rm,Xn,dA,fX,iG,eh],[]⟩)
 (.seq (.seq (.ops nG)
 (.cond (.t ZK)
 (.seq (.ops xw)
 .ret)
 .skip))
 (.seq (.staged nH ⟨[Rn,Kt,Ro,Qc,Rp,Rq,Rr,BI],[]⟩)
 (.seq (.ops nJ)
 (.seq (.ops nK)
 .ret))))))))
variable{C:bP}{X:Kn}{Y:BJ}{i:Nat}{b bc:Key}{w:Wd}{h0 h:T ah}{n0 nx:Key}(S:Std C X)(A:Zz C X Y)
include S A
theorem ak1(Cc:1≤i)(AL:i<3)(W:Et X Y i b bc w h0 n0 h nx){c:Nat}{x:Cl}(hx:w.cls[c]?=some x){q:cd×List U}(hm:q.1.fm=i)(ha:LJ q.1 q.2)(Xo:Ck q.1 w.sh=true)(hd:x.dn=0){be p6:Key}{k:CK}{tm:T AV}{h1:T ah}{bw:Key}(E:Ext h nx h1 bw)
  (g0:ag (K 0) tm=some (.ptr b 0)) (g5:ag (K 5) tm=some (.ptr bc (c*8))) (g6:ag (K 6) tm=some (.ptr p6 0)) (g7:ag (K 7) tm=some (.slice be 0 (2+q.2.length) 5)) (b6:ag p6 h1=QZ (vh Y q)) (bE:ag be h1=some (.cells (DB q.1 w.sh q.2) k)) (l6:nx.toNat≤p6.toNat∧p6.toNat<be.toNat) (lE:be.toNat<bw.toNat) :
  iT C azY (fQ [.tmp (K 4)] fun o h' nx'=>o=.ret (I 0)∧Et X Y i b bc ⟨wP q.1 w.sh q.2,w.eG,w.cls.set c {x with dn:=1,loc:=pz q.1 w.sh q.2}⟩ h0 n0 h' nx') tm h1 bw:=by
 have s1:=kTSu bw;have s2:=kTSu bw.succ;have s3:=kTSu bw.succ.succ;have rE:=S.r fi;obtain⟨cE,oE,hb,g,ho⟩:=W.ev;have a:=clA (Y:=Y) hx;have r0:=a.r0;simp only[Cm]at r0;have hl:=mE (Y:=Y) w.cls;have hc:=W.lt3 hx;have AN:=W.c3;have OV:=W.nb;have hnc:=W.nc;have hn:=E.n;have b1:=(E.g b OV.2).trans hb;have c1:=(E.g bc hnc.2).trans W.cb;have q2:(vh Y q)[2]?=some (.sl (Y.act q.1) 1 14 .any):=rfl;have q2':=lat q2;have ZA:(vh Y q).length=4:=rfl;have ap8:=A.act q.1;have avb:=ap8.len;have aFa:List.take 14 (Y.act q.1)=Y.act q.1:=Lm (by omega);have a3:=a.r3;rw[hd]at a3;simp only[Int.natCast_zero]at a3;have har:=ZL q.1;have lA:=ak4 q.1 w.sh q.2 (by have:=ha.1;omega);unfold azY;simp only[dO,fo,jQ,jl,vk];simp[py,g5,g6,b6,c1,ZA,hl,AN,q2,q2',a3,avb,aFa,ap8.all];have E2:=E.trans (E0 h1 bw (.cells (Y.act q.1) .fix));have b2:=(E2.g b OV.2).trans hb;have c2:=(E2.g bc hnc.2).trans W.cb;have k2:ag be (aw bw (QZ (Y.act q.1)) h1)=some (.cells (DB q.1 w.sh q.2) k):=by rw[aA lE];exact bE
 have d2:ag bw (aw bw (QZ (Y.act q.1)) h1)=QZ (Y.act q.1):=by simp
 generalize aw bw (QZ (Y.act q.1)) h1=h2 at *;obtain⟨h3,f3,g3,k3,be3⟩:=Rs k2 lA (Rt q.1 w.sh q.2);have BK:nx.toNat≤be.toNat:=by omega
 have E3:Ext h nx h3 bw.succ:=⟨E2.n,fun y hy=>(g3 y (by rintro rfl;omega)).trans (E2.g y hy)⟩;have d3:=(g3 bw (by rintro rfl;omega)).trans d2;have cA:=ap8.cut 0 7 (by decide);have cB:=ap8.cut 7 7 (by decide);have zA:∀H,bA (aS 9998) (List.take 7 (Y.act q.1)) H=(List.take 7 (Y.act q.1),H):=fun H=>by simpa using cA.ZM 9998 H
 have zB:=fun H=>cB.ZM 9998 H;have hs:=W.sh;rw[←hm]at hs;obtain⟨x1,x2,x3,aFb⟩:=A.atd q.1 w.sh q.2 (by omega) hs ha;obtain⟨y1,y2,y3,aFc⟩:=A.ate q.1 w.sh q.2 (by omega) hs ha;have hs':AD q.1.fm (wP q.1 w.sh q.2):=AD.next hs ha Xo;have eN:=hs'.eS (by omega);simp only[vl]at b2;simp[nC,g0,g7,b2,d2,avb,rE,f3,zA];refine aJ.known (aFb h3 _) ?_;rw[eN];simp;have ZN:∀y:Key,y.toNat<bw.succ.toNat→ag y (aw bw.succ.succ (QZ [I x1,I x2,I x3]) (aw bw.succ (QZ [I 0,I (wP q.1 w.sh q.2).n,.str 0 0,.nils]) (aw bw.succ.succ (QZ [I 0,I 0,I 0]) h3)))=ag y h3:=fun y hy=>by rw[aA (by omega),aA hy,aA (by omega)]
 have v4:ag bw.succ (aw bw.succ.succ (QZ [I x1,I x2,I x3]) (aw bw.succ (QZ [I 0,I (wP q.1 w.sh q.2).n,.str 0 0,.nils]) (aw bw.succ.succ (QZ [I 0,I 0,I 0]) h3)))=QZ [I 0,I (wP q.1 w.sh q.2).n,.str 0 0,.nils]:=by rw[aA (by omega)];simp
 generalize aw bw.succ.succ (QZ [I x1,I x2,I x3]) (aw bw.succ (QZ [I 0,I (wP q.1 w.sh q.2).n,.str 0 0,.nils]) (aw bw.succ.succ (QZ [I 0,I 0,I 0]) h3))=h4 at *;have E4:Ext h nx h4 bw.succ.succ.succ:=⟨by omega,fun y hy=>(ZN y (by omega)).trans (E3.g y hy)⟩;have b4:=(E4.g b OV.2).trans hb;have c4:=(E4.g bc hnc.2).trans W.cb;have d4:=(ZN bw (by omega)).trans d3;have be4:=(ZN be (by omega)).trans be3;obtain⟨h5,f5,g5',k5,be5⟩:=Rs be4 lA (Rt q.1 w.sh q.2);have E5:Ext h nx h5 bw.succ.succ.succ:=⟨E4.n,fun y hy=>(g5' y (by rintro rfl;omega)).trans (E4.g y hy)⟩;have v5:=(g5' bw.succ (by rintro rfl;omega)).trans v4;have s4:=kTSu bw.succ.succ.succ;have s5:=kTSu bw.succ.succ.succ.succ;simp[nD];simp only[vl]at b4;simp[nF,g0,g7,b4,d4,avb,rE,f5,zB];refine aJ.known (aFc h5 _) ?_;have hr0:(pz q.1 w.sh q.2).k=0:=ak6 hs;simp only[eU];rw[hr0];simp;have azZ:∀y:Key,y.toNat<bw.succ.succ.succ.toNat→ag y (aw bw.succ.succ.succ.succ (QZ [I y1,I y2,I y3]) (aw bw.succ.succ.succ (QZ [I 0,I (pz q.1 w.sh q.2).n,.str 0 0,.nils]) (aw bw.succ.succ.succ.succ (QZ [I 0,I 0,I 0]) h5)))=ag y h5:=fun y hy=>by rw[aA (by omega),aA hy,aA (by omega)]
 have v6:ag bw.succ.succ.succ (aw bw.succ.succ.succ.succ (QZ [I y1,I y2,I y3]) (aw bw.succ.succ.succ (QZ [I 0,I (pz q.1 w.sh q.2).n,.str 0 0,.nils]) (aw bw.succ.succ.succ.succ (QZ [I 0,I 0,I 0]) h5)))=QZ [I 0,I (pz q.1 w.sh q.2).n,.str 0 0,.nils]:=by rw[aA (by omega)];simp
 generalize aw bw.succ.succ.succ.succ (QZ [I y1,I y2,I y3]) (aw bw.succ.succ.succ (QZ [I 0,I (pz q.1 w.sh q.2).n,.str 0 0,.nils]) (aw bw.succ.succ.succ.succ (QZ [I 0,I 0,I 0]) h5))=h6 at *;have E6:Ext h nx h6 bw.succ.succ.succ.succ.succ:=⟨by omega,fun y hy=>(azZ y (by omega)).trans (E5.g y hy)⟩;have w6:=(azZ bw.succ (by omega)).trans v5;have W6:=W.ext E6;have b6':=(E6.g b OV.2).trans hb;have c6:=(E6.g bc hnc.2).trans W.cb;simp[nG];have l3:=bw.succ.succ.succ.toNat;have nv:bw.succ.succ.succ≠b:=fun e=>by have:=congrArg Key.toNat e;omega
 have bU:AV.beq (.agg [I 0,I (pz q.1 w.sh q.2).n,.str 0 0,.nils]) (.agg [I 0,I (pz q.1 w.sh q.2).n,.str 0 0,.nils])=true:=beq_refl _ rfl;have hrc:∀k,k<45→(uW Y i k).aM=true:=fun k hk=>GA A Cc AL hk;have hE6:=b6';have hW7:=W6.az0 (s:=wP q.1 w.sh q.2) (by rw[←hm];exact hs') hE6;have c7:ag bc (aw b (QZ (vl X Y i (wP q.1 w.sh q.2).n cE (.slice bc 0 3 8))) h6)=some (.cells (BL Y w.cls) .part):=by rw[aP _ _ _ _ W.ne.symm];exact c6
 have x1:=qC (y:={x with loc:=pz q.1 w.sh q.2}) hx;have a1:=clA (Y:=Y) x1;have w4:=a.w4 (pz q.1 w.sh q.2);rw[hr0]at w4;have w3:=a1.w3 1;rw[List.set_set]at w3;have a13:(BL Y (w.cls.set c {x with loc:=pz q.1 w.sh q.2}))[c*8+3]?=some (I 0):=by rw[a1.r3];simp[hd]
 simp only[Int.natCast_one]at w3;have l1:=mE (Y:=Y) (w.cls.set c {x with loc:=pz q.1 w.sh q.2});rw[List.length_set,AN]at l1;have h20:c*8≤20:=by omega
 have h16:c*8≤16:=by omega
 have OW:bD .i64 1=1:=aO (by decide) (by decide);simp only[vl]at b6' c7;simp[nH,g0,g5,w6,v6,b6',nv,aP _ _ _ _ nv,bU,c7,hl,AN,h16,w4,hrc];have h21:c*8≤21:=by omega
 simp[nJ,g5,hl,AN,l1,h20,h21,a13,OW,w3];simp[nK];have key:=hW7.aqb (cls':=w.cls.set c {x with dn:=1,loc:=pz q.1 w.sh q.2}) (by rw[List.length_set];exact AN);simp only[vl]at key;exact key
omit S in
theorem aqc{P:cH}{tm:T AV}{h1:T ah}{bw m0 p6:Key}{q:cd×List U}(ha:LJ q.1 q.2){s:St}(g6:ag (K 6) tm=some (.ptr p6 0))(b6:ag p6 h1=QZ (vh Y q))(l6:p6.toNat<bw.toNat)(g7:ag (K 7) tm=some (.slice m0 0 2 5))(hn:ag m0 h1=QZ (yR 115 (eS s)++yR 108 (eU BM)))(hnn:m0.toNat<bw.toNat)
  (hQ:∀(aD:T AV) (h':T ah) (nx' be:Key) (k:CK),(∀t:Nat,t∈[0,5,6]→ag (K t) aD=ag (K t) tm)→ag (K 7) aD=some (.slice be 0 (2+q.2.length) 5)→ag be h'=some (.cells (DB q.1 s q.2) k)→(be=m0∨bw.toNat≤be.toNat)→be.toNat<nx'.toNat→Ext h1 bw h' nx'→P .norm aD h' nx') :
  qy C (aW (iT C (.block 0 (.loop jR)) P) P) jS tm h1 bw:=by
 have s1:=kTSu bw;have s2:=kTSu bw.succ;have s3:=kTSu bw.succ.succ;have r1:(vh Y q)[1]?=some (Ku q.1 (Y.par q.1) 4):=rfl;have r1':=lat r1;have r2:(vh Y q)[3]?=some (aV q.2):=rfl;have r2':=lat r2;have ZA:(vh Y q).length=4:=rfl;have har:=ZL q.1;by_cases h0:q.1.ar=0
 ·have e2:=ha.none h0;have e0:Ku q.1 (Y.par q.1) 4=.nils:=by simp[Ku,h0]
  rw[e0]at r1 r1';simp[jS,g6,b6,ZA,r1,r1'];refine W.wO (W.of ?_);simp[jR];simp[pA];refine hQ _ _ _ m0 .fix ?_ (by simp[g7,e2]) (by simpa[DB,adF,e2]using hn) (.inl rfl) hnn (Ext.refl _ _);intro t ht;simp at ht;rcases ht with rfl|rfl|rfl<;>simp
 ·have h01:q.1.ar=1:=by omega
  obtain⟨n,e2⟩:=ha.one h01;have e0:Ku q.1 (Y.par q.1) 4=.sl (Y.par q.1) 1 4 .any:=by simp[Ku,h0]
  obtain⟨hd,hd0⟩:=A.par q.1 h01;have hdl:=hd.len;have hd4:List.take 4 (Y.par q.1)=Y.par q.1:=Lm (by omega);have e1:aV q.2=.sl (eU ⟨0,n⟩) 1 4 .any:=by rw[e2];rfl
  have OW:bD .i64 1=1:=aO (by decide) (by decide);rw[e0]at r1 r1';rw[e1]at r2 r2';simp[jS,g6,b6,ZA,r1,r1'];refine W.wO (W.of ?_);simp[jR];simp[pA];simp[yS,hdl,hd4,hd.all];have E1:=E0 h1 bw (.cells (Y.par q.1) .fix);have b1:ag p6 (aw bw (QZ (Y.par q.1)) h1)=QZ (vh Y q):=by rw[aA l6];exact b6
  have n1:ag m0 (aw bw (QZ (Y.par q.1)) h1)=QZ (yR 115 (eS s)++yR 108 (eU BM)):=by rw[aA hnn];exact hn
  have p1:ag bw (aw bw (QZ (Y.par q.1)) h1)=QZ (Y.par q.1):=by simp
  generalize aw bw (QZ (Y.par q.1)) h1=h2 at *;have hT:List.take 10 (yR 115 (eS s)++yR 108 (eU BM))=yR 115 (eS s)++yR 108 (eU BM):=rfl;have hL:(yR 115 (eS s)++yR 108 (eU BM)).length=10:=rfl;have zE:∀H,bA (aS 9999) (yR 115 (eS s)++yR 108 (eU BM)) H=(yR 115 (eS s)++yR 108 (eU BM),H):=fun H=>bF (by have:=Rt q.1 s [];simpa[DB,adF]using this)
  have hTU:∀u:U,List.take 4 (eU u)=eU u:=fun _=>rfl;have zU:∀(u:U) H,bA (aS 9999) (eU u) H=(eU u,H):=fun u H=>bF (Wc u);have n2:ag m0 (aw bw.succ (QZ (.str 1 (nmC q.1) ::eU ⟨0,n⟩)) h2)=QZ (yR 115 (eS s)++yR 108 (eU BM)):=by rw[aA (by omega)];exact n1
  have E2:=E1.trans ((E0 h2 bw.succ (.cells (.str 1 (nmC q.1) ::eU ⟨0,n⟩) .fix)).trans (E0 _ bw.succ.succ (.cells (DB q.1 s [⟨0,n⟩]) .part)));simp[yT,g6,g7,b1,n1,p1,ZA,hd0,r2,r2',hTU,agW,Xp,hT,hL,zE,zU,n2];simp[yU,OW];refine W.wO (W.of ?_);simp;refine hQ _ _ _ bw.succ.succ .part ?_ (by simp[e2]) (by simp[DB,adF,yR,e2]) (.inr (by omega)) (by omega) ?_
  ·intro t ht;simp at ht;rcases ht with rfl|rfl|rfl<;>simp
  ·have:DB q.1 s [⟨0,n⟩]=yR 115 (eS s)++(yR 108 (eU BM)++(.str 1 (nmC q.1) ::eU ⟨0,n⟩)):=by simp[DB,adF,yR]
   simpa[this]using E2
variable(J:Sqf C)
include J
theorem ak8(Cc:1≤i)(AL:i<3)(W:Et X Y i b bc w h0 n0 h nx){c:Nat}{x:Cl}(hx:w.cls[c]?=some x){q:cd×List U}(hq:x.calls[x.fin]?=some q)(hm:q.1.fm=i)(ha:LJ q.1 q.2)(Xo:Ck q.1 w.sh=true)(hd:x.dn=0)(aqd:x.loc=BM):aJ C cX [.ptr b 0,I c] h nx (fun o h' nx'=>o=.ret (I 0)∧Et X Y i b bc ⟨wP q.1 w.sh q.2,w.eG,w.cls.set c {x with dn:=1,loc:=pz q.1 w.sh q.2}⟩ h0 n0 h' nx'):=by
 have s1:=kTSu nx;have s2:=kTSu nx.succ;have s3:=kTSu nx.succ.succ;have s4:=kTSu nx.succ.succ.succ;have s5:=kTSu nx.succ.succ.succ.succ;obtain⟨cE,oE,hb,g,ho⟩:=W.ev;have a:=clA (Y:=Y) hx;have r0:=a.r0;simp only[Cm]at r0;have hl:=mE (Y:=Y) w.cls;have hc:=W.lt3 hx;have AN:=W.c3;have OV:=W.nb;have hnc:=W.nc;have b1:=W.cb;obtain⟨hql,hqe⟩:=List.getElem?_eq_some_iff.1 hq;have hr:=(tS A).rows x.calls;have ec:=(tS A).at hql;rw[hqe]at ec;have Nt:(vh Y q).all AV.aM=true:=sF.2 ((tS A).cell q);have ZA:(vh Y q).length=4:=rfl;have ht4:List.take 4 (vh Y q)=vh Y q:=rfl;have h4:4≤x.calls.length*4-x.fin*4:=by omega
 have hs:=W.sh;have eS1:=hs.eS Cc;have r4:=a.r4;rw[aqd]at r4;simp only[eU,BM]at r4;have h4c:4≤20-c*8:=by omega
 refine J.AO.call ?_;simp[wQ];simp[yV];simp[yW,hb,vl,hc];simp[yX,b1,hl,AN,r0,a.r1,hql,hr,ec,Nt,ZA,ht4,h4];have E1:=E0 h nx (.cells (vh Y q) .fix);have p1:ag nx (aw nx (QZ (vh Y q)) h)=QZ (vh Y q):=by simp
 have b3:=(E1.g b OV.2).trans hb;have c3:=(E1.g bc hnc.2).trans b1;generalize aw nx (QZ (vh Y q)) h=h1 at *;simp only[vl]at b3;simp[yY,b3,c3,hl,AN,r4,h4c];have eb:(ah.cells [.str 1 115,I 0,I w.sh.n,.str 0 0,.nils,.str 1 108,I 0,I 0,.str 0 0,.nils] .fix)=.cells (yR 115 (eS w.sh)++yR 108 (eU BM)) .fix:=by rw[eS1];rfl
 rw[eb];have E2:=E1.trans (E0 h1 nx.succ (.cells (yR 115 (eS w.sh)++yR 108 (eU BM)) .fix));have p2:ag nx (aw nx.succ (QZ (yR 115 (eS w.sh)++yR 108 (eU BM))) h1)=QZ (vh Y q):=by rw[aA (by omega)];exact p1
 have m2:ag nx.succ (aw nx.succ (QZ (yR 115 (eS w.sh)++yR 108 (eU BM))) h1)=QZ (yR 115 (eS w.sh)++yR 108 (eU BM)):=by simp
 generalize aw nx.succ (QZ (yR 115 (eS w.sh)++yR 108 (eU BM))) h1=h2 at *;refine aqc A ha (p6:=nx) (m0:=nx.succ) (s:=w.sh) (by simp) p2 (by omega) (by simp) m2 (by omega) ?_;intro Eu h3 dZ be k q3 g7 bE BK lE E3;have k0:ag (K 0) Eu=some (.ptr b 0):=by rw[q3 0 (by simp)];simp
 have k5:ag (K 5) Eu=some (.ptr bc (c*8)):=by rw[q3 5 (by simp)];simp
 have k6:ag (K 6) Eu=some (.ptr nx 0):=by rw[q3 6 (by simp)];simp
 simp only[qD];have LK:nx.toNat<be.toNat:=by rcases BK with rfl|hh<;>omega
 exact ak1 S A Cc AL W hx hm ha Xo hd (E2.trans E3) k0 k5 k6 g7 ((E3.g nx (by omega)).trans p2) bE ⟨fE _,LK⟩ lE
end Ln
