/- A part of the proof. No condition. -/
import Derived.Test.YtecbfpngkfdkoaaGreatP34
import Derived.Test.YtecbfpngkfdkoaaGreatP33
set_option linter.unusedSimpArgs false
set_option linter.unusedVariables false
set_option linter.unusedSectionVars false
namespace Ln
open Go.Sx Go
theorem L7(l:List U):iB 4 eU (aK l) l:=by
 cases l with
 |nil=>exact .inl ⟨rfl,rfl⟩
 |cons a l=>exact .inr rfl
def FO(u:U):List Nat:=Mj u.k++(if u.k=0 then Mj u.n else if u.k=1 then [if u.n=1 then 1 else 0]else Mj 0)
theorem aj3(u:U):(FO u).length≤22:=by
 unfold FO;have h1:=xT u.k;have h2:=xT u.n;have h3:=xT 0;rw[Ho];split
 ·omega
 ·split
  ·simp;omega
  ·omega
theorem S6(l:List U):(l.flatMap FO).length≤22*l.length:=by
 induction l with
 |nil=>simp
 |cons a l ih=>rw[List.flatMap_cons,Ho,zqi];have:=aj3 a;omega
def CvI(w:Key)(kids:List U)(bs:List Nat)(h:T ah)(nx n0:Key)(m:Nat)(aw:T AV)(h':T ah)(nx':Key):Prop:=∃(j:Nat) (c':AV),m=kids.length-j∧j≤kids.length∧ae (K 0) aw=some (.ptr w 0)∧ae (K 14) aw=some (aK kids)∧ae (K 15) aw=some (I kids.length)∧ae (K 16) aw=some (I j)∧WS w c' (bs++(kids.take j).flatMap FO) h' nx' n0∧nx.toNat≤nx'.toNat∧(∀b:Key,b.toNat<n0.toNat→ae b h'=ae b h)∧T7 w h nx h'
theorem _root_.Go.Sx.Rd.lnS{z:Nat}{c:AV}{l:List AV}{len:Nat}{h:T ah}{nx:Key}(g:Rd z c l len h nx){C:bK}{Q:cH}{ds:List Key}{aq:List (Nat×Key×ah)}{L:List aL}{tm:T AV}{h2:T ah}{n2 k1 d1:Key}{a:Nat}(h1:ae k1 tm=some c) :
  wpS C Q ⟨ds,[]⟩ (.L a ⟨some d1,.lenL (.t k1),none⟩ ::L) aq tm h2 n2=wpS C Q ⟨ds,[]⟩ L aq (av d1 (some (I len)) tm) h2 n2:=by
 rcases g with⟨rfl,_,rfl⟩|⟨f,rfl⟩|⟨b,k,rfl,_⟩<;>simp[h1]
variable{C:bK}{X:Kn}(S:Std C X)(H:Mk C)
include S H
theorem abV{B:Nat}{w n0:Key}{kids:List U}(hk:kids.length≤3)(hv:∀u∈kids,∀{c:AV} {bs:List Nat} {h:T ah} {nx:Key},WS w c bs h nx n0→bs.length≤B+80→aH C bz [.ptr w 0,.agg (eU u)] h nx (iM w (bs++FO u) h nx n0)){bs:List Nat}(hl:bs.length≤B+11){h:T ah}{nx:Key}{Q:cH}{m:Nat}{tm:T AV}{h1:T ah}{bF:Key}(A:CvI w kids bs h nx n0 m tm h1 bF)
  (fg:∀aw h' nx',iM w (bs++kids.flatMap FO) h nx n0 (.ret (.tuple [])) h' nx'→Q .norm aw h' nx') :
  W C (.loop lA) (aA 0 Q) tm h1 bF:=by
 have rV:=S.r bz;refine W.cM (CvI w kids bs h nx n0) A ?_;rintro m dD h2 aU ⟨j,c',rfl,hj,g0,g14,g15,g16,Ws,hn,hf,hkp⟩;refine W.of ?_;simp[lA];by_cases bG:j<kids.length
 ·have sZ:(j:Int)<kids.length:=by omega
  have hR:=(L7 kids).rd h2 aU;have s2:=kTSu aU;have hlen:=S6 (kids.take j);rw[V9]at hlen;have hcU:(eU kids[j]).all AV.aP=true:=vJ.2 (wA.cell _);have hlU:(eU kids[j]).length=4:=rfl;have htU:List.take 4 (eU kids[j])=eU kids[j]:=rfl;have hdU:List.drop 4 [AV.int .i64 (.lit 0),.int .i64 (.lit 0),.str 0 0,.nils]=[]:=rfl;have Y8:(kids.take (j+1)).flatMap FO=(kids.take j).flatMap FO++FO kids[j]:=by rw[Zz bG,List.flatMap_append,List.flatMap_cons,List.flatMap_nil,List.append_nil]
  have nR:=Mg bG;simp[lB,g15,g16,sZ];simp only[tw,Wc,aht,ahu,Wf,ahv,Wg,ahw,ahx,Wd,We,ahy,ahz,ahA,ahB];simp[↓hR.ix wA bG,g14,g16,hcU,hlU];simp[tz,g0,hlU,htU,rV,aCQ];have MD:(bs++(kids.take j).flatMap FO).length≤B+80:=by rw[Ho];omega
  have e1:=E0 h2 aU (.cells (eU kids[j]) .fix);have W1:=Ws.ext e1;refine(hv _ nR W1 MD).mono ?_;rintro o h3 cF ⟨rfl,c3,W3,hn3,hf3,hk3⟩;simp;simp[tA,g16];rw[aC (by omega) (by omega)];refine⟨kids.length-(j+1),by omega,j+1,c3,rfl,by omega,by simp[g0],by simp[g14],by simp[g15],by simp,?_,by omega,fun b hb=>?_,?_⟩
  ·rw[Y8,←List.append_assoc];exact W3
  ·have:=Ws.n;rw[hf3 b hb,az (by omega)];exact hf b hb
  ·exact hkp.trans hn (((Ext.kp e1 w).trans (by omega) hk3))
 ·have vK:j=kids.length:=by omega
  subst vK;rw[List.take_length]at Ws;simp[lB,g15,g16];exact fg _ _ _ ⟨rfl,c',Ws,hn,hf,hkp⟩
theorem YD{B:Nat}(hB:B≤99000){w n0:Key}{s:St}(hk:s.kids.length≤3)(hv:∀u∈s.kids,∀{c:AV} {bs:List Nat} {h:T ah} {nx:Key},WS w c bs h nx n0→bs.length≤B+80→aH C bz [.ptr w 0,.agg (eU u)] h nx (iM w (bs++FO u) h nx n0)){c:AV}{bs:List Nat}(hl:bs.length≤B){h:T ah}{nx:Key}(Ws:WS w c bs h nx n0) :
  aH C de [.ptr w 0,.agg (eS s)] h nx (iM w (bs++(Mj s.kids.length++s.kids.flatMap FO)) h nx n0):=by
 have rI:=S.r cD;have s1:=kTSu nx;refine H.uX.call ?_;simp[pP];simp[tB,uU,lenS];have e1:=E0 h nx (.cells (eS s) .fix);have b1:ae nx (av nx (Vv (eS s)) h)=Vv (eS s):=by simp
 have W1:=Ws.ext e1;generalize av nx (Vv (eS s)) h=h1 at *;have es3:(eS s)[3]?=some (aK s.kids):=rfl;have hR:=(L7 s.kids).rd h1 nx.succ;have ac:=bA s.kids;simp[tC,b1,es3,↓hR.lnS,rI];refine(Zs S H W1 (by omega) (s.kids.length:Int)).mono ?_;rintro o h2 aU ⟨rfl,c2,W2,Z2,hf2,Pr⟩;have b2:ae nx h2=Vv (eS s):=by have hw:=Ws.hi;rw[Pr nx (by omega) (fun e=>by rw[e]at hw;omega) (fun B hB=>by rw[b1]at hB;cases hB;exact⟨by simp,by simp⟩)];exact b1
 have adl:=xT (s.kids.length:Int);have ha:bs++Mj (s.kids.length:Int)++s.kids.flatMap FO=bs++(Mj (s.kids.length:Int)++s.kids.flatMap FO):=List.append_assoc _ _ _;have hR2:=(L7 s.kids).rd h2 aU;simp;simp[↓hR2.ln,tD,b2,es3];refine abV S H hk hv (bs:=bs++Mj (s.kids.length:Int)) (by rw[Ho];omega) (h:=h2) (nx:=aU) (m:=s.kids.length) ⟨0,c2,by simp,by omega,by simp,by simp,by simp,by simp,by simpa using W2,fa _,fun _ _=>rfl,T7.refl _ _ _⟩ ?_;intro aw h' nx' W;rw[ha]at W;obtain⟨ho,c',W',hx,hf,HF⟩:=W;simp;exact iM.lift e1 Ws.n ⟨rfl,c',W',by omega,fun b hb=>by rw[hf b hb,hf2 b hb],Pr.trans Z2 HF⟩
theorem asI{w n0:Key}{u:U}(hu:u.k=0∨u.k=1∨u.k=2){c:AV}{bs:List Nat}(hl:bs.length≤90000){h:T ah}{nx:Key}(Ws:WS w c bs h nx n0) :
  aH C bz [.ptr w 0,.agg (eU u)] h nx (iM w (bs++FO u) h nx n0):=by
 have key:=fun en hk=>Xd S H Ws (by omega) (s:=stU u) (en:=en) hk;rw[←asb];unfold FO;rw[←List.append_assoc];rcases hu with e|e|e
 ·rw[if_pos e];exact key _ (.inl ⟨e,rfl⟩)
 ·rw[if_neg (by omega),if_pos e];exact key _ (.inr (.inl ⟨e,rfl⟩))
 ·rw[if_neg (by omega),if_neg (by omega)];refine key _ (.inr (.inr ⟨e,fun {c' bs' h' nx'} W' Te=>?_⟩));have:=YD S H (B:=95000) (by omega) (w:=w) (n0:=n0) (s:=stU u) (Nat.zero_le _) (fun u hu=>by cases hu) (by omega) W';simpa[stU]using this
def Wq(s:St):List Nat:=Mj s.k++(if s.k=0 then Mj s.n else if s.k=1 then [if s.n=1 then 1 else 0]else Mj s.kids.length++s.kids.flatMap FO)
theorem aqi{w n0:Key}{s:St}(hs:s.k=0∨s.k=1∨s.k=2)(hk:s.kids.length≤3)(BT:∀u∈s.kids,u.k=0∨u.k=1∨u.k=2){c:AV}{bs:List Nat}(hl:bs.length≤10000){h:T ah}{nx:Key}(Ws:WS w c bs h nx n0) :
  aH C bz [.ptr w 0,.agg (eS s)] h nx (iM w (bs++Wq s) h nx n0):=by
 have key:=fun en hk=>Xd S H Ws (by omega) (s:=s) (en:=en) hk;unfold Wq;rw[←List.append_assoc];rcases hs with e|e|e
 ·rw[if_pos e];exact key _ (.inl ⟨e,rfl⟩)
 ·rw[if_neg (by omega),if_pos e];exact key _ (.inr (.inl ⟨e,rfl⟩))
 ·rw[if_neg (by omega),if_neg (by omega)];refine key _ (.inr (.inr ⟨e,fun {c' bs' h' nx'} W' Te=>?_⟩));exact YD S H (B:=50000) (by omega) hk (fun u hu=>fun {c2 bs2 h2 aU} W2 MD=>asI S H (BT u hu) (by omega) W2) (by omega) W'
end Ln
namespace Ln
open Go.Sx Go
theorem avA{s:St}(h:VM s=true):(s.k=0∨s.k=1∨s.k=2)∧∀u∈s.kids,u.k=0∨u.k=1∨u.k=2:=by
 unfold VM at h;rw[decide_eq_true_eq]at h;rcases h with(⟨h1,h2⟩|⟨h1,_,h2⟩)|⟨h1,_,h2⟩
 ·exact⟨.inl h1,by rw[h2];simp⟩
 ·exact⟨.inr (.inl h1),by rw[h2];simp⟩
 ·refine⟨.inr (.inr h1),fun u hu=>?_⟩;have:=vJ.1 h2 u hu;unfold oi at this;rw[decide_eq_true_eq]at this;omega
def Wn(s:St):Nat:=if VM s=true then Wo (Wq s)else 0
theorem Wr{s:St}(hk:s.kids.length≤3):(Wq s).length≤100:=by
 unfold Wq;have h1:=xT s.k;have h2:=xT s.n;have h3:=xT (s.kids.length:Int);have h4:=S6 s.kids;rw[Ho];split
 ·omega
 ·split
  ·simp;omega
  ·rw[Ho];omega
variable{C:bK}{X:Kn}(S:Std C X)(H:Mk C)
include S H
theorem aeG{s:St}(hk:s.kids.length≤3){h:T ah}{nx:Key}:aH C jM [.agg (eS s)] h nx (fun o h' nx'=>((VM s=true∧∃c',o=.ret (.tuple [c',I 0])∧iB 1 eY c' (Wq s))∨(VM s=false∧o=.ret (.tuple [.nils,I 1])))∧Ext h nx h' nx'):=by
 have rV:=S.r dq;have rc:=S.r bz;have rD:=S.r eL;have s1:=kTSu nx;have s2:=kTSu nx.succ;refine H.Cz.call ?_;simp[zc];simp[Aa,uU,lenS];have e1:=E0 h nx (.cells (eS s) .fix);have b1:ae nx (av nx (Vv (eS s)) h)=Vv (eS s):=by simp
 generalize av nx (Vv (eS s)) h=h1 at *;simp[Ab,b1,lenS,td,rV,y8];refine aH.known (H.Wt s hk _ _) ?_;cases sO:VM s with
 |false=>simp;simp[rq];simp[Ac];exact e1
 |true=>
  obtain⟨k1,k2⟩:=avA sO;simp;simp[rq];simp[Ad];have e2:=e1.trans (E0 h1 nx.succ (.cells [.nils] .fix));have Ws:WS nx.succ .nils [] (av nx.succ (Vv [.nils]) h1) nx.succ.succ nx:=⟨by omega,by omega,by omega,by simp,App.nil 1⟩;have b2:ae nx (av nx.succ (Vv [.nils]) h1)=Vv (eS s):=by rw[az (by omega)];exact b1
  generalize av nx.succ (Vv [.nils]) h1=h2 at *;simp[Ae,b2,lenS,td,rc,y8];refine(aqi S H k1 hk k2 (by simp) Ws).mono ?_;rintro o h3 cF ⟨rfl,c3,W3,hn3,hf3,hk3⟩;rw[List.nil_append]at W3;have e3:Ext h nx h3 cF:=⟨by omega,fun b hb=>by rw[hf3 b hb];exact e2.g b hb⟩;simp;simp[Af,rD];have hel:=Wr hk;refine(ahp H.wK W3 (by omega)).mono ?_;rintro o h4 jw ⟨⟨c4,rfl,h4'⟩,e4⟩;have hz:∀H,aN 9999 c4 H=(c4,H):=fun H=>h4'.vV _ _;have hz8:∀H,aN 8 c4 H=(c4,H):=fun H=>h4'.vV _ _;simp[hz];exact⟨h4',e3.trans e4⟩
theorem alU{s:St}(hk:s.kids.length≤3){h:T ah}{nx:Key}:aH C mT [.agg (eS s)] h nx (fun o h' nx'=>o=.ret (kJ (Wn s))∧Ext h nx h' nx'):=by
 have rE:=S.r jM;have rB:=S.r pE;have s1:=kTSu nx;refine H.Hx.call ?_;simp[EW];simp[EY,uU,lenS];have e1:=E0 h nx (.cells (eS s) .fix);have b1:ae nx (av nx (Vv (eS s)) h)=Vv (eS s):=by simp
 generalize av nx (Vv (eS s)) h=h1 at *;simp[EZ,b1,lenS,td,rE,y8];refine(aeG S H hk).mono ?_;rintro o h2 aU ⟨⟨ho,c,rfl,hc⟩|⟨ho,rfl⟩,e2⟩
 ·have hz:∀H,aN 9999 c H=(c,H):=fun H=>hc.vV _ _;have hh:Wn s=Wo (Wq s):=by unfold Wn;rw[if_pos ho]
  have hel:=Wr hk;rw[hh];simp;simp[wL];simp[E3,rB,hz];refine(ahM S H hc (by omega)).mono ?_;rintro o h3 cF ⟨rfl,e3⟩;generalize Wo (Wq s)=z;simp;exact(e1.trans e2).trans e3
 ·have hh:Wn s=0:=by unfold Wn;rw[if_neg (by rw[ho];simp)]
  rw[hh];simp;simp[wL];simp[E4];exact e1.trans e2
end Ln
namespace Ln
open Go.Sx Go
structure Bk where
 g:Nat
 c:AV
 o:Option Key
def AA(E:List Bk):List (AV×AV):=E.map fun e=>(kJ e.g,e.c)
def PZ(E:List Bk)(g:Nat):Option Bk:=E.find? fun e=>e.g==g
def L3:List Bk→Bk→List Bk
 | [],x=>[x]
 |e ::E,x=>if e.g=x.g then x ::E else e ::L3 E x
theorem adK(orc:iG)(a b:Nat):keyEq orc false (kJ a) (kJ b)=some (Nat.beq a b):=rfl
theorem Qe(orc:iG)(g:Nat):∀E:List Bk,findK orc false (kJ g) (AA E)=some ((PZ E g).map (·.c))
 | []=>rfl
 |e ::E=>by
  show(match keyEq orc false (kJ g) (kJ e.g)with|some true=>some (some e.c)|some false=>findK orc false (kJ g) (AA E)|none=>none)=_;rw[adK];unfold PZ;rw[List.find?_cons];by_cases h:e.g=g
  ·have h1:Nat.beq g e.g=true:=by rw[h];exact Nat.beq_refl g
   have h2:(e.g==g)=true:=by simpa using h
   rw[h1,h2];rfl
  ·have h1:Nat.beq g e.g=false:=by
    cases hb:Nat.beq g e.g with
    |false=>rfl
    |true=>exact absurd (o9 hb).symm h
   have h2:(e.g==g)=false:=by simpa using h
   rw[h1,h2];exact Qe orc g E
theorem adL(orc:iG)(x:Bk):∀E:List Bk,setK orc false (kJ x.g) x.c (AA E)=some (AA (L3 E x))
 | []=>rfl
 |e ::E=>by
  show(match keyEq orc false (kJ x.g) (kJ e.g)with|some true=>some ((kJ x.g,x.c) ::AA E)|some false=>(match setK orc false (kJ x.g) x.c (AA E)with|some r=>some ((kJ e.g,e.c) ::r)|none=>none)|none=>none)=_;rw[adK];by_cases h:e.g=x.g
  ·have h1:Nat.beq x.g e.g=true:=by rw[h];exact Nat.beq_refl _
   rw[h1];unfold L3;rw[if_pos h];rfl
  ·have h1:Nat.beq x.g e.g=false:=by
    cases hb:Nat.beq x.g e.g with
    |false=>rfl
    |true=>exact absurd (o9 hb).symm h
   rw[h1];unfold L3;rw[if_neg h,adL orc x E];rfl
theorem aji{E:List Bk}{g:Nat}{e:Bk}(h:PZ E g=some e):e∈E∧e.g=g:=by unfold PZ at h;exact⟨List.mem_of_find?_eq_some h,by simpa using List.find?_some h⟩
theorem ae7{E:List Bk}{g:Nat}(h:PZ E g=none):∀e∈E,e.g≠g:=by unfold PZ at h;rw[List.find?_eq_none]at h;intro e he hg;exact h e he (by simpa using hg)
theorem Qf{x y:Bk}:∀{E:List Bk},(E.map (·.g)).Nodup→(y∈L3 E x↔y=x∨(y∈E∧y.g≠x.g))
 | [],_=>by simp[L3]
 |e ::E,hn=>by
  rw[Zw,List.nodup_cons]at hn;unfold L3;by_cases h:e.g=x.g
  ·rw[if_pos h,K3,K3];constructor
   ·rintro(r|r)
    ·exact .inl r
    ·exact .inr ⟨.inr r,fun hg=>hn.1 (Rh.2 ⟨y,r,by rw[hg,h]⟩)⟩
   ·rintro(r|⟨r|r,hg⟩)
    ·exact .inl r
    ·exact absurd (by rw[r];exact h) hg
    ·exact .inr r
  ·rw[if_neg h,K3,K3,Qf hn.2];constructor
   ·rintro(r|r|⟨r,hg⟩)
    ·exact .inr ⟨.inl r,by rw[r];exact h⟩
    ·exact .inl r
    ·exact .inr ⟨.inr r,hg⟩
   ·rintro(r|⟨r|r,hg⟩)
    ·exact .inr (.inl r)
    ·exact .inl r
    ·exact .inr (.inr ⟨r,hg⟩)
theorem Qg{x:Bk}:∀{E:List Bk},(E.map (·.g)).Nodup→((L3 E x).map (·.g)).Nodup
 | [],_=>by simp[L3]
 |e ::E,hn=>by
  have hn':=hn;rw[Zw,List.nodup_cons]at hn;unfold L3;by_cases h:e.g=x.g
  ·rw[if_pos h,Zw,List.nodup_cons,←h];exact hn
  ·rw[if_neg h,Zw,List.nodup_cons];refine⟨fun hm=>?_,Qg hn.2⟩;obtain⟨y,hy,hg⟩:=Rh.1 hm;rcases (Qf hn.2).1 hy with rfl|⟨hy,_⟩
   ·exact h hg.symm
   ·exact hn.1 (Rh.2 ⟨y,hy,hg⟩)
def Je(c:Cf St):Nat:=NA (Wn c.2) (Q5 (c.1:Int))
def MP(l:List (Cf St))(g:Nat):List Nat:=(List.range l.length).filter fun j=>(l[j]?.map Je)==some g
def RM(l:List (Cf St))(g:Nat):List Int:=(MP l g).map fun j:Nat=>(j:Int)
theorem UN{l:List (Cf St)}{g j:Nat}:j∈MP l g↔∃c,l[j]?=some c∧Je c=g:=by
 unfold MP;rw[List.mem_filter,List.mem_range];constructor
 ·rintro⟨h1,h2⟩;rw[xF h1]at h2;exact⟨_,xF h1,by simpa using h2⟩
 ·rintro⟨c,h1,h2⟩;obtain⟨h3,h4⟩:=List.getElem?_eq_some_iff.1 h1;refine⟨h3,?_⟩;rw[h1];simp[h2]
theorem ajj(l:List (Cf St))(x:Cf St)(g:Nat):MP (l ++ [x]) g=MP l g++(if Je x=g then [l.length]else []):=by
 unfold MP;rw[Ho,List.length_singleton,List.range_succ,List.filter_append];congr 1
 ·refine List.filter_congr fun j hj=>?_;rw[List.getElem?_append_left (List.mem_range.1 hj)]
 ·by_cases h:Je x=g
  ·simp[h]
  ·simp[h]
theorem ajk(l:List (Cf St))(x:Cf St)(g:Nat):RM (l ++ [x]) g=RM l g++(if Je x=g then [(l.length:Int)]else []):=by unfold RM;rw[ajj,List.map_append];split<;>simp
theorem aiJ(l:List (Cf St))(g:Nat):(MP l g).length≤l.length:=by unfold MP;refine Nat.le_trans (List.length_filter_le _ _) ?_;rw[List.length_range];exact fa _
theorem UO(l:List (Cf St))(g:Nat):(RM l g).length=(MP l g).length:=List.length_map ..
structure RgA(X:Kn)(i:Nat)(os:List Op)(cO c3:AV)(bj n0:Key)(h0:T ah)(tm:T AV)(h:T ah)(nx:Key):Prop where
 k3:ae (K 3) tm=some c3
 cu:ae (K 11) tm=some (.ptr bj 0)
 vj:ae bj h=Vv (wB X i cO (bZ i))
 lt:bj.toNat<nx.toNat
 e:Ext h0 n0 h nx
theorem RgA.ext{X:Kn}{i:Nat}{os:List Op}{cO c3:AV}{bj n0:Key}{h0:T ah}{tm aw:T AV}{h h':T ah}{nx nx':Key}(A:RgA X i os cO c3 bj n0 h0 tm h nx)(e:Ext h nx h' nx')(h3:ae (K 3) aw=ae (K 3) tm)(h11:ae (K 11) aw=ae (K 11) tm):RgA X i os cO c3 bj n0 h0 aw h' nx':=
 ⟨h3.trans A.k3,h11.trans A.cu,by rw[e.g bj A.lt];exact A.vj,by have:=e.n;have:=A.lt;omega,A.e.trans e⟩
variable{C:bK}{X:Kn}(S:Std C X)
include S
end Ln
namespace Ln
open Go.Sx Go
variable{C:bK}{X:Kn}(S:Std C X)
include S
end Ln
namespace Ln
open Go.Sx Go
variable{C:bK}{X:Kn}(S:Std C X)
include S
end Ln
namespace Go.Sx
variable{C:bK}{Q:cH}{ds:List Key}{aq:List (Nat×Key×ah)}{L:List aL}{tm:T AV}{h:T ah}{nx d x y:Key}{n:Nat}
theorem Rd.avK{z:Nat}{c:AV}{α:Type}{enc:α→List AV}{us:List α}{nx' k1 k2 d1 d2:Key}{a b:Nat}(F:Flat z enc)(g:Rd z c (ag enc us) us.length h nx'){i:Nat}(hi:i<us.length)(h1:ae k1 tm=some c)(h2:ae k2 tm=some (I i)) :
  wpS C Q ⟨ds,[]⟩ (.L a ⟨some d1,.indexL z (.t k1) (.t k2),none⟩ ::.L b ⟨some d2,.load true z (.t d1),none⟩ ::L) aq tm h nx=wpS C Q ⟨ds,[]⟩ L aq (av d2 (some (.agg (enc us[i]))) (av d1 (some (GO z i c)) tm)) h nx:=g.ixS F hi h1 h2 rfl rfl
theorem ae6{o:BinOp}{a b:PX}{v:AV}(hl:lightOp C.orc (.bin o a b) tm h=some v):wpS C Q ⟨ds,[]⟩ (.L n ⟨some d,.bin o a b,none⟩ ::L) aq tm h nx=wpS C Q ⟨ds,[]⟩ L aq (av d (some v) tm) h nx:=by simp[hl,-lightOp]
end Go.Sx
namespace Ln
open Go.Sx Go
theorem amw{C:bK}{Q:cH}{ds:List Key}{aq:List (Nat×Key×ah)}{L:List aL}{tm:T AV}{h:T ah}{nx d x y:Key}{n:Nat}(a b:Nat)(h1:ae x tm=some (kJ a))(h2:ae y tm=some (kJ b)):wpS C Q ⟨ds,[]⟩ (.L n ⟨some d,.bin .xor (.t x) (.t y),none⟩ ::L) aq tm h nx=wpS C Q ⟨ds,[]⟩ L aq (av d (some (kJ (NA a b))) tm) h nx:=
 ae6 (by simp only[lightOp,at_t,h1,h2];rfl)
structure RB(n0:Key)(l:List (Cf St))(br bm:Key)(cC cS:AV)(oC:Option Key)(E:List Bk)(h:T ah)(nx:Key):Prop where
 xG:ae br h=Vv [cC,cS,.map bm]
 map:ae bm h=some (.map (AA E))
 Wv:br.toNat<nx.toNat
 bmn:bm.toNat<nx.toNat
 C:Gr 5 cC (ag eC l) l.length h nx oC
 B:∀e∈E,Gr 1 e.c (ag eI (RM l e.g)) (RM l e.g).length h nx e.o
 nd:(E.map (·.g)).Nodup
 cov:∀c∈l,∃e∈E,e.g=Je c
 aeI:∀e∈E,∀b,e.o=some b→oC≠some b
 sep:∀e∈E,∀f∈E,e.g≠f.g→∀b,e.o=some b→f.o≠some b
 ow:∀b,(oC=some b∨∃e∈E,e.o=some b)→b≠br∧b≠bm∧n0.toNat≤b.toNat
 cs:cS.aP=true∧cS.cells=[cS]
 bb:br≠bm∧n0.toNat≤br.toNat∧n0.toNat≤bm.toNat
theorem RB.ext{n0:Key}{l:List (Cf St)}{br bm:Key}{cC cS:AV}{oC:Option Key}{E:List Bk}{h h':T ah}{nx nx':Key}(R:RB n0 l br bm cC cS oC E h nx)(e:Ext h nx h' nx'):RB n0 l br bm cC cS oC E h' nx':=
 ⟨by rw[e.g _ R.Wv];exact R.xG,by rw[e.g _ R.bmn];exact R.map,by have:=R.Wv;have:=e.n;omega,by have:=R.bmn;have:=e.n;omega,R.C.ext e,fun x hx=>(R.B x hx).ext e,R.nd,R.cov,R.aeI,R.sep,R.ow,R.cs,R.bb⟩
theorem aiH{n0:Key}{l:List (Cf St)}{br bm:Key}{cC cS:AV}{oC:Option Key}{E:List Bk}{h:T ah}{nx:Key}(R:RB n0 l br bm cC cS oC E h nx){g:Nat}(hg:PZ E g=none):MP l g=[]:=by refine List.eq_nil_iff_forall_not_mem.2 fun j hj=>?_;obtain⟨c,h1,h2⟩:=UN.1 hj;obtain⟨e,he,h3⟩:=R.cov c (List.mem_of_getElem? h1);exact ae7 hg e he (by rw[h3,h2])
def AdI(l:List (Cf St))(x:Cf St)(g:Nat)(Q7:AV)(br b3:Key)(h:T ah)(nx:Key)(m:Nat)(aw:T AV)(h':T ah)(nx':Key):Prop:=∃q:Nat,m=(MP l g).length-q∧q≤(MP l g).length∧ae (K 0) aw=some (.ptr br 0)∧ae (K 3) aw=some (.ptr b3 0)∧ae (K 5) aw=some (kJ g)∧ae (K 20) aw=some Q7∧ae (K 21) aw=some (I (MP l g).length)∧ae (K 22) aw=some (I q)∧Ext h nx h' nx'∧(∀p (hp:p<(MP l g).length),p<q→l[(MP l g)[p]]?≠some x)
variable{C:bK}{X:Kn}(S:Std C X)(H:Mk C)
include S H
theorem aiI{n0:Key}{l:List (Cf St)}(hl:l.length≤10000)(BI:∀y∈l,y.2.kids.length≤3){x:Cf St}(hx:x.2.kids.length≤3){g:Nat}{br bm b3:Key}{cC cS Q7:AV}{oC:Option Key}{E:List Bk}{h:T ah}{nx:Key}(R:RB n0 l br bm cC cS oC E h nx)(h20:Rd 1 Q7 (ag eI (RM l g)) (RM l g).length h nx)(hb3:ae b3 h=Vv (eC x))(b3n:b3.toNat<nx.toNat){Q:cH}{m:Nat}{tm:T AV}{h1:T ah}{bF:Key}(A:AdI l x g Q7 br b3 h nx m tm h1 bF)
  (asa:∀aw h' nx' j,l[j]?=some x→ae (K 4) aw=some (I (j:Nat))→Ext h nx h' nx'→Q .ret aw h' nx')
  (DW:∀aw h' nx',ae (K 0) aw=some (.ptr br 0)→ae (K 3) aw=some (.ptr b3 0)→ae (K 5) aw=some (kJ g)→Ext h nx h' nx'→(∀j∈MP l g,l[j]?≠some x)→Q .norm aw h' nx') :
  W C (.loop gy) (aA 0 Q) tm h1 bF:=by
 have rC:=S.r eN;have Gp:=UO l g;have hle:=aiJ l g;refine W.cM (AdI l x g Q7 br b3 h nx) A ?_;rintro m dD h2 aU ⟨q,rfl,hq,g0,g3,g5,g20,g21,g22,e2,pF⟩;have R2:=R.ext e2;have amx:=h20.ext e2;have aDb:ae b3 h2=Vv (eC x):=by rw[e2.g _ b3n];exact hb3
 refine W.of ?_;simp[gy];by_cases hql:q<(MP l g).length
 ·have hqi:(q:Int)<(MP l g).length:=by omega
  have hqs:q<(RM l g).length:=by omega
  have NO:(RM l g)[q]=((MP l g)[q]:Nat):=by simp[RM]
  obtain⟨cj,hcj,hgj⟩:=UN.1 (Mg hql);obtain⟨bG,aDc⟩:=List.getElem?_eq_some_iff.1 hcj;have hRC:=R2.C.rd;have aDd:l[(MP l g)[q]]?≠some x→∀p (hp:p<(MP l g).length),p<q+1→l[(MP l g)[p]]?≠some x:=fun h p hp hpq=>by
   by_cases e:p=q
   ·subst e;exact h
   ·exact pF p hp (by omega)
  simp[j8,g21,g22,hqi];simp only[qI,Wc,aht,ahu,Wf,ahv,Wg,ahw,ahx,Wd,We,ahy,ahz,ahA,ahB];simp[↓amx.ixI hqs,g20,g22];rw[NO];generalize hj:(MP l g)[q]=j at *;have hkj:=BI cj (List.mem_of_getElem? hcj);have Hd:=P0 S (a:=ofC cj) (b:=ofC x) hkj hx h2 aU;rw[aha,aha]at Hd;simp[↓hRC.avK dE bG,qJ,g0,g3,R2.xG,aDb,mh,wv,rC,zQ,aDc];refine Hd.mono ?_;rintro o h3 cF ⟨rfl,e3⟩;simp;by_cases hz:W8 (ofC cj) (ofC x)=0
  ·have hcx:cj=x:=by
    have:=congrArg toC (adg.1 hz)
    rwa [acE,acE]at this
   subst hcx;simp[hz];simp[qK];exact asa _ _ _ j hcj (by simp) (e2.trans e3)
  ·have hcx:cj≠x:=fun e=>hz (adg.2 (by rw[e]));simp[hz];simp[qL,g22];rw[aC (by omega) (by omega)];exact⟨(MP l g).length-(q+1),by omega,q+1,rfl,by omega,by simp[g0],by simp[g3],by simp[g5],by simp[g20],by simp[g21],by simp,e2.trans e3,aDd (by rw[hcj];exact fun e=>hcx (Option.some.inj e))⟩
 ·have hqe:q=(MP l g).length:=by omega
  subst hqe;simp[j8,g21,g22];refine DW _ _ _ (by simp[g0]) (by simp[g3]) (by simp[g5]) e2 ?_;intro j hj;obtain⟨p,hp,rfl⟩:=List.getElem_of_mem hj;exact pF p hp hp
end Ln
namespace Ln
open Go.Sx Go
structure Buk(l:List (Cf St))(E:List Bk)(g:Nat)(m:Option AV)(Q7:AV)(Q8:Option Key)(h:T ah)(nx:Key):Prop where
 m:(m=none∧Q7=.nils)∨m=some Q7
 gr:Gr 1 Q7 (ag eI (RM l g)) (RM l g).length h nx Q8
 own:∀b,Q8=some b→∃e∈E,e.g=g∧e.o=some b
theorem RB.buk{n0:Key}{l:List (Cf St)}{br bm:Key}{cC cS:AV}{oC:Option Key}{E:List Bk}{h:T ah}{nx:Key}(R:RB n0 l br bm cC cS oC E h nx)(g:Nat):∃Q7 Q8,Buk l E g ((PZ E g).map (·.c)) Q7 Q8 h nx:=by
 cases hg:PZ E g with
 |none=>
  refine⟨.nils,none,.inl ⟨rfl,rfl⟩,?_,by simp⟩;have:RM l g=[]:=by unfold RM;rw[aiH R hg];rfl
  rw[this];exact Gr.nil _ _ _
 |some e=>obtain⟨h1,h2⟩:=aji hg;refine⟨e.c,e.o,.inr rfl,by have:=R.B e h1;rw[h2]at this;exact this,fun b hb=>⟨e,h1,h2,hb⟩⟩
theorem Buk.ext{l:List (Cf St)}{E:List Bk}{g:Nat}{m:Option AV}{Q7:AV}{Q8:Option Key}{h h':T ah}{nx nx':Key}(B:Buk l E g m Q7 Q8 h nx)(e:Ext h nx h' nx'):Buk l E g m Q7 Q8 h' nx':=⟨B.m,B.gr.ext e,B.own⟩
variable{C:bK}{X:Kn}(S:Std C X)(H:Mk C)
theorem asA{n0:Key}{l:List (Cf St)}(hl:l.length≤10000){g:Nat}{br bm:Key}{cC cS Q7:AV}{oC Q8:Option Key}{E:List Bk}{h:T ah}{nx:Key}(R:RB n0 l br bm cC cS oC E h nx)(B:Buk l E g ((PZ E g).map (·.c)) Q7 Q8 h nx){Q:cH}{tm:T AV}(g0:ae (K 0) tm=some (.ptr br 0))(g5:ae (K 5) tm=some (kJ g))
  (hQ:∀aw c55 o55 h2 aU,ae (K 0) aw=ae (K 0) tm→ae (K 3) aw=ae (K 3) tm→Gr 1 c55 (ag eI (RM l g ++ [(l.length:Int)])) (RM l g ++ [(l.length:Int)]).length h2 aU o55→qw h nx Q8 h2 aU o55→Q .norm aw (av bm (some (.map (AA (L3 E ⟨g,c55,o55⟩)))) h2) aU) :
  iH C (.staged dm ⟨[K 38,K 39,K 40,K 41,K 42,K 43,K 44,K 45,K 46,K 47,K 48,K 49,K 50,K 51,K 52,K 53,K 54,K 55],[]⟩) Q tm h nx:=by
 have s1:=kTSu nx;have hfk:=Qe C.orc g E;have e1:=E0 h nx (.cells [I (l.length:Int)] .fix);have Gp:=UO l g;have hle:=aiJ l g;obtain⟨c55,h2,aU,o55,ha,G55,F⟩:=(B.gr.ext e1).IJ CB (by decide) (by decide) (by omega) (l.length:Int);have F15:=(qw.qD e1 Q8).trans F;have hej:eI (l.length:Int)=[I (l.length:Int)]:=rfl;rw[hej]at ha;have hR:=R.C.rd;have ob:∀b:Key,b.toNat<nx.toNat→(∀e∈E,e.o≠some b)→ae b h2=ae b h:=fun b hb ho=>F15.g b hb (fun e=>by obtain⟨x,hx,_,hxo⟩:=B.own b e;exact ho x hx hxo);have br2:ae br h2=Vv [cC,cS,.map bm]:=by rw[ob br R.Wv (fun e he ho=>(R.ow br (.inr ⟨e,he,ho⟩)).1 rfl)];exact R.xG
 have Rz:ae bm h2=some (.map (AA E)):=by rw[ob bm R.bmn (fun e he ho=>(R.ow bm (.inr ⟨e,he,ho⟩)).2.1 rfl)];exact R.map
 have kc:=G55.cell;have OD:=adL C.orc ⟨g,c55,o55⟩ E;simp only at OD;have fin:∀aw,ae (K 0) aw=ae (K 0) tm→ae (K 3) aw=ae (K 3) tm→Q .norm aw (av bm (some (.map (AA (L3 E ⟨g,c55,o55⟩)))) h2) aU:=fun aw a b=>hQ aw c55 o55 h2 aU a b G55 F15;have xG:=R.xG;have mp:=R.map;have kbq:AV.beq (.map bm) (.map bm)=true:=beq_refl _ rfl;rcases B.m with⟨hm,rfl⟩|hm
 ·rw[hm]at hfk;simp[-appendTo,-findK,-setK,dm,g0,g5,xG,mp,hfk,↓hR.lnS,ha,br2,Rz,OD];exact⟨kbq,fin _ (by simp) (by simp)⟩
 ·rw[hm]at hfk;simp[-appendTo,-findK,-setK,dm,g0,g5,xG,mp,hfk,↓hR.lnS,ha,br2,Rz,OD];exact⟨kbq,fin _ (by simp) (by simp)⟩
structure MZ(n0:Key)(l:List (Cf St))(x:Cf St)(br bm:Key)(cS:AV)(oC:Option Key)(E:List Bk)(h:T ah)(nx:Key)(o:Out)(h':T ah)(nx':Key):Prop where
 r:∃(j:Nat) (cC':AV) (Lz:Option Key) (E':List Bk),(dp l x)[j]?=some x∧o=.ret (I (j:Nat))∧RB n0 (dp l x) br bm cC' cS Lz E' h' nx'∧(∀b,(Lz=some b∨∃e∈E',e.o=some b)→(oC=some b∨∃e∈E,e.o=some b)∨nx.toNat≤b.toNat)
 n:nx.toNat≤nx'.toNat
 g:∀b:Key,b.toNat<nx.toNat→b≠br→b≠bm→oC≠some b→(∀e∈E,e.o≠some b)→ae b h'=ae b h
end Ln
namespace Ln
open Go.Sx Go
variable{C:bK}{X:Kn}(S:Std C X)(H:Mk C)
theorem anm{n0:Key}{l:List (Cf St)}(hl:l.length≤10000){x:Cf St}(ZO:x∉l){br bm b3:Key}{cC cS Q7:AV}{oC Q8:Option Key}{E:List Bk}{h:T ah}{nx:Key}(hn0:n0.toNat≤nx.toNat)(R:RB n0 l br bm cC cS oC E h nx)(B:Buk l E (Je x) ((PZ E (Je x)).map (·.c)) Q7 Q8 h nx)(hb3:ae b3 h=Vv (eC x))(b3n:b3.toNat<nx.toNat)(b3o:b3≠br∧b3≠bm∧oC≠some b3∧∀e∈E,e.o≠some b3){R':Out→T ah→Key→Prop}{tm:T AV}(g0:ae (K 0) tm=some (.ptr br 0))(g3:ae (K 3) tm=some (.ptr b3 0))(g5:ae (K 5) tm=some (kJ (Je x)))
  (hR:∀h' nx',MZ n0 l x br bm cS oC E h nx (.ret (I l.length)) h' nx'→R' (.ret (I l.length)) h' nx') :
  iH C (.seq (.staged dm ⟨[K 38,K 39,K 40,K 41,K 42,K 43,K 44,K 45,K 46,K 47,K 48,K 49,K 50,K 51,K 52,K 53,K 54,K 55],[]⟩) (.seq (.staged gz ⟨[K 56,K 57,K 58,K 59,K 60,K 61,K 62,K 63,K 64,K 65],[]⟩) (.seq (.ops fL) .ret))) (dF [.tmp (K 4)] R') tm h nx:=by
 simp only[fH];refine asA (C:=C) hl R B g0 g5 (fun aW c55 o55 h2 aU p0 p3 G55 F=>?_);rw[g0]at p0;rw[g3]at p3;have n2:=F.n;have s2:=kTSu aU;have aMj:∀b:Key,Q8=some b→b.toNat<nx.toNat:=fun b hb=>B.gr.lt b hb;have aj8:∀b:Key,o55=some b→Q8=some b∨nx.toNat≤b.toNat:=fun b hb=>by
  rcases F.o with e|⟨y,e,hy⟩
  ·rw[e]at hb;exact .inl hb
  ·rw[e]at hb;cases hb;exact .inr hy
 have ah9:∀b:Key,Q8=some b→b≠br∧b≠bm∧oC≠some b:=fun b hb=>by obtain⟨e,he,_,ho⟩:=B.own b hb;have:=R.ow b (.inr ⟨e,he,ho⟩);exact⟨this.1,this.2.1,R.aeI e he b ho⟩
 have asP:∀b:Key,o55=some b→b≠br∧b≠bm∧oC≠some b:=fun b hb=>by
  rcases aj8 b hb with h1|h1
  ·exact ah9 b h1
  ·have h2:=R.Wv;have h3:=R.bmn;exact⟨fun e=>by rw[e]at h1;omega,fun e=>by rw[e]at h1;omega,fun e=>by have:=R.C.lt b e;omega⟩
 have k2:∀b:Key,b.toNat<nx.toNat→Q8≠some b→ae b h2=ae b h:=fun b hb ho=>F.g b hb ho;generalize hE:L3 E ⟨Je x,c55,o55⟩=E' at *;have k3:∀b:Key,b≠bm→ae b (av bm (some (.map (AA E'))) h2)=ae b h2:=fun b hb=>aR _ _ _ _ hb;have br3:ae br (av bm (some (.map (AA E'))) h2)=Vv [cC,cS,.map bm]:=by rw[k3 br R.bb.1,k2 br R.Wv (fun e=>(ah9 br e).1 rfl)];exact R.xG
 have b33:ae b3 (av bm (some (.map (AA E'))) h2)=Vv (eC x):=by rw[k3 b3 b3o.2.1,k2 b3 b3n (fun e=>by obtain⟨y,hy,_,ho⟩:=B.own b3 e;exact b3o.2.2.2 y hy ho)];exact hb3
 have bm3:ae bm (av bm (some (.map (AA E'))) h2)=some (.map (AA E')):=by simp
 have aEf:∀b:Key,oC=some b→ae b (av bm (some (.map (AA E'))) h2)=ae b h:=fun b hb=>by have:=R.ow b (.inl hb);rw[k3 b this.2.1,k2 b (R.C.lt b hb) (fun e=>(ah9 b e).2.2 hb)]
 have G3:Gr 5 cC (ag eC l) l.length (av bm (some (.map (AA E'))) h2) aU oC:=R.C.cy n2 aEf;have asR:Gr 1 c55 (ag eI (RM l (Je x) ++ [(l.length:Int)])) (RM l (Je x) ++ [(l.length:Int)]).length (av bm (some (.map (AA E'))) h2) aU o55:=G55.cy (fa _) fun b hb=>k3 b (asP b hb).2.1;have cG:∀b:Key,b.toNat<nx.toNat→b≠bm→Q8≠some b→ae b (av bm (some (.map (AA E'))) h2)=ae b h:=fun b hb hm ho=>by rw[k3 b hm,k2 b hb ho]
 generalize av bm (some (.map (AA E'))) h2=h3 at *;have e4:=E0 h3 aU (.cells (eC x) .fix);obtain⟨c63,h5,Gv,Lz,ha,G5,F5⟩:=(G3.ext e4).IJ dE (by decide) (by decide) (by omega) x;have F35:=(qw.qD e4 oC).trans F5;have n5:=F35.n;have br5:ae br h5=Vv [cC,cS,.map bm]:=by rw[F35.g br (by have:=R.Wv;omega) (fun e=>(R.ow br (.inl e)).1 rfl)];exact br3
 have kc:=G3.cell;have kc':=G5.cell;simp;simp[-appendTo,gz,p0,p3,br3,b33,mh,wv,zP,acZ,Pv,ha,br5,kc.1,kc.2,kc'.1,kc'.2,R.cs.1,R.cs.2];have ho5:∀b:Key,Lz=some b→oC=some b∨aU.toNat≤b.toNat:=fun b hb=>by
  rcases F35.o with e|⟨y,e,hy⟩
  ·rw[e]at hb;exact .inl hb
  ·rw[e]at hb;cases hb;exact .inr hy
 have Wv:=R.Wv;have bmn:=R.bmn;have aEh:Lz≠some br:=fun e=>by
  rcases ho5 br e with h1|h1
  ·exact(R.ow br (.inl h1)).1 rfl
  ·omega
 have k6:∀b:Key,b.toNat<aU.toNat→b≠br→oC≠some b→ae b (av br (Vv [c63,cS,.map bm]) h5)=ae b h3:=fun b hb h1 h2=>by rw[aR _ _ _ _ h1,F35.g b hb h2]
 have br6:ae br (av br (Vv [c63,cS,.map bm]) h5)=Vv [c63,cS,.map bm]:=by simp
 have G6:Gr 5 c63 (ag eC (l ++ [x])) (l ++ [x]).length (av br (Vv [c63,cS,.map bm]) h5) Gv Lz:=G5.cy (fa _) fun b hb=>aR _ _ _ _ (fun e=>aEh (by rw[hb,e]));generalize av br (Vv [c63,cS,.map bm]) h5=h6 at *;have hR6:=G6.rd;have ZA:(l ++ [x]).length=l.length+1:=by simp
 rw[ZA]at hR6;have hw1:bP .i64 (l.length:Int)=(l.length:Int):=aC (by omega) (by omega);simp[↓hR6.ln,fL,p0,br6,hw1];have my:dp l x=l ++ [x]:=by unfold dp;rw[if_neg ZO]
 have DW:∀y:Bk,y∈E'↔y=⟨Je x,c55,o55⟩∨(y∈E∧y.g≠Je x):=fun y=>by rw[←hE];exact Qf R.nd
 have oCn:∀b:Key,Lz=some b→oC=some b∨nx.toNat≤b.toNat:=fun b hb=>by
  rcases ho5 b hb with h1|h1
  ·exact .inl h1
  ·exact .inr (by omega)
 have axr:∀e∈E,e.g≠Je x→∀b,e.o=some b→ae b h6=ae b h:=fun e he hg b hb=>by have By:=(R.B e he).lt b hb;have h1:=R.ow b (.inr ⟨e,he,hb⟩);have h2:=R.aeI e he b hb;rw[k6 b (by omega) h1.1 h2,cG b By h1.2.1 (fun e'=>by obtain⟨y,hy,hyg,hyo⟩:=B.own b e';exact R.sep e he y hy (by rw[hyg];exact hg) b hb hyo)]
 refine hR _ _ ⟨⟨l.length,c63,Lz,E',by rw[my];simp,rfl,?_,?_⟩,by omega,?_⟩
 ·rw[my];refine⟨br6,?_,by omega,by omega,G6,?_,by rw[←hE];exact Qg R.nd,?_,?_,?_,?_,R.cs,R.bb⟩
  ·rw[k6 bm (by omega) (Ne.symm R.bb.1) (fun e=>(R.ow bm (.inl e)).2.1 rfl)];exact bm3
  ·intro e he;rw[ajk];rcases (DW e).1 he with rfl|⟨he,hg⟩
   ·rw[if_pos rfl];refine asR.cy n5 fun b hb=>?_;have h1:=asP b hb;have h2:b.toNat<aU.toNat:=asR.lt b hb;rw[k6 b h2 h1.1 h1.2.2]
   ·rw[if_neg (fun e'=>hg e'.symm),List.append_nil];exact(R.B e he).cy (by omega) (axr e he hg)
  ·intro c hc;rcases List.mem_append.1 hc with hc|hc
   ·obtain⟨e,he,h1⟩:=R.cov c hc;by_cases hg:e.g=Je x
    ·exact⟨_,(DW _).2 (.inl rfl),by show Je x=Je c;rw[←hg,h1]⟩
    ·exact⟨e,(DW e).2 (.inr ⟨he,hg⟩),h1⟩
   ·simp at hc;subst hc;exact⟨_,(DW _).2 (.inl rfl),rfl⟩
  ·intro e he b hb hC;rcases (DW e).1 he with rfl|⟨he,hg⟩
   ·rcases ho5 b hC with h1|h1
    ·exact(asP b hb).2.2 h1
    ·have:b.toNat<aU.toNat:=asR.lt b hb;omega
   ·have By:=(R.B e he).lt b hb;rcases oCn b hC with h1|h1
    ·exact R.aeI e he b hb h1
    ·omega
  ·intro e he f hf bU b hb hfo;rcases (DW e).1 he with rfl|⟨he,hg⟩
   ·rcases (DW f).1 hf with rfl|⟨hf,hgf⟩
    ·exact bU rfl
    ·have By:=(R.B f hf).lt b hfo;rcases aj8 b hb with h1|h1
     ·obtain⟨y,hy,hyg,hyo⟩:=B.own b h1;exact R.sep f hf y hy (by rw[hyg];exact hgf) b hfo hyo
     ·omega
   ·rcases (DW f).1 hf with rfl|⟨hf,hgf⟩
    ·have By:=(R.B e he).lt b hb;rcases aj8 b hfo with h1|h1
     ·obtain⟨y,hy,hyg,hyo⟩:=B.own b h1;exact R.sep e he y hy (by rw[hyg];exact hg) b hb hyo
     ·omega
    ·exact R.sep e he f hf bU b hb hfo
  ·intro b hb;rcases hb with hb|⟨e,he,hb⟩
   ·rcases oCn b hb with h1|h1
    ·exact R.ow b (.inl h1)
    ·exact⟨fun e=>by rw[e]at h1;omega,fun e=>by rw[e]at h1;omega,by omega⟩
   ·rcases (DW e).1 he with rfl|⟨he,hg⟩
    ·rcases aj8 b hb with h1|h1
     ·obtain⟨y,hy,_,hyo⟩:=B.own b h1;exact R.ow b (.inr ⟨y,hy,hyo⟩)
     ·exact⟨fun e=>by rw[e]at h1;omega,fun e=>by rw[e]at h1;omega,by omega⟩
    ·exact R.ow b (.inr ⟨e,he,hb⟩)
 ·intro b hb;rcases hb with hb|⟨e,he,hb⟩
  ·rcases oCn b hb with h1|h1
   ·exact .inl (.inl h1)
   ·exact .inr h1
  ·rcases (DW e).1 he with rfl|⟨he,hg⟩
   ·rcases aj8 b hb with h1|h1
    ·obtain⟨y,hy,_,hyo⟩:=B.own b h1;exact .inl (.inr ⟨y,hy,hyo⟩)
    ·exact .inr h1
   ·exact .inl (.inr ⟨e,he,hb⟩)
 ·intro b hb h1 h2 h4 h5;rw[k6 b (by omega) h1 h4,cG b hb h2 (fun e=>by obtain⟨y,hy,_,hyo⟩:=B.own b e;exact h5 y hy hyo)]
end Ln
namespace Ln
open Go.Sx Go
theorem MZ.lift{n0:Key}{l:List (Cf St)}{x:Cf St}{br bm:Key}{cS:AV}{oC:Option Key}{E:List Bk}{h h1 h':T ah}{nx bF nx':Key}{o:Out}(e:Ext h nx h1 bF)(A:MZ n0 l x br bm cS oC E h1 bF o h' nx'):MZ n0 l x br bm cS oC E h nx o h' nx':=by
 have n:=e.n;obtain⟨⟨j,cC',Lz,E',a1,a2,a3,a4⟩,a5,a6⟩:=A;refine⟨⟨j,cC',Lz,E',a1,a2,a3,fun b hb=>?_⟩,by omega,fun b hb h1 h2 h3 h4=>by rw[a6 b (by omega) h1 h2 h3 h4,e.g b hb]⟩;rcases a4 b hb with h1|h1
 ·exact .inl h1
 ·exact .inr (by omega)
variable{C:bK}{X:Kn}(S:Std C X)(H:Mk C)
include S H
theorem ahU{n0:Key}{l:List (Cf St)}(hl:l.length≤10000)(BI:∀y∈l,y.2.kids.length≤3){x:Cf St}(hx:x.2.kids.length≤3){br bm:Key}{cC cS:AV}{oC:Option Key}{E:List Bk}{h:T ah}{nx:Key}(hn0:n0.toNat≤nx.toNat)(R:RB n0 l br bm cC cS oC E h nx) :
  aH C cV [.ptr br 0,.agg (eC x)] h nx (MZ n0 l x br bm cS oC E h nx):=by
 have rH:=S.r mT;have s1:=kTSu nx;refine S.tv.call ?_;simp[nX];simp[qU,zP,mh];have e1:=E0 h nx (.cells (eC x) .fix);have b1:ae nx (av nx (Vv (eC x)) h)=Vv (eC x):=by simp
 generalize av nx (Vv (eC x)) h=h1 at *;have ec0:(eC x)[0]?=some (I x.1):=rfl;have aic:(eC x).head?=some (I x.1):=rfl;have et:List.take 4 (eC x).tail=eS x.2:=rfl;have hcu:bP .u64 (x.1:Int)=((Q5 (x.1:Int):Nat):Int):=Mi _;have hbq:AV.beq (I x.1) (I x.1)=true:=beq_refl _ rfl;simp[qV,b1,ec0,aic,et,mh,hcu,rH,y8];refine(alU S H hx).mono ?_;rintro o h2 aU ⟨rfl,e2⟩;have n2:=e2.n;have b2:ae nx h2=Vv (eC x):=by rw[e2.g nx (by omega)];exact b1
 have VJ:=e1.trans e2;have R2:=R.ext VJ;have hhk:Je x=NA (Wn x.2) (Q5 (x.1:Int)):=rfl;simp[b2,ec0,aic,hbq,↓amw (Wn x.2) (Q5 (x.1:Int))];rw[←hhk];obtain⟨Q7,Q8,B⟩:=R2.buk (Je x);have hfk:=Qe C.orc (Je x) E;have amx:=B.gr.rd;have Gp:=UO l (Je x);have main:∀aW:T AV,ae (K 0) aW=some (.ptr br 0)→ae (K 3) aW=some (.ptr nx 0)→ae (K 5) aW=some (kJ (Je x))→ae (K 20) aW=some Q7→ae (K 21) aW=some (I (RM l (Je x)).length)→ae (K 22) aW=some (I 0)→
   W C (.loop gy) (aA 0 (aM (iH C (.seq (.staged dm ⟨[K 38,K 39,K 40,K 41,K 42,K 43,K 44,K 45,K 46,K 47,K 48,K 49,K 50,K 51,K 52,K 53,K 54,K 55],[]⟩) (.seq (.staged gz ⟨[K 56,K 57,K 58,K 59,K 60,K 61,K 62,K 63,K 64,K 65],[]⟩) (.seq (.ops fL) .ret))) (dF [.tmp (K 4)] (MZ n0 l x br bm cS oC E h nx))) (dF [.tmp (K 4)] (MZ n0 l x br bm cS oC E h nx)))) aW h2 aU:=by
  intro aW q0 q3 q5 q20 q21 q22;refine aiI S H hl BI hx (g:=Je x) R2 amx b2 (by omega) (m:=(MP l (Je x)).length) ⟨0,by simp,by omega,q0,q3,q5,q20,by rw[q21,Gp],by simpa using q22,Ext.refl _ _,fun p _ hp=>absurd hp (by omega)⟩ ?_ ?_
  ·intro aw h' nx' j hj q4 e';have ZO:x∈l:=List.mem_of_getElem? hj;have my:dp l x=l:=by unfold dp;rw[if_pos ZO]
   have Sd:=VJ.trans e';simp[q4];exact⟨⟨j,cC,oC,E,by rw[my];exact hj,rfl,by rw[my];exact R.ext Sd,fun b hb=>.inl hb⟩,Sd.n,fun b hb _ _ _ _=>Sd.g b hb⟩
  ·intro aw h' nx' q0' q3' q5' e' pF;have ZO:x∉l:=fun hm=>by
    obtain⟨j,hj,e⟩:=List.getElem_of_mem hm;have hj2:l[j]?=some x:=by rw[xF hj,e]
    exact pF j (UN.2 ⟨x,hj2,rfl⟩) hj2
   have Sd:=VJ.trans e';have n13:=Sd.n;have n':=e'.n;have R3:=R2.ext e';have hnb:∀b:Key,b.toNat<nx.toNat→b≠nx:=fun b hb e=>by rw[e]at hb;omega
   simp only[UK];refine anm (C:=C) hl ZO (b3:=nx) (by omega) R3 (B.ext e') (by rw[e'.g nx (by omega)];exact b2) (by omega) ⟨fun e=>hnb br R.Wv e.symm,fun e=>hnb bm R.bmn e.symm,fun e=>hnb nx (R.C.lt nx e) rfl,fun y hy e=>hnb nx ((R.B y hy).lt nx e) rfl⟩ q0' q3' q5' (fun h4 jw A=>?_);exact MZ.lift Sd A
 rcases B.m with⟨hm,rfl⟩|hm
 ·rw[hm]at hfk;have hl0:(RM l (Je x)).length=0:=by
   rcases B.gr with⟨_,_,e,_⟩|⟨b,k,_,e,_⟩|⟨t,_,e,_⟩
   ·exact e
   ·cases e
   ·cases e
  rw[hl0]at main;simp[-findK,ke,R2.xG,R2.map,hfk];refine main _ ?_ ?_ ?_ ?_ ?_ ?_<;>simp
 ·rw[hm]at hfk;simp[-findK,ke,R2.xG,R2.map,hfk,↓amx.ln];refine main _ ?_ ?_ ?_ ?_ ?_ ?_<;>simp
end Ln
namespace Ln
open Go.Sx Go
variable{σ:Type}[DecidableEq σ]
theorem IK:∀(a l b:List (Cf σ)),dJ l (a++b)=match dJ l a with|none=>none|some l'=>dJ l' b
 | [],l,b=>rfl
 |c ::a,l,b=>by
  show(if (dp l c).length>1024 then none else dJ (dp l c) (a++b))=(match (if (dp l c).length>1024 then none else dJ (dp l c) a)with|none=>none|some l'=>dJ l' b);by_cases h:(dp l c).length>1024
  ·rw[if_pos h,if_pos h]
  ·rw[if_neg h,if_neg h];exact IK a (dp l c) b
theorem ZJ(l:List (Cf σ))(c:Cf σ):dJ l [c]=if (dp l c).length>1024 then none else some (dp l c):=rfl
def tS(S:Sys σ)(l:List (Cf σ))(c:Cf σ)(k:Nat):Option (List (Cf σ)):=dJ l ((S.dh c k).map (·.2))
theorem Wk(S:Sys σ)(l:List (Cf σ))(c:Cf σ):tS S l c 0=some l:=rfl
theorem Wl{S:Sys σ}{l:List (Cf σ)}{c:Cf σ}{k:Nat}(h:S.step c k=none):tS S l c (k+1)=tS S l c k:=by unfold tS;rw[fI,h];simp
theorem ME{S:Sys σ}{l lk:List (Cf σ)}{c:Cf σ}{k:Nat}{x:Nat×Cf σ}(h:S.step c k=some x)(hk:tS S l c k=some lk):tS S l c (k+1)=if (dp lk x.2).length>1024 then none else some (dp lk x.2):=by unfold tS at *;rw[fI,h,List.map_append,IK,hk];exact ZJ lk x.2
theorem Wm{S:Sys σ}{l:List (Cf σ)}{c:Cf σ}{k:Nat}(hk:k≤S.n)(h:tS S l c k=none):dJ l ((S.steps c).map (·.2))=none:=by obtain⟨t,e⟩:=EV S c hk;rw[Lx]at e;rw[e,List.map_append,IK];unfold tS at h;rw[h]
theorem ZK{S:Sys σ}{l lk:List (Cf σ)}{c:Cf σ}{k:Nat}(h:tS S l c k=some lk):(∃t,lk=l++t)∧∀x∈S.dh c k,x.2∈lk:=by obtain⟨h1,h2,_⟩:=oh h;exact⟨h1,fun x hx=>h2 _ (Rh.2 ⟨x,hx,rfl⟩)⟩
def yh(S:Sys σ)(l:List (Cf σ))(c:Cf σ)(k:Nat):List (Nat×Nat):=(S.dh c k).map fun x=>(x.1,l.idxOf x.2)
theorem aeF{S:Sys σ}{l t:List (Cf σ)}{c:Cf σ}{k:Nat}(h:∀x∈S.dh c k,x.2∈l):yh S (l++t) c k=yh S l c k:=by unfold yh;refine List.map_congr_left fun x hx=>?_;rw[acU (h x hx)]
theorem ahL(l:List (Cf σ))(x:Cf σ):∃t,dp l x=l++t:=by
 unfold dp;split
 ·exact⟨[],by simp⟩
 ·exact⟨[x],rfl⟩
theorem ZL{S:Sys σ}{l:List (Cf σ)}{c:Cf σ}{k:Nat}{x:Nat×Cf σ}(h:S.step c k=some x)(hl:∀y∈S.dh c k,y.2∈l):yh S (dp l x.2) c (k+1)=yh S l c k ++ [(x.1,(dp l x.2).idxOf x.2)]:=by obtain⟨t,e⟩:=ahL l x.2;have:=aeF (t:=t) hl;rw[←e]at this;rw[←this];unfold yh;rw[fI,h,List.map_append];rfl
def eT(p:Nat×Nat):List AV:=[I (p.1:Int),I (p.2:Int)]
theorem gi:Flat 2 eT where
 len _:=rfl
 vV x y hy:=by
  simp[eT]at hy;rcases hy with rfl|rfl
  ·exact dz _ _
  ·exact dz _ _
 cell x y hy:=by simp[eT]at hy;rcases hy with rfl|rfl<;>rfl
 lits x:=by simp[eT,AV.gE,AV.lits,I]
end Ln
namespace Ln
open Go.Sx Go
structure Y2(n0:Key)(lk:List (Cf St))(st:List (Nat×Nat))(br bm b4 b6:Key)(cC cS c6:AV)(oC o6:Option Key)(E:List Bk)(h:T ah)(nx:Key):Prop where
 R:RB n0 lk br bm cC cS oC E h nx
 v4:ae b4 h=Vv [.ptr br 0]
 v6:ae b6 h=Vv [c6]
 G6:Gr 2 c6 (ag eT st) st.length h nx o6
 lt:b4.toNat<nx.toNat∧b6.toNat<nx.toNat
 ne:b4≠br∧b4≠bm∧b4≠b6∧b6≠br∧b6≠bm
 ap:∀b,(oC=some b∨∃e∈E,e.o=some b)→b≠b4∧b≠b6∧o6≠some b
 o6:∀b,o6=some b→b≠br∧b≠bm∧b≠b4∧b≠b6∧n0.toNat≤b.toNat
 ge:n0.toNat≤b4.toNat∧n0.toNat≤b6.toNat
def jx(br bm b6:Key)(oC o6:Option Key)(E:List Bk)(b:Key):Prop:=b=br∨b=bm∨b=b6∨oC=some b∨(∃e∈E,e.o=some b)∨o6=some b
theorem Y2.ge'{n0:Key}{lk:List (Cf St)}{st:List (Nat×Nat)}{br bm b4 b6:Key}{cC cS c6:AV}{oC o6:Option Key}{E:List Bk}{h:T ah}{nx:Key}(A:Y2 n0 lk st br bm b4 b6 cC cS c6 oC o6 E h nx){b:Key}(hb:jx br bm b6 oC o6 E b):n0.toNat≤b.toNat:=by
 rcases hb with rfl|rfl|rfl|hb|⟨e,he,hb⟩|hb
 ·exact A.R.bb.2.1
 ·exact A.R.bb.2.2
 ·exact A.ge.2
 ·exact(A.R.ow b (.inl hb)).2.2
 ·exact(A.R.ow b (.inr ⟨e,he,hb⟩)).2.2
 ·exact(A.o6 b hb).2.2.2.2
theorem RB.cy{n0:Key}{l:List (Cf St)}{br bm:Key}{cC cS:AV}{oC:Option Key}{E:List Bk}{h h':T ah}{nx nx':Key}(R:RB n0 l br bm cC cS oC E h nx)(hn:nx.toNat≤nx'.toNat)(hk:∀b,(b=br∨b=bm∨oC=some b∨∃e∈E,e.o=some b)→ae b h'=ae b h):RB n0 l br bm cC cS oC E h' nx':=
 ⟨by rw[hk br (.inl rfl)];exact R.xG,by rw[hk bm (.inr (.inl rfl))];exact R.map,by have:=R.Wv;omega,by have:=R.bmn;omega,R.C.cy hn fun b hb=>hk b (.inr (.inr (.inl hb))),fun x hx=>(R.B x hx).cy hn fun b hb=>hk b (.inr (.inr (.inr ⟨x,hx,hb⟩))),R.nd,R.cov,R.aeI,R.sep,R.ow,R.cs,R.bb⟩
theorem RB.olt{n0:Key}{l:List (Cf St)}{br bm:Key}{cC cS:AV}{oC:Option Key}{E:List Bk}{h:T ah}{nx:Key}(R:RB n0 l br bm cC cS oC E h nx){b:Key}(hb:oC=some b∨∃e∈E,e.o=some b):b.toNat<nx.toNat:=by
 rcases hb with hb|⟨e,he,hb⟩
 ·exact R.C.lt b hb
 ·exact(R.B e he).lt b hb
variable{C:bK}{X:Kn}(S:Std C X)(H:Mk C)
include S H
theorem avE{n0:Key}{lk:List (Cf St)}(hl:lk.length≤9000)(BI:∀y∈lk,y.2.kids.length≤3){x:Cf St}(hx:x.2.kids.length≤3){st:List (Nat×Nat)}(dy:st.length≤1000){br bm b4 b6 b8:Key}{cC cS c6:AV}{oC o6:Option Key}{E:List Bk}{h:T ah}{nx:Key}(A:Y2 n0 lk st br bm b4 b6 cC cS c6 oC o6 E h nx)(hn0:n0.toNat≤nx.toNat)(v8:ae b8 h=Vv (eC x))(b8n:b8.toNat<nx.toNat){k:Nat}{Q:cH}{tm:T AV}(g4:ae (K 4) tm=some (.ptr b4 0))(g6:ae (K 6) tm=some (.ptr b6 0))(g7:ae (K 7) tm=some (I (k:Int)))(g8:ae (K 8) tm=some (.ptr b8 0))
  (hQ:∀aw h' nx' j cC' c6' Lz o6' E',(dp lk x)[j]?=some x→Y2 n0 (dp lk x) (st ++ [(k,j)]) br bm b4 b6 cC' cS c6' Lz o6' E' h' nx'→nx.toNat≤nx'.toNat→(∀b:Key,b.toNat<nx.toNat→¬jx br bm b6 oC o6 E b→ae b h'=ae b h)→(∀b,jx br bm b6 Lz o6' E' b→jx br bm b6 oC o6 E b∨nx.toNat≤b.toNat)→ae (K 4) aw=some (.ptr b4 0)→ae (K 2) aw=ae (K 2) tm→ae (K 3) aw=ae (K 3) tm→Q .norm aw h' nx') :
  iH C (.staged bR ⟨[K 38,K 39,K 40,K 41,K 42,K 43,K 44,K 45],[]⟩) Q tm h nx:=by
 have rA:=S.r cV;have k6:=A.G6.cell;have b6q:AV.beq c6 c6=true:=A.G6.lits gi;simp[bR,g4,g6,g7,g8,A.v4,A.v6,v8,mh,wv,rA,zQ];refine(ahU S H (by omega) BI hx hn0 A.R).mono ?_;rintro o h2 aU ⟨⟨j,cC2,oC2,E2,hj,rfl,R2,how⟩,n2,k2⟩;have s2:=kTSu aU;have nm:∀b:Key,b.toNat<nx.toNat→b≠br→b≠bm→oC≠some b→(∀e∈E,e.o≠some b)→ae b h2=ae b h:=k2;have v62:ae b6 h2=Vv [c6]:=by rw[nm b6 A.lt.2 A.ne.2.2.2.1 A.ne.2.2.2.2 (fun e=>(A.ap b6 (.inl e)).2.1 rfl) (fun e he ho=>(A.ap b6 (.inr ⟨e,he,ho⟩)).2.1 rfl)];exact A.v6
 have v42:ae b4 h2=Vv [.ptr br 0]:=by rw[nm b4 A.lt.1 A.ne.1 A.ne.2.1 (fun e=>(A.ap b4 (.inl e)).1 rfl) (fun e he ho=>(A.ap b4 (.inr ⟨e,he,ho⟩)).1 rfl)];exact A.v4
 have G62:Gr 2 c6 (ag eT st) st.length h2 aU o6:=A.G6.cy n2 fun b hb=>by have h1:=A.o6 b hb;exact nm b (A.G6.lt b hb) h1.1 h1.2.1 (fun e=>(A.ap b (.inl e)).2.2 hb) (fun e he ho=>(A.ap b (.inr ⟨e,he,ho⟩)).2.2 hb)
 have hET:eT (k,j)=[I (k:Int),I (j:Int)]:=rfl;have e3:=E0 h2 aU (.cells (eT (k,j)) .fix);obtain⟨c7,h4,jw,o7,ha,G7,F7⟩:=(G62.ext e3).IJ gi (by decide) (by decide) (by omega) (k,j);have F27:=(qw.qD e3 o6).trans F7;rw[hET]at ha;have n4:=F27.n;have k7:=G7.cell;have v64:ae b6 h4=Vv [c6]:=by rw[F27.g b6 (by have:=A.lt.2;omega) (fun e=>(A.o6 b6 e).2.2.2.1 rfl)];exact v62
 simp[-appendTo,g4,g6,g7,v62,v64,b6q,ha,k6.1,k6.2,k7.1,k7.2];have o7n:∀b:Key,o7=some b→o6=some b∨aU.toNat≤b.toNat:=fun b hb=>by
  rcases F27.o with e|⟨y,e,hy⟩
  ·rw[e]at hb;exact .inl hb
  ·rw[e]at hb;cases hb;exact .inr hy
 have l4:=A.lt.1;have l6:=A.lt.2;have lr:=A.R.Wv;have lm:=A.R.bmn;have ow2:∀b:Key,(oC2=some b∨∃e∈E2,e.o=some b)→b≠b4∧b≠b6∧o6≠some b:=fun b hb=>by
  rcases how b hb with h1|h1
  ·exact A.ap b h1
  ·exact⟨fun e=>by rw[e]at h1;omega,fun e=>by rw[e]at h1;omega,fun e=>by have:=A.G6.lt b e;omega⟩
 have aAd:o7≠some b6:=fun e=>by
  rcases o7n b6 e with h1|h1
  ·exact(A.o6 b6 h1).2.2.2.1 rfl
  ·omega
 have same:∀b:Key,b.toNat<aU.toNat→b≠b6→o6≠some b→ae b (av b6 (Vv [c7]) h4)=ae b h2:=fun b hb h1 h2=>by rw[aR _ _ _ _ h1,F27.g b hb h2]
 refine hQ _ _ _ j cC2 c7 oC2 o7 E2 hj ⟨?_,?_,by simp,?_,by omega,A.ne,?_,?_,A.ge⟩ (by omega) ?_ ?_ (by simp[g4]) (by simp) (by simp)
 ·refine R2.cy n4 fun b hb=>?_;rcases hb with rfl|rfl|hb|hb
  ·exact same _ R2.Wv (Ne.symm A.ne.2.2.2.1) (fun e=>(A.o6 _ e).1 rfl)
  ·exact same _ R2.bmn (Ne.symm A.ne.2.2.2.2) (fun e=>(A.o6 _ e).2.1 rfl)
  ·have h1:=ow2 b (.inl hb);exact same b (R2.olt (.inl hb)) h1.2.1 h1.2.2
  ·have h1:=ow2 b (.inr hb);exact same b (R2.olt (.inr hb)) h1.2.1 h1.2.2
 ·rw[same b4 (by omega) A.ne.2.2.1 (fun e=>(A.o6 b4 e).2.2.1 rfl)];exact v42
 ·exact G7.cy (fa _) fun b hb=>aR _ _ _ _ (fun e=>aAd (by rw[hb,e]))
 ·intro b hb;have h1:=ow2 b hb;refine⟨h1.1,h1.2.1,fun e=>?_⟩;rcases o7n b e with h2|h2
  ·exact h1.2.2 h2
  ·have:=R2.olt hb;omega
 ·intro b hb;rcases o7n b hb with h1|h1
  ·exact A.o6 b h1
  ·exact⟨fun e=>by rw[e]at h1;omega,fun e=>by rw[e]at h1;omega,fun e=>by rw[e]at h1;omega,fun e=>by rw[e]at h1;omega,by omega⟩
 ·intro b hb hm;unfold jx at hm;simp only[not_or]at hm;rw[same b (by omega) hm.2.2.1 hm.2.2.2.2.2,nm b hb hm.1 hm.2.1 hm.2.2.2.1 (fun e he ho=>hm.2.2.2.2.1 ⟨e,he,ho⟩)]
 ·rintro b (rfl|rfl|rfl|hb|⟨e,he,hb⟩|hb)
  ·exact .inl (.inl rfl)
  ·exact .inl (.inr (.inl rfl))
  ·exact .inl (.inr (.inr (.inl rfl)))
  ·rcases how b (.inl hb)with h1|h1
   ·exact .inl (by
     rcases h1 with h1|h1
     ·exact .inr (.inr (.inr (.inl h1)))
     ·exact .inr (.inr (.inr (.inr (.inl h1)))))
   ·exact .inr h1
  ·rcases how b (.inr ⟨e,he,hb⟩)with h1|h1
   ·exact .inl (by
     rcases h1 with h1|h1
     ·exact .inr (.inr (.inr (.inl h1)))
     ·exact .inr (.inr (.inr (.inr (.inl h1)))))
   ·exact .inr h1
  ·rcases o7n b hb with h1|h1
   ·exact .inl (.inr (.inr (.inr (.inr (.inr h1)))))
   ·exact .inr (by omega)
end Ln
namespace Ln
open Go.Sx Go
theorem _root_.Go.Sx.Gr.ct{z:Nat}{c:AV}{l:List AV}{len:Nat}{h:T ah}{nx:Key}{ob:Option Key}(g:Gr z c l len h nx ob){b:Key}(hb:ob=some b):(∃l k,ae b h=some (.cells l k))∨ae b h=some .tok:=by
 rcases g with⟨_,_,_,e⟩|⟨b',k,e,_,h1,_⟩|⟨t,e,_,h1,_⟩
 ·rw[e]at hb;cases hb
 ·rw[e]at hb;cases hb;exact .inl ⟨_,_,h1⟩
 ·rw[e]at hb;cases hb;exact .inr h1
theorem Y2.ct{n0:Key}{lk:List (Cf St)}{st:List (Nat×Nat)}{br bm b4 b6:Key}{cC cS c6:AV}{oC o6:Option Key}{E:List Bk}{h:T ah}{nx:Key}(A:Y2 n0 lk st br bm b4 b6 cC cS c6 oC o6 E h nx){b:Key}(hb:jx br bm b6 oC o6 E b):b.toNat<nx.toNat∧((∃l k,ae b h=some (.cells l k))∨ae b h=some .tok∨∃l,ae b h=some (.map l)):=by
 rcases hb with rfl|rfl|rfl|hb|⟨e,he,hb⟩|hb
 ·exact⟨A.R.Wv,.inl ⟨_,_,A.R.xG⟩⟩
 ·exact⟨A.R.bmn,.inr (.inr ⟨_,A.R.map⟩)⟩
 ·exact⟨A.lt.2,.inl ⟨_,_,A.v6⟩⟩
 ·refine⟨A.R.C.lt b hb,?_⟩;rcases A.R.C.ct hb with h1|h1
  ·exact .inl h1
  ·exact .inr (.inl h1)
 ·refine⟨(A.R.B e he).lt b hb,?_⟩;rcases (A.R.B e he).ct hb with h1|h1
  ·exact .inl h1
  ·exact .inr (.inl h1)
 ·refine⟨A.G6.lt b hb,?_⟩;rcases A.G6.ct hb with h1|h1
  ·exact .inl h1
  ·exact .inr (.inl h1)
theorem Y2.cy{n0:Key}{lk:List (Cf St)}{st:List (Nat×Nat)}{br bm b4 b6:Key}{cC cS c6:AV}{oC o6:Option Key}{E:List Bk}{h h':T ah}{nx nx':Key}(A:Y2 n0 lk st br bm b4 b6 cC cS c6 oC o6 E h nx)(hn:nx.toNat≤nx'.toNat)(hk:∀b,(jx br bm b6 oC o6 E b∨b=b4)→ae b h'=ae b h):Y2 n0 lk st br bm b4 b6 cC cS c6 oC o6 E h' nx':=
 ⟨A.R.cy hn fun b hb=>hk b (.inl (by
  rcases hb with h1|h1|h1|h1
  ·exact .inl h1
  ·exact .inr (.inl h1)
  ·exact .inr (.inr (.inr (.inl h1)))
  ·exact .inr (.inr (.inr (.inr (.inl h1)))))),by rw[hk b4 (.inr rfl)];exact A.v4,by rw[hk b6 (.inl (.inr (.inr (.inl rfl))))];exact A.v6,A.G6.cy hn fun b hb=>hk b (.inl (.inr (.inr (.inr (.inr (.inr hb)))))),by have:=A.lt;omega,A.ne,A.ap,A.o6,A.ge⟩
variable{C:bK}{X:Kn}(S:Std C X)(H:Mk C)
include S H
theorem ank{n0:Key}{lk:List (Cf St)}(hl:lk.length≤9000)(BI:∀y∈lk,y.2.kids.length≤3){x:Cf St}(hx:x.2.kids.length≤3){st:List (Nat×Nat)}(dy:st.length≤1000){br bm b4 b6 b8 r2 r3:Key}{cC cS c6:AV}{oC o6:Option Key}{E:List Bk}{h:T ah}{nx:Key}(A:Y2 n0 lk st br bm b4 b6 cC cS c6 oC o6 E h nx)(hn0:n0.toNat≤nx.toNat)(v8:ae b8 h=Vv (eC x))(b8n:b8.toNat<nx.toNat){u2 u3:AV}(w2:ae r2 h=Vv [u2])(w3:ae r3 h=Vv [u3])(wn:r2.toNat<nx.toNat∧r3.toNat<nx.toNat)(wm:¬jx br bm b6 oC o6 E r2∧¬jx br bm b6 oC o6 E r3∧r2≠r3){k:Nat}{Q:cH}{tm:T AV}(g2:ae (K 2) tm=some (.ptr r2 0))(g3:ae (K 3) tm=some (.ptr r3 0))(g4:ae (K 4) tm=some (.ptr b4 0))(g6:ae (K 6) tm=some (.ptr b6 0))(g7:ae (K 7) tm=some (I (k:Int)))(g8:ae (K 8) tm=some (.ptr b8 0))
  (aj2:∀aw h' nx',1024<(dp lk x).length→ae r2 h'=Vv [.nilp]→ae r3 h'=Vv [I 4]→nx.toNat≤nx'.toNat→(∀b:Key,b.toNat<nx.toNat→¬jx br bm b6 oC o6 E b→b≠r2→b≠r3→ae b h'=ae b h)→Q .ret aw h' nx')
  (Qd:∀aw h' nx' j cC' c6' Lz o6' E',¬1024<(dp lk x).length→(dp lk x)[j]?=some x→Y2 n0 (dp lk x) (st ++ [(k,j)]) br bm b4 b6 cC' cS c6' Lz o6' E' h' nx'→nx.toNat≤nx'.toNat→(∀b:Key,b.toNat<nx.toNat→¬jx br bm b6 oC o6 E b→ae b h'=ae b h)→(∀b,jx br bm b6 Lz o6' E' b→jx br bm b6 oC o6 E b∨nx.toNat≤b.toNat)→Q .norm aw h' nx') :
  iH C (.block 3 (.seq (.staged bR ⟨[K 38,K 39,K 40,K 41,K 42,K 43,K 44,K 45],[]⟩) (.seq (.ops bM) (.cond (.t (K 51)) (.seq (.ops cp) .ret) .skip)))) Q tm h nx:=by
 simp only[zR,fH];refine avE S H hl BI hx dy A hn0 v8 b8n g4 g6 g7 g8 (fun aW h2 aU j cC2 c62 oC2 o62 E2 hj A2 n2 k2 m2 p4 p2 p3=>?_);rw[g2]at p2;rw[g3]at p3;have hR2:=A2.R.C.rd;have w22:ae r2 h2=Vv [u2]:=by rw[k2 r2 wn.1 wm.1];exact w2
 have w32:ae r3 h2=Vv [u3]:=by rw[k2 r3 wn.2 wm.2.1];exact w3
 by_cases hov:1024<(dp lk x).length
 ·have asN:(1024:Int)<(dp lk x).length:=by omega
  simp[↓hR2.ln,bM,p4,A2.v4,A2.R.xG,asN];have w33:ae r3 (av r2 (Vv [.nilp]) h2)=Vv [u3]:=by rw[aR _ _ _ _ (Ne.symm wm.2.2)];exact w32
  simp[cp,p2,p3,w22,w33];refine aj2 _ _ _ hov ?_ (by simp) n2 (fun b hb hm h1 h3=>?_)
  ·rw[aR _ _ _ _ wm.2.2];simp
  ·rw[aR _ _ _ _ h3,aR _ _ _ _ h1];exact k2 b hb hm
 ·have asN:¬(1024:Int)<(dp lk x).length:=by omega
  simp[↓hR2.ln,bM,p4,A2.v4,A2.R.xG,asN];exact Qd _ _ _ j cC2 c62 oC2 o62 E2 hov hj A2 n2 k2 m2
end Ln
namespace Ln
open Go.Sx Go
structure RnI(X:Kn)(i:Nat)(os:List Op)(c:Cf St)(n0:Key)(l0:List (Cf St))(br bm b4 b6 lk d:Key)(cS:AV)(M0:Key→Prop)(ds:List Key)(L:ah)(hA:T ah)(nxA:Key)(k:Nat)(h:T ah)(nx:Key):Prop where
 a:∃(lk:List (Cf St)) (cC c6:AV) (oC o6:Option Key) (E:List Bk),tS (aJ X i os) l0 c k=some lk∧Y2 n0 lk (yh (aJ X i os) lk c k) br bm b4 b6 cC cS c6 oC o6 E h nx∧(∀b,jx br bm b6 oC o6 E b→M0 b∨nxA.toNat≤b.toNat)
 n:nxA.toNat≤nx.toNat
 g:∀b:Key,b.toNat<nxA.toNat→¬M0 b→ae b h=ae b hA
theorem RnI.ext{X:Kn}{i:Nat}{os:List Op}{c:Cf St}{n0:Key}{l0:List (Cf St)}{br bm b4 b6 lk d:Key}{cS:AV}{M0:Key→Prop}{ds:List Key}{L:ah}{hA:T ah}{nxA:Key}{k:Nat}{h h':T ah}{nx nx':Key}(I:RnI X i os c n0 l0 br bm b4 b6 lk d cS M0 ds L hA nxA k h nx)(e:Ext h nx h' nx'):RnI X i os c n0 l0 br bm b4 b6 lk d cS M0 ds L hA nxA k h' nx':=by
 have n:=e.n;have nI:=I.n;obtain⟨l,cC,c6,oC,o6,E,h1,h2,h3⟩:=I.a;refine⟨⟨l,cC,c6,oC,o6,E,h1,h2.cy n fun b hb=>e.g b ?_,h3⟩,by omega,fun b hb hm=>by rw[e.g b (by omega)];exact I.g b hb hm⟩;rcases hb with hb|rfl
 ·exact(h2.ct hb).1
 ·exact h2.lt.1
variable{C:bK}{X:Kn}(S:Std C X)(H:Mk C)
include S H
theorem aj1{i:Nat}(hi:i=2){os:List Op}(qx:EK i os)(vz:∀o∈os,before o o=false)(ho:os.length≤16){cO:AV}(hcO:iB 10 eO cO os){n0:Key}{l0:List (Cf St)}(hl0:l0.length≤1024)(Of:l0.Nodup)(BI:∀y∈l0,gV i y.2){c:Cf St}(hc:c∈l0)(bY:c.1<2^os.length){br bm b4 b6 bj b2 b3 r2 r3:Key}{cC cS:AV}{oC:Option Key}{E:List Bk}{u2 u3:AV}{h:T ah}{nx:Key}(A:Y2 n0 l0 [] br bm b4 b6 cC cS .nils oC none E h nx)(hn0:n0.toNat≤nx.toNat)
  (vj:ae bj h=Vv (jB X i cO (bZ i) (ik os os.length))) (v2:ae b2 h=Vv [.ptr bj 0]) (v3:ae b3 h=Vv (eC c)) (w2:ae r2 h=Vv [u2]) (w3:ae r3 h=Vv [u3]) (lt:bj.toNat<nx.toNat∧b2.toNat<nx.toNat∧b3.toNat<nx.toNat∧r2.toNat<nx.toNat∧r3.toNat<nx.toNat) (nm:∀b,(b=bj∨b=b2∨b=b3∨b=r2∨b=r3)→¬jx br bm b6 oC none E b) (r23:r2≠r3) (rge:n0.toNat≤r2.toNat∧n0.toNat≤r3.toNat)
  {Q:ox} {ds:List Key} (D:kN n0 ds h nx) {tm:T AV} (g35:ae (K 35) tm=some (.fn bS [] [.ptr b2 0,.ptr b3 0])) (g2:ae (K 2) tm=some (.ptr r2 0)) (g3:ae (K 3) tm=some (.ptr r3 0)) (g4:ae (K 4) tm=some (.ptr b4 0)) (g6:ae (K 6) tm=some (.ptr b6 0))
  (aj2:∀d zD h' nx',zD=d ::ds→dJ l0 (((aJ X i os).steps c).map (·.2))=none→ae r2 h'=Vv [.nilp]→ae r3 h'=Vv [I 4]→kN n0 zD h' nx'→(∀b:Key,b.toNat<n0.toNat→ae b h'=ae b h)→nx.toNat≤nx'.toNat→Q .ret zD tm h' nx')
  (Qd:∀d zD h' nx' l' cC' c6' Lz o6' E',zD=d ::ds→dJ l0 (((aJ X i os).steps c).map (·.2))=some l'→Y2 n0 l' (rowOf (aJ X i os) l' c) br bm b4 b6 cC' cS c6' Lz o6' E' h' nx'→(∀b,jx br bm b6 Lz o6' E' b→jx br bm b6 oC none E b∨nx.toNat≤b.toNat)→kN n0 zD h' nx'→(∀b:Key,b.toNat<nx.toNat→¬jx br bm b6 oC none E b→ae b h'=ae b h)→nx.toNat≤nx'.toNat→Q .norm zD tm h' nx') :
  V C (.rangeF (.t (K 35)) [K 36,K 37] (.seq (.ops dw) (.ops dx)) (.block 3 (.seq (.staged bR ⟨[K 38,K 39,K 40,K 41,K 42,K 43,K 44,K 45],[]⟩) (.seq (.ops bM) (.cond (.t (K 51)) (.seq (.ops cp) .ret) .skip))))) Q ds tm h nx:=by
 have hd:c.1<65536:=Lk bY (jL ho);have hs:=BI c hc;have s1:=kTSu nx;have s2:=kTSu nx.succ;refine V.rangeF (g:=bS) (first:=[]) (cap:=[.ptr b2 0,.ptr b3 0]) g35 S.iv.off ?_;intro fn res;have e1:=(E0 h nx (.dfs false)).trans (E0 _ nx.succ (.loop .ready none fn tm res [K 36,K 37] (.seq (.ops dw) (.ops dx)) (.block 3 (.seq (.staged bR ⟨[K 38,K 39,K 40,K 41,K 42,K 43,K 44,K 45],[]⟩) (.seq (.ops bM) (.cond (.t (K 51)) (.seq (.ops cp) .ret) .skip)))) nx));generalize hba:(aG.seq (.ops dw) (.ops dx))=ca at *;generalize aDX:(aG.block 3 (.seq (.staged bR ⟨[K 38,K 39,K 40,K 41,K 42,K 43,K 44,K 45],[]⟩) (.seq (.ops bM) (.cond (.t (K 51)) (.seq (.ops cp) .ret) .skip))))=body at *;have Kk:nx∉ds:=fun hm=>by have:=D.lt nx hm;omega
 have gd:ae nx (oy fn tm res [K 36,K 37] ca body h nx)=some (.dfs false):=by unfold oy;rw[az (by omega)];simp
 have gl:ae nx.succ (oy fn tm res [K 36,K 37] ca body h nx)=some (.loop .ready none fn tm res [K 36,K 37] ca body nx):=by unfold oy;simp
 have zB:Ext h nx (oy fn tm res [K 36,K 37] ca body h nx) nx.succ.succ:=e1;generalize oy fn tm res [K 36,K 37] ca body h nx=hA at *;have A1:=A.cy (h':=hA) (nx':=nx.succ.succ) zB.n (fun b hb=>zB.g b (by
  rcases hb with hb|rfl
  ·exact(A.ct hb).1
  ·exact A.lt.1))
 have D1:kN n0 (nx ::ds) hA nx.succ.succ:=(D.ext zB).cons Kk gd hn0 (by omega);have hM:∀b,jx br bm b6 oC none E b→b.toNat<nx.toNat:=fun b hb=>(A.ct hb).1;refine ae3 S hi qx vz ho hcO hd hs (bj:=bj) (b2:=b2) (b3:=b3) (lk:=nx.succ) (c:=c) (s0:=bZ i) (Inv:=fun k h' nx'=>RnI X i os c n0 l0 br bm b4 b6 nx.succ nx cS (jx br bm b6 oC none E) ds .tok hA nx.succ.succ k h' nx') ⟨?_,?_,?_,?_,?_⟩ ⟨⟨l0,cC,.nils,oC,none,E,Wk _ _ _,A1,fun b hb=>.inl hb⟩,fa _,fun _ _ _=>rfl⟩
 ·rintro k h1 bF h2 aU I e;exact I.ext e
 ·rintro k h1 bF I;have n1:=I.n;refine⟨?_,?_,?_,by omega,by omega,by omega⟩
  ·rw[I.g bj (by omega) (nm bj (.inl rfl)),zB.g bj lt.1];exact vj
  ·rw[I.g b2 (by omega) (nm b2 (.inr (.inl rfl))),zB.g b2 lt.2.1];exact v2
  ·rw[I.g b3 (by omega) (nm b3 (.inr (.inr (.inl rfl)))),zB.g b3 lt.2.2.1];exact v3
 ·rintro k h1 bF hk dy I;obtain⟨l,cC1,c61,oC1,o61,E1,zI,Q4,h3'⟩:=I.a;refine⟨⟨l,cC1,c61,oC1,o61,E1,by rw[Wl dy];exact zI,?_,h3'⟩,I.n,I.g⟩;have:yh (aJ X i os) l c (k+1)=yh (aJ X i os) l c k:=by unfold yh;rw[fI,dy];simp
  rw[this];exact Q4
 ·rintro k x h1 bF hk dy J0;obtain⟨l,cC1,c61,oC1,o61,E1,hgr,A2,how⟩:=J0.a;have n1:=J0.n;have t1:=kTSu bF;have hsp:=oh hgr;have ZA:l.length≤1024:=hsp.2.2.2.1 hl0;have hxs:∀z∈(aJ X i os).steps c,gV i z.2.2:=Li S hi qx hs;have aDY:(k,x)∈(aJ X i os).steps c:=by obtain⟨b,e⟩:=Qv (aJ X i os) c hk dy;rw[e];simp
  have Mn:∀y∈l,y.2.kids.length≤3:=fun y hy=>by
   rcases hsp.2.2.2.2 y hy with h1|h1
   ·exact EJ (BI y h1)
   ·obtain⟨z,hz,rfl⟩:=Rh.1 h1;obtain⟨t,e⟩:=EV (aJ X i os) c (Nat.le_of_lt hk);have e':(aJ X i os).steps c=(aJ X i os).dh c k++t:=e;exact EJ (hxs z (by rw[e'];exact List.mem_append_left _ hz))
  have hx3:=EJ (hxs (k,x) aDY);have aDZ:(yh (aJ X i os) l c k).length≤1000:=by unfold yh Sys.dh;rw[List.length_map];have:=List.length_filterMap_le ((aJ X i os).step c) (List.range k);rw[List.length_range]at this;have HF:k<os.length:=hk;omega
  have flk:ae nx.succ h1=some (.loop .ready none fn tm res [K 36,K 37] ca body nx):=by rw[J0.g nx.succ (by omega) (fun hm=>by have:=hM _ hm;omega)];exact gl
  have lkM:¬jx br bm b6 oC1 o61 E1 nx.succ:=fun hm=>by rcases (A2.ct hm).2 with⟨_,_,e⟩|e|⟨_,e⟩<;>rw[flk]at e<;>cases e
  suffices hs2:∀R1:Out→T ah→Key→Prop,(∀h' nx',RnI X i os c n0 l0 br bm b4 b6 nx.succ nx cS (jx br bm b6 oC none E) ds .tok hA nx.succ.succ (k+1) h' nx'→R1 (.ret (.bool true)) h' nx')→(∀h' nx',ad7 Q nx nx.succ fn tm res [K 36,K 37] ca body ds (.ret (.tuple [])) h' nx'→R1 (.ret (.bool false)) h' nx')→Ah C nx.succ [I k,.agg (eC x)] h1 bF R1 from
   hs2 _ (fun _ _ h=>.inl ⟨rfl,h⟩) (fun _ _ h=>.inr ⟨rfl,h⟩)
  intro R1 hT hF;refine Ah.intro (fun aW h2 aU=>aU=bF.succ∧h2=av bF (Vv (eC x)) h1∧ae (K 7) aW=some (I k)∧ae (K 8) aW=some (.ptr bF 0)∧ae (K 2) aW=ae (K 2) tm∧ae (K 3) aW=ae (K 3) tm∧ae (K 4) aW=ae (K 4) tm∧ae (K 6) aW=ae (K 6) tm) flk rfl ?_ ?_
  ·rw[←hba];simp[dw];simp[dx,zP,mh]
  ·rintro aW h2 aU ⟨rfl,rfl,p7,p8,p2,p3,p4,p6⟩;rw[g2]at p2;rw[g3]at p3;rw[g4]at p4;rw[g6]at p6;have e2:=E0 h1 bF (.cells (eC x) .fix);have vx:ae bF (av bF (Vv (eC x)) h1)=Vv (eC x):=by simp
   have aD0:ae nx.succ (av bF (Vv (eC x)) h1)=some (.loop .ready none fn tm res [K 36,K 37] ca body nx):=by rw[e2.g _ (by omega)];exact flk
   have kk2:∀b:Key,b.toNat<bF.toNat→ae b (av bF (Vv (eC x)) h1)=ae b h1:=fun b hb=>e2.g b hb;generalize av bF (Vv (eC x)) h1=h2 at *;refine⟨aD0,?_⟩;have lk3:ae nx.succ (av nx.succ (some (.loop .busy none fn tm res [K 36,K 37] ca body nx)) h2)=some (.loop .busy none fn tm res [K 36,K 37] ca body nx):=by simp
   have kk3:∀b:Key,b≠nx.succ→ae b (av nx.succ (some (.loop .busy none fn tm res [K 36,K 37] ca body nx)) h2)=ae b h2:=fun b hb=>aR _ _ _ _ hb;generalize av nx.succ (some (.loop .busy none fn tm res [K 36,K 37] ca body nx)) h2=h3 at *;have cG:∀b:Key,b.toNat<bF.toNat→b≠nx.succ→ae b h3=ae b h1:=fun b hb h1=>by rw[kk3 b h1,kk2 b hb]
   have A3:=A2.cy (h':=h3) (nx':=bF.succ) (by omega) (fun b hb=>by
    rcases hb with hb|rfl
    ·exact cG b (A2.ct hb).1 (fun e=>lkM (by rw[←e];exact hb))
    ·exact cG _ A2.lt.1 (fun e=>by have:=A.lt.1;rw[e]at this;omega))
   have notM:∀b,b.toNat<nx.succ.succ.toNat→¬jx br bm b6 oC none E b→¬jx br bm b6 oC1 o61 E1 b:=fun b hb hm h=>by
    rcases how b h with h1|h1
    ·exact hm h1
    ·omega
   have small:∀b:Key,b.toNat<nx.toNat→¬jx br bm b6 oC none E b→ae b h3=ae b h:=fun b hb hm=>by rw[cG b (by omega) (fun e=>by rw[e]at hb;omega),J0.g b (by omega) hm,zB.g b hb]
   have nr2:=nm r2 (.inr (.inr (.inr (.inl rfl))));have nr3:=nm r3 (.inr (.inr (.inr (.inr rfl))));generalize hrq:I5 R1 nx.succ fn tm res [K 36,K 37] ca body nx=RQ;rw[←aDX];refine ank S H (by omega) Mn hx3 aDZ A3 (by omega) (b8:=bF) (r2:=r2) (r3:=r3) (u2:=u2) (u3:=u3) (by rw[kk3 bF (fun e=>by rw[e]at n1;omega)];exact vx) (by omega) (by rw[small r2 lt.2.2.2.1 nr2];exact w2) (by rw[small r3 lt.2.2.2.2 nr3];exact w3) (by omega) ⟨notM r2 (by omega) nr2,notM r3 (by omega) nr3,r23⟩ p2 p3 p4 p6 p7 p8 ?_ ?_
   ·intro aw h' nx' hov q2 q3 hn HF;rw[←hrq];have axh:nx.succ≠r2:=fun e=>by have:=lt.2.2.2.1;rw[←e]at this;omega
    have axi:nx.succ≠r3:=fun e=>by have:=lt.2.2.2.2;rw[←e]at this;omega
    have lk5:ae nx.succ h'=some (.loop .busy none fn tm res [K 36,K 37] ca body nx):=by rw[HF nx.succ (by omega) lkM axh axi];exact lk3
    have my:dJ l0 (((aJ X i os).steps c).map (·.2))=none:=Wm (k:=k+1) hk (by rw[ME dy hgr,if_pos hov]);simp;refine⟨⟨none,lk5⟩,hF _ _ ⟨_,rfl,.done,some .ret,by simp,by simp,?_⟩⟩;rw[set_set];refine aj2 nx _ _ _ rfl my (by rw[aR _ _ _ _ (Ne.symm axh)];exact q2) (by rw[aR _ _ _ _ (Ne.symm axi)];exact q3) (D1.cy (by omega) fun b hb hg=>?_) (fun b hb=>?_) (by omega)
    ·have MB:b≠nx.succ:=by rintro rfl;rw[gl]at hg;cases hg
     have hM0:¬jx br bm b6 oC none E b:=fun hm=>by rcases (A1.ct hm).2 with⟨_,_,e⟩|e|⟨_,e⟩<;>rw[hg]at e<;>cases e
     have Pq:b≠r2:=by rintro rfl;rw[zB.g _ lt.2.2.2.1,w2]at hg;cases hg
     have hr3:b≠r3:=by rintro rfl;rw[zB.g _ lt.2.2.2.2,w3]at hg;cases hg
     rw[aR _ _ _ _ MB,HF b (by omega) (notM b hb hM0) Pq hr3,cG b (by omega) MB,J0.g b hb hM0];exact hg
    ·have hM0:¬jx br bm b6 oC none E b:=fun hm=>by have:=A.ge' hm;omega
     rw[aR _ _ _ _ (fun e=>by rw[e]at hb;omega),HF b (by omega) (notM b (by omega) hM0) (fun e=>by have:=rge.1;rw[←e]at this;omega) (fun e=>by have:=rge.2;rw[←e]at this;omega)];exact small b (by omega) hM0
   ·intro aw h' nx' j cC' c6' Lz o6' E' hov hj A4 hn HF aD1;rw[←hrq];have lk5:ae nx.succ h'=some (.loop .busy none fn tm res [K 36,K 37] ca body nx):=by rw[HF nx.succ (by omega) lkM];exact lk3
    have aD2:tS (aJ X i os) l0 c (k+1)=some (dp l x):=by rw[ME dy hgr,if_neg hov]
    have aD3:(dp l x).Nodup:=OT (hsp.2.2.1 Of) x;have sZ:(dp l x).idxOf x=j:=asH aD3 hj;have Lt:yh (aJ X i os) (dp l x) c (k+1)=yh (aJ X i os) l c k ++ [(k,j)]:=by have:=ZL dy (l:=l) (ZK hgr).2;rw[this];show _ ++ [(k,(dp l x).idxOf x)]=_;rw[sZ]
    have aD4:¬jx br bm b6 Lz o6' E' nx.succ:=fun hm=>by rcases (A4.ct hm).2 with⟨_,_,e⟩|e|⟨_,e⟩<;>rw[lk5]at e<;>cases e
    simp;refine⟨⟨none,lk5⟩,hT _ _ ⟨⟨dp l x,cC',c6',Lz,o6',E',aD2,?_,?_⟩,by omega,fun b hb hm=>?_⟩⟩
    ·rw[Lt];refine A4.cy (fa _) fun b hb=>aR _ _ _ _ (fun e=>?_);rcases hb with hb|rfl
     ·exact aD4 (by rw[←e];exact hb)
     ·have:=A.lt.1;rw[e]at this;omega
    ·intro b hb;rcases aD1 b hb with h1|h1
     ·exact how b h1
     ·exact .inr (by omega)
    ·by_cases e:b=nx.succ
     ·subst e;simp;exact gl.symm
     ·rw[aR _ _ _ _ e,HF b (by omega) (notM b hb hm),cG b (by omega) e,J0.g b hb hm]
 ·rintro h1 bF J0;obtain⟨l,cC1,c61,oC1,o61,E1,hgr,A2,how⟩:=J0.a;have n1:=J0.n;have flk:ae nx.succ h1=some (.loop .ready none fn tm res [K 36,K 37] ca body nx):=by rw[J0.g nx.succ (by omega) (fun hm=>by have:=hM _ hm;omega)];exact gl
  have lkM:¬jx br bm b6 oC1 o61 E1 nx.succ:=fun hm=>by rcases (A2.ct hm).2 with⟨_,_,e⟩|e|⟨_,e⟩<;>rw[flk]at e<;>cases e
  refine⟨_,rfl,.ready,none,flk,by simp,?_⟩;refine Qd nx _ _ _ l cC1 c61 oC1 o61 E1 rfl hgr ?_ (fun b hb=>?_) (D1.cy (by omega) fun b hb hg=>?_) (fun b hb hm=>?_) (by omega)
  ·refine A2.cy (fa _) fun b hb=>aR _ _ _ _ (fun e=>?_);rcases hb with hb|rfl
   ·exact lkM (by rw[←e];exact hb)
   ·have:=A.lt.1;rw[e]at this;omega
  ·rcases how b hb with h1|h1
   ·exact .inl h1
   ·exact .inr (by omega)
  ·have MB:b≠nx.succ:=by rintro rfl;rw[gl]at hg;cases hg
   have hM0:¬jx br bm b6 oC none E b:=fun hm=>by rcases (A1.ct hm).2 with⟨_,_,e⟩|e|⟨_,e⟩<;>rw[hg]at e<;>cases e
   rw[aR _ _ _ _ MB,J0.g b hb hM0];exact hg
  ·rw[aR _ _ _ _ (fun e=>by rw[e]at hb;omega),J0.g b (by omega) hm,zB.g b hb]
end Ln
namespace Ln
open Go.Sx Go
structure Srw(l:List (Cf St))(br bm b4:Key)(n0:Key)(cS:AV)(oC oS:Option Key)(E:List Bk)(cs:List AV)(h:T ah)(nx:Key):Prop where
 G:Gr 1 cS cs cs.length h nx oS
 vV:∀y∈cs,OQ y∧y.aP=true
 ap:∀b,oS=some b→b≠br∧b≠bm∧b≠b4∧oC≠some b∧(∀e∈E,e.o≠some b)∧n0.toNat≤b.toNat
variable{C:bK}{X:Kn}(S:Std C X)(H:Mk C)
theorem atm{n0:Key}{l:List (Cf St)}{st:List (Nat×Nat)}{br bm b4 b6:Key}{cC cS c6:AV}{oC o6 oS:Option Key}{E:List Bk}{cs:List AV}{h:T ah}{nx:Key}(WD:cs.length≤1100)(A:Y2 n0 l st br bm b4 b6 cC cS c6 oC o6 E h nx)(B:Srw l br bm b4 n0 cS oC oS E cs h nx)(hn0:n0.toNat≤nx.toNat)(h6S:∀b,o6=some b→oS≠some b){Q:cH}{tm:T AV}(g4:ae (K 4) tm=some (.ptr b4 0))(g6:ae (K 6) tm=some (.ptr b6 0))
  (hQ:∀aw h' nx' cS' oS' c6',iB 2 eT c6' st→RB n0 l br bm cC cS' oC E h' nx'→Srw l br bm b4 n0 cS' oC oS' E (cs ++ [c6']) h' nx'→nx.toNat≤nx'.toNat→(∀b:Key,b.toNat<nx.toNat→b≠br→oS≠some b→o6≠some b→ae b h'=ae b h)→(∀b,oS'=some b→oS=some b∨nx.toNat≤b.toNat)→(∀k,(k=K 0∨k=K 2∨k=K 3∨k=K 4∨k=K 5)→ae k aw=ae k tm)→Q .norm aw h' nx') :
  iH C (.staged gM ⟨[K 52,K 53,K 54,K 55,K 56,K 57,K 58,K 59,K 60,K 61],[]⟩) Q tm h nx:=by
 have s1:=kTSu nx;have k6:=A.G6.cell;have kS:=B.G.cell;have e1:=E0 h nx (.cells [c6] .fix);have G6:=A.G6.ext e1;obtain⟨hi6,hf6⟩:=Gr.EN gi G6 9998;have UB:bC (aN 9999) [c6] (av nx (Vv [c6]) h)=([(aN 9999 c6 (av nx (Vv [c6]) h)).1],(aN 9999 c6 (av nx (Vv [c6]) h)).2):=by simp only[bC]
 generalize hc7:(aN 9999 c6 (av nx (Vv [c6]) h)).1=c7 at *;generalize hh2:(aN 9999 c6 (av nx (Vv [c6]) h)).2=h2 at *;have k7:=hi6.cell;have st7:OQ c7:=hi6.vV;have k2:∀b:Key,b.toNat<nx.toNat→o6≠some b→ae b h2=ae b h:=fun b hb ho=>by rw[hf6 b ho];exact e1.g b hb
 have GS2:Gr 1 cS cs cs.length h2 nx.succ oS:=B.G.cy (by omega) fun b hb=>k2 b (B.G.lt b hb) (fun e=>h6S b e hb);obtain⟨c8,h3,cF,o8,ha,G8,F8⟩:=GS2.add (new:=[c7]) (m:=1) (by decide) (by decide) (by decide) (fun y hy=>(B.vV y hy).1) rfl (by omega) (by simp[k7.1]);have n3:=F8.n;have k8:=G8.cell;have l4:=A.lt.1;have lr:=A.R.Wv;have lm:=A.R.bmn;have k3:∀b:Key,b.toNat<nx.toNat→oS≠some b→o6≠some b→ae b h3=ae b h:=fun b hb h1 h2=>by rw[F8.g b (by omega) h1,k2 b hb h2]
 have v43:ae b4 h3=Vv [.ptr br 0]:=by rw[k3 b4 l4 (fun e=>(B.ap b4 e).2.2.1 rfl) (fun e=>(A.o6 b4 e).2.2.1 rfl)];exact A.v4
 have br3:ae br h3=Vv [cC,cS,.map bm]:=by rw[k3 br lr (fun e=>(B.ap br e).1 rfl) (fun e=>(A.o6 br e).1 rfl)];exact A.R.xG
 have pq:AV.beq (.ptr br 0) (.ptr br 0)=true:=beq_refl _ rfl;simp[-appendTo,gM,g4,g6,A.v4,A.v6,A.R.xG,k6.1,k6.2,UB,ha,v43,br3,k8.1,k8.2];refine⟨pq,?_⟩;have o8n:∀b:Key,o8=some b→oS=some b∨nx.toNat≤b.toNat:=fun b hb=>by
  rcases F8.o with e|⟨y,e,hy⟩
  ·rw[e]at hb;exact .inl hb
  ·rw[e]at hb;cases hb;exact .inr (by omega)
 have o8b:∀b:Key,o8=some b→b≠br∧b≠bm∧b≠b4∧oC≠some b∧(∀e∈E,e.o≠some b)∧n0.toNat≤b.toNat:=fun b hb=>by
  rcases o8n b hb with h1|h1
  ·exact B.ap b h1
  ·exact⟨fun e=>by rw[e]at h1;omega,fun e=>by rw[e]at h1;omega,fun e=>by rw[e]at h1;omega,fun e=>by have:=A.R.olt (.inl e);omega,fun e he ho=>by have:=A.R.olt (.inr ⟨e,he,ho⟩);omega,by omega⟩
 have k4:∀b:Key,b.toNat<nx.toNat→b≠br→oS≠some b→o6≠some b→ae b (av br (Vv [cC,c8,.map bm]) h3)=ae b h:=fun b hb h0 h1 h2=>by rw[aR _ _ _ _ h0,k3 b hb h1 h2]
 have ow:∀b,(oC=some b∨∃e∈E,e.o=some b)→ae b (av br (Vv [cC,c8,.map bm]) h3)=ae b h:=fun b hb=>by
  refine k4 b (A.R.olt hb) (A.R.ow b hb).1 (fun e=>?_) (fun e=>(A.ap b hb).2.2 e);have h1:=B.ap b e;rcases hb with hb|⟨y,hy,hb⟩
  ·exact h1.2.2.2.1 hb
  ·exact h1.2.2.2.2.1 y hy hb
 refine hQ _ _ _ c8 o8 c7 hi6 ⟨by simp,?_,by omega,by omega,A.R.C.cy (by omega) fun b hb=>ow b (.inl hb),fun e he=>(A.R.B e he).cy (by omega) fun b hb=>ow b (.inr ⟨e,he,hb⟩),A.R.nd,A.R.cov,A.R.aeI,A.R.sep,A.R.ow,k8,A.R.bb⟩ ⟨?_,?_,o8b⟩ (by omega) k4 o8n ?_
 ·rw[k4 bm lm (Ne.symm A.R.bb.1) (fun e=>(B.ap bm e).2.1 rfl) (fun e=>(A.o6 bm e).2.1 rfl)];exact A.R.map
 ·have:=G8.cy (h':=av br (Vv [cC,c8,.map bm]) h3) (fa _) fun b hb=>aR _ _ _ _ (o8b b hb).1;simpa using this
 ·intro y hy;rcases List.mem_append.1 hy with hy|hy
  ·exact B.vV y hy
  ·simp at hy;subst hy;exact⟨st7,k7.1⟩
 ·rintro k (rfl|rfl|rfl|rfl|rfl)<;>simp
end Ln
namespace Ln
open Go.Sx Go
def AtH(bj b4 r2 r3 b:Key):Prop:=b=bj∨b=b4∨b=r2∨b=r3
structure ExA(X:Kn)(mi:Nat)(os:List Op)(cO:AV)(c0:Cf St)(bj b4 r2 r3 br bm n0:Key)(h0:T ah)(i:Nat)(l:List (Cf St))(cC cS:AV)(oC oS:Option Key)(E:List Bk)(cs:List AV)(ds:List Key)(tm:T AV)(h:T ah)(nx:Key):Prop where
 g0:ae (K 0) tm=some (.ptr bj 0)
 g2:ae (K 2) tm=some (.ptr r2 0)
 g3:ae (K 3) tm=some (.ptr r3 0)
 g4:ae (K 4) tm=some (.ptr b4 0)
 g5:ae (K 5) tm=some (I (i:Int))
 R:RB n0 l br bm cC cS oC E h nx
 B:Srw l br bm b4 n0 cS oC oS E cs h nx
 csl:cs.length=i
 row:∀q (hq:q<cs.length),∃c,l[q]?=some c∧iB 2 eT cs[q] (rowOf (aJ X mi os) l c)
 v4:ae b4 h=Vv [.ptr br 0]
 vj:ae bj h=Vv (jB X mi cO (bZ mi) (ik os os.length))
 w2:∃u,ae r2 h=Vv [u]
 w3:∃u,ae r3 h=Vv [u]
 lt:bj.toNat<nx.toNat∧b4.toNat<nx.toNat∧r2.toNat<nx.toNat∧r3.toNat<nx.toNat
 sep:∀b,AtH bj b4 r2 r3 b→b≠br∧b≠bm∧oC≠some b∧(∀e∈E,e.o≠some b)∧oS≠some b
 r23:r2≠r3
 ge:n0.toNat≤b4.toNat∧n0.toNat≤r2.toNat∧n0.toNat≤r3.toNat
 kp:Kept (aJ X mi os) i l
 fst:l[0]?=some c0
 bf:On (aJ X mi os) (1025-i) i l=On (aJ X mi os) 1025 0 [c0]
 ok:∀x∈l,gV mi x.2
 il:i≤l.length
 d:kN n0 ds h nx
 e:Ext h0 n0 h nx
def ExI(X:Kn)(mi:Nat)(os:List Op)(cO:AV)(c0:Cf St)(bj b4 r2 r3 br bm n0:Key)(h0:T ah)(m:Nat)(ds:List Key)(tm:T AV)(h:T ah)(nx:Key):Prop:=∃(i:Nat) (l:List (Cf St)) (cC cS:AV) (oC oS:Option Key) (E:List Bk) (cs:List AV),m=1024-i∧ExA X mi os cO c0 bj b4 r2 r3 br bm n0 h0 i l cC cS oC oS E cs ds tm h nx
variable{C:bK}{X:Kn}(S:Std C X)(H:Mk C)
include S H
theorem ani{mi:Nat}(hi:mi=2){os:List Op}(qx:EK mi os)(vz:∀o∈os,before o o=false)(ho:os.length≤16){cO:AV}(hcO:iB 10 eO cO os){c0:Cf St}{bj b4 r2 r3 br bm n0:Key}{h0:T ah}{Q:ox}{m:Nat}{ds:List Key}{tm:T AV}{h1:T ah}{bF:Key}(A:ExI X mi os cO c0 bj b4 r2 r3 br bm n0 h0 m ds tm h1 bF)
  (DU:∀ds aw h' nx',ae (K 2) aw=some (.ptr r2 0)→ae (K 3) aw=some (.ptr r3 0)→ae r2 h'=Vv [.nilp]→ae r3 h'=Vv [I 4]→On (aJ X mi os) 1025 0 [c0]=none→kN n0 ds h' nx'→Ext h0 n0 h' nx'→Q .ret ds aw h' nx')
  (fg:∀ds aw h' nx' l cC cS oC oS E cs,ExA X mi os cO c0 bj b4 r2 r3 br bm n0 h0 l.length l cC cS oC oS E cs ds aw h' nx'→On (aJ X mi os) 1025 0 [c0]=some l→Q .norm ds aw h' nx') :
  V C (.loop iA) (uc 0 Q) ds tm h1 bF:=by
 have rS:=S.r eJ;have hSo:=Gu X mi os;refine V.cM (ExI X mi os cO c0 bj b4 r2 r3 br bm n0 h0) A ?_;rintro m ds dD h nx ⟨i,l,cC,cS,oC,oS,E,cs,rfl,A⟩;have hR:=A.R.C.rd;have hl:=A.kp.len;have nE:=A.e.n;have s1:=kTSu nx;refine sK ?_;simp[iA];by_cases Gp:i<l.length
 ·have hii:(i:Int)<l.length:=by omega
  have hci:l[i]?=some l[i]:=xF Gp;have Hd:=Mg Gp;simp[↓hR.ln,iz,A.g4,A.g5,A.v4,A.R.xG,hii];simp[nv];have e1:=E0 h nx (.cells [.nils] .fix);have v6:ae nx (av nx (Vv [.nils]) h)=Vv [.nils]:=by simp
  generalize av nx (Vv [.nils]) h=h2 at *;have R2:=A.R.ext e1;have hR2:=R2.C.rd;have v42:ae b4 h2=Vv [.ptr br 0]:=by rw[e1.g b4 A.lt.2.1];exact A.v4
  simp[↓hR2.ix dE Gp,ny,A.g0,A.g4,A.g5,v42,R2.xG,rS,zQ];refine(ae2 S).mono ?_;rintro o h3 cF ⟨rfl,b23,b33,rfl,e3⟩;have s3:=kTSu nx.succ;have s4:=kTSu nx.succ.succ;have Sd:=e1.trans e3;have cG:∀b:Key,b.toNat<nx.toNat→ae b h3=ae b h:=fun b hb=>Sd.g b hb;have R3:=A.R.ext Sd;have v63:ae nx h3=Vv [.nils]:=by rw[e3.g nx (by omega)];exact v6
  obtain⟨u2,w2⟩:=A.w2;obtain⟨u3,w3⟩:=A.w3;have hnx:∀b:Key,b.toNat<nx.toNat→b≠nx:=fun b hb e=>by rw[e]at hb;omega
  have l4:=A.lt.2.1;have s4':=A.sep b4 (.inr (.inl rfl));have EX:Y2 n0 l [] br bm b4 nx cC cS .nils oC none E h3 nx.succ.succ.succ:=by
   refine⟨R3,by rw[cG b4 l4];exact A.v4,v63,Gr.nil _ _ _,by omega,⟨s4'.1,s4'.2.1,hnx b4 l4,fun e=>hnx br A.R.Wv e.symm,fun e=>hnx bm A.R.bmn e.symm⟩,?_,by simp,by have:=A.ge;omega⟩;intro b hb;have By:=A.R.olt hb;refine⟨fun e=>?_,hnx b By,by simp⟩;subst e;rcases hb with hb|⟨y,hy,hb⟩
   ·exact s4'.2.2.1 hb
   ·exact s4'.2.2.2.1 y hy hb
  have notM:∀b:Key,b.toNat<nx.toNat→b≠br→b≠bm→oC≠some b→(∀e∈E,e.o≠some b)→¬jx br bm nx oC none E b:=fun b hb h1 h2 h3 h4 hm=>by
   rcases hm with hm|hm|hm|hm|⟨y,hy,hm⟩|hm
   ·exact h1 hm
   ·exact h2 hm
   ·exact hnx b hb hm
   ·exact h3 hm
   ·exact h4 y hy hm
   ·cases hm
  have ltA:=A.lt;have akv:∀b,AtH bj b4 r2 r3 b→b.toNat<nx.toNat→¬jx br bm nx oC none E b:=fun b hb hn=>by have h1:=A.sep b hb;exact notM b hn h1.1 h1.2.1 h1.2.2.1 h1.2.2.2.1
  have axW:∀b:Key,nx.toNat<b.toNat→¬jx br bm nx oC none E b:=fun b hb hm=>by
   rcases hm with hm|hm|hm|hm|⟨y,hy,hm⟩|hm
   ·have:=A.R.Wv;rw[hm]at hb;omega
   ·have:=A.R.bmn;rw[hm]at hb;omega
   ·rw[hm]at hb;omega
   ·have:=A.R.olt (.inl hm);omega
   ·have:=A.R.olt (.inr ⟨y,hy,hm⟩);omega
   ·cases hm
  have hgm:∀b,(b=bj∨b=nx.succ∨b=nx.succ.succ∨b=r2∨b=r3)→¬jx br bm nx oC none E b:=fun b hb=>by
   rcases hb with rfl|rfl|rfl|rfl|rfl
   ·exact akv _ (.inl rfl) ltA.1
   ·exact axW _ (by omega)
   ·exact axW _ (by omega)
   ·exact akv _ (.inr (.inr (.inl rfl))) ltA.2.2.1
   ·exact akv _ (.inr (.inr (.inr rfl))) ltA.2.2.2
  have nC:=A.bf;rw[show 1025-i=(1024-i)+1 by omega,V7 hci]at nC;have D3:=A.d.ext Sd;simp;refine aj1 S H hi qx vz ho hcO hl A.kp.nodup A.ok Hd (A.kp.lt _ Hd) (b2:=nx.succ) (b3:=nx.succ.succ) (r2:=r2) (r3:=r3) (bj:=bj) EX (by omega) (by rw[cG bj ltA.1];exact A.vj) b23 b33 (by rw[cG r2 ltA.2.2.1];exact w2) (by rw[cG r3 ltA.2.2.2];exact w3) (by omega) hgm A.r23 A.ge.2 D3 ?_ ?_ ?_ ?_ ?_ ?_ ?_
  ·simp
  ·simp[A.g2]
  ·simp[A.g3]
  ·simp[A.g4]
  ·simp
  ·intro d zD h' nx' hds my q2 q3 D' fr hn;rw[my]at nC;simp;exact DU _ _ _ _ (by simp[A.g2]) (by simp[A.g3]) q2 q3 nC.symm D' ⟨by omega,fun b hb=>by rw[fr b hb,cG b (by omega)];exact A.e.g b hb⟩
  ·intro d zD h' nx' l' cC' c6' Lz o6' E' hds my A' how D' fr hn;rw[my]at nC;have aE4:On (aJ X mi os) (1024-i) (i+1) l'=On (aJ X mi os) 1025 0 [c0]:=nC;have hsp:=oh my;obtain⟨t,et⟩:=hsp.1;have oSn:∀b:Key,oS=some b→b.toNat<nx.toNat:=fun b hb=>A.B.G.lt b hb;have oSM:∀b:Key,oS=some b→¬jx br bm nx oC none E b:=fun b hb=>by have h1:=A.B.ap b hb;exact notM b (oSn b hb) h1.1 h1.2.1 h1.2.2.2.1 h1.2.2.2.2.1
   have atl:∀b:Key,oS=some b→¬jx br bm nx Lz o6' E' b:=fun b hb hm=>by
    rcases how b hm with h1|h1
    ·exact oSM b hb h1
    ·have:=oSn b hb;omega
   have KZ:∀b:Key,b.toNat<nx.toNat→¬jx br bm nx oC none E b→ae b h'=ae b h:=fun b hb hm=>by rw[fr b (by omega) hm,cG b hb]
   have B':Srw l' br bm b4 n0 cS Lz oS E' cs h' nx':=by refine⟨A.B.G.cy (by omega) fun b hb=>KZ b (oSn b hb) (oSM b hb),A.B.vV,fun b hb=>?_⟩;have h1:=A.B.ap b hb;exact⟨h1.1,h1.2.1,h1.2.2.1,fun e=>atl b hb (.inr (.inr (.inr (.inl e)))),fun e he ho=>atl b hb (.inr (.inr (.inr (.inr (.inl ⟨e,he,ho⟩))))),h1.2.2.2.2.2⟩
   have ah8:=A.csl;simp;refine atm (C:=C) (by omega) A' B' (by omega) (fun b hb e=>atl b e (.inr (.inr (.inr (.inr (.inr hb)))))) (by simp[A.g4]) (by simp) (fun aW h5 Gv cS2 oS2 c62 Lt R5 B5 hn5 k5 hoS hk=>?_);have p0:=hk (K 0) (.inl rfl);have p2:=hk (K 2) (.inr (.inl rfl));have p3:=hk (K 3) (.inr (.inr (.inl rfl)));have p4:=hk (K 4) (.inr (.inr (.inr (.inl rfl))));have p5:=hk (K 5) (.inr (.inr (.inr (.inr rfl))));simp[A.g0]at p0;simp[A.g2]at p2;simp[A.g3]at p3;simp[A.g4]at p4;simp[A.g5]at p5;have axX:∀b:Key,AtH bj b4 r2 r3 b→b.toNat<nx.toNat→¬jx br bm nx Lz o6' E' b:=fun b hb hn' hm=>by
    rcases how b hm with h1|h1
    ·exact akv b hb hn' h1
    ·omega
   have at5:∀b:Key,AtH bj b4 r2 r3 b→b.toNat<nx.toNat→ae b h5=ae b h:=fun b hb hn'=>by have hm:=axX b hb hn';have h1:=A.sep b hb;rw[k5 b (by omega) h1.1 h1.2.2.2.2 (fun e=>hm (.inr (.inr (.inr (.inr (.inr e)))))),KZ b hn' (akv b hb hn')]
   simp;simp[mr,p5];rw[aC (by omega) (by omega)];have aE7:i+1≤l'.length:=by rw[et,Ho];omega
   refine⟨1024-(i+1),by omega,i+1,l',cC',cS2,Lz,oS2,E',cs ++ [c62],rfl,?_⟩;refine⟨by simp[p0],by simp[p2],by simp[p3],by simp[p4],by simp,R5,B5,by simp[ah8],?_,by rw[at5 b4 (.inr (.inl rfl)) ltA.2.1];exact A.v4,by rw[at5 bj (.inl rfl) ltA.1];exact A.vj,⟨u2,by rw[at5 r2 (.inr (.inr (.inl rfl))) ltA.2.2.1];exact w2⟩,⟨u3,by rw[at5 r3 (.inr (.inr (.inr rfl))) ltA.2.2.2];exact w3⟩,by omega,?_,A.r23,A.ge,A.kp.next hSo hci my,by rw[et,List.getElem?_append_left (by omega)];exact A.fst,?_,?_,aE7,?_,?_⟩
   ·intro q hq;by_cases hqc:q<cs.length
    ·obtain⟨c,h1,h2⟩:=A.row q hqc;have NJ:∀x∈(aJ X mi os).steps c,x.2∈l:=A.kp.done q c (by omega) h1;refine⟨c,by rw[et,List.getElem?_append_left (by omega)];exact h1,?_⟩;rw[List.getElem_append_left hqc,et,af0 NJ];exact h2
    ·have hqe:q=cs.length:=by simp at hq;omega
     subst hqe;refine⟨l[i],by rw[et,ah8,List.getElem?_append_left Gp];exact hci,?_⟩;rw[List.getElem_append_right (fa _)];simpa using Lt
   ·intro b hb;have By:b.toNat<nx.toNat:=by rcases hb with rfl|rfl|rfl|rfl<;>omega
    have h1:=A.sep b hb;have hm:=axX b hb By;refine⟨h1.1,h1.2.1,fun e=>hm (.inr (.inr (.inr (.inl e)))),fun e he ho=>hm (.inr (.inr (.inr (.inr (.inl ⟨e,he,ho⟩))))),fun e=>?_⟩;rcases hoS b e with h2|h2
    ·exact h1.2.2.2.2 h2
    ·omega
   ·rw[show 1025-(i+1)=1024-i by omega];exact aE4
   ·intro y hy;rcases hsp.2.2.2.2 y hy with h1|h1
    ·exact A.ok y h1
    ·obtain⟨z,hz,rfl⟩:=Rh.1 h1;exact Li S hi qx (A.ok _ Hd) z hz
   ·refine D'.cy (by omega) fun b hb hg=>?_;rw[k5 b hb (by rintro rfl;rw[A'.R.xG]at hg;cases hg) (fun e=>by rcases B'.G.ct e with⟨_,_,h1⟩|h1<;>rw[hg]at h1<;>cases h1) (fun e=>by rcases A'.G6.ct e with⟨_,_,h1⟩|h1<;>rw[hg]at h1<;>cases h1)];exact hg
   ·refine⟨by omega,fun b hb=>?_⟩;have hbM:¬jx br bm nx oC none E b:=fun hm=>by have:=EX.ge' hm;omega
    rw[k5 b (by omega) (fun e=>by have:=A.R.bb.2.1;rw[←e]at this;omega) (fun e=>by have:=(A.B.ap b e).2.2.2.2.2;omega) (fun e=>by have:=(A'.o6 b e).2.2.2.2;omega),KZ b (by omega) hbM];exact A.e.g b hb
 ·have BF:i=l.length:=by have:=A.il;omega
  subst BF;have nC:=A.bf;rw[acF (by omega)]at nC;simp[↓hR.ln,iz,A.g4,A.g5,A.v4,A.R.xG];refine fg _ _ _ _ l cC cS oC oS E cs {A with g0:=?_,g2:=?_,g3:=?_,g4:=?_,g5:=?_} nC.symm
  ·simp[A.g0]
  ·simp[A.g2]
  ·simp[A.g3]
  ·simp[A.g4]
  ·simp[A.g5]
end Ln
namespace Ln
open Go.Sx Go
structure ExG(X:Kn)(mi:Nat)(os:List Op)(n0:Key)(l:List (Cf St))(br:Key)(cC cS:AV)(cs:List AV)(h:T ah)(nx:Key):Prop where
 R:∃bm oC E,RB n0 l br bm cC cS oC E h nx
 B:∃oS,Gr 1 cS cs cs.length h nx oS
 vV:∀y∈cs,OQ y∧y.aP=true
 csl:cs.length=l.length
 row:∀q (hq:q<cs.length),∃c,l[q]?=some c∧iB 2 eT cs[q] (rowOf (aJ X mi os) l c)
def ExR(X:Kn)(mi:Nat)(os:List Op)(c0:Cf St)(h:T ah)(nx:Key)(o:Out)(h':T ah)(nx':Key):Prop:=Ext h nx h' nx'∧
 ((On (aJ X mi os) 1025 0 [c0]=none∧o=.ret (.tuple [.nilp,I 4]))∨
  ∃l br cC cS cs,On (aJ X mi os) 1025 0 [c0]=some l∧o=.ret (.tuple [.ptr br 0,I 0])∧Kept (aJ X mi os) l.length l∧l[0]?=some c0∧(∀x∈l,gV mi x.2)∧ExG X mi os nx l br cC cS cs h' nx')
theorem ajX{r2 r3 n0:Key}{v2 v3:AV}{ds:List Key}{tm:T AV}{h:T ah}{nx':Key}{R:Out→T ah→Key→Prop}(g2:ae (K 2) tm=some (.ptr r2 0))(g3:ae (K 3) tm=some (.ptr r3 0))(w2:ae r2 h=Vv [v2])(w3:ae r3 h=Vv [v3])(z2:∀H,aN 9999 v2 H=(v2,H))(z3:∀H,aN 9999 v3 H=(v3,H))(D:kN n0 ds h nx')(hR:∀h2:T ah,(∀b,b∉ds→ae b h2=ae b h)→R (.ret (.tuple [v2,v3])) h2 nx') :
  ajY [.cell (K 2) false 1,.cell (K 3) false 1] R .ret ds tm h nx':=by
 refine⟨D.nodup,D.get,fun h2 h3=>?_⟩;have n2:r2∉ds:=fun hm=>by have:=D.get r2 hm;rw[w2]at this;cases this
 have n3:r3∉ds:=fun hm=>by have:=D.get r3 hm;rw[w3]at this;cases this
 have b2:ae r2 h2=Vv [v2]:=by rw[h3 r2 n2];exact w2
 have b3:ae r3 h2=Vv [v3]:=by rw[h3 r3 n3];exact w3
 have hz:bC (aN 9999) [v2,v3] h2=([v2,v3],h2):=by simp only[bC,z2,z3]
 refine⟨[v2,v3],by simp[g2,g3,b2,b3],?_⟩;rw[hz];exact hR h2 h3
theorem axb{n0:Key}{ds:List Key}{h:T ah}{nx b:Key}(D:kN n0 ds h nx)(hb:(∃l k,ae b h=some (.cells l k))∨ae b h=some .tok∨∃l,ae b h=some (.map l)):b∉ds:=fun hm=>by have:=D.get b hm;rcases hb with⟨_,_,e⟩|e|⟨_,e⟩<;>rw[this]at e<;>cases e
variable{C:bK}{X:Kn}(S:Std C X)(H:Mk C)
include S H
theorem ZS{mi:Nat}(hi:mi=2){os:List Op}(qx:EK mi os)(vz:∀o∈os,before o o=false)(ho:os.length≤16){cO:AV}(hcO:iB 10 eO cO os){h:T ah}{nx bj:Key}(vj:ae bj h=Vv (jB X mi cO (bZ mi) (ik os os.length)))(bjn:bj.toNat<nx.toNat) :
  aH C dM [.ptr bj 0] h nx (ExR X mi os (0,bZ mi) h nx):=by
 have rA:=S.r cV;have s1:=kTSu nx;have s2:=kTSu nx.succ;have s3:=kTSu nx.succ.succ;have s4:=kTSu nx.succ.succ.succ;have s5:=kTSu nx.succ.succ.succ.succ;refine S.oD.callV ?_;simp[j9];simp[np];simp[nq]
 try simp only[show(AV.int IntKind.i64 (SI.lit 0))=I 0 from rfl]
 obtain⟨br,hbr⟩:∃br,br=nx.succ.succ.succ:=⟨_,rfl⟩;obtain⟨b4,hb4⟩:∃b4,b4=nx.succ.succ.succ.succ:=⟨_,rfl⟩;obtain⟨bm,hbm⟩:∃bm,bm=nx.succ.succ:=⟨_,rfl⟩;obtain⟨r3,hr3⟩:∃r3,r3=nx.succ:=⟨_,rfl⟩;have e1:=((((E0 h nx (.cells [.nilp] .fix)).trans (E0 _ nx.succ (.cells [I 0] .fix))).trans (E0 _ nx.succ.succ (.map []))).trans (E0 _ nx.succ.succ.succ (.cells [.nils,.nils,.map nx.succ.succ] .fix))).trans (E0 _ nx.succ.succ.succ.succ (.cells [.ptr nx.succ.succ.succ 0] .fix));have q4:ae b4 (av nx.succ.succ.succ.succ (Vv [.ptr nx.succ.succ.succ 0]) (av nx.succ.succ.succ (Vv [.nils,.nils,.map nx.succ.succ]) (av nx.succ.succ (some (.map [])) (av nx.succ (Vv [I 0]) (av nx (Vv [.nilp]) h)))))=Vv [.ptr br 0]:=by rw[hb4,hbr];simp
 have qr:ae br (av nx.succ.succ.succ.succ (Vv [.ptr nx.succ.succ.succ 0]) (av nx.succ.succ.succ (Vv [.nils,.nils,.map nx.succ.succ]) (av nx.succ.succ (some (.map [])) (av nx.succ (Vv [I 0]) (av nx (Vv [.nilp]) h)))))=Vv [.nils,.nils,.map bm]:=by rw[hbr,hbm,az (by omega)];simp
 have qm:ae bm (av nx.succ.succ.succ.succ (Vv [.ptr nx.succ.succ.succ 0]) (av nx.succ.succ.succ (Vv [.nils,.nils,.map nx.succ.succ]) (av nx.succ.succ (some (.map [])) (av nx.succ (Vv [I 0]) (av nx (Vv [.nilp]) h)))))=some (.map []):=by rw[hbm,az (by omega),az (by omega)];simp
 have q3:ae r3 (av nx.succ.succ.succ.succ (Vv [.ptr nx.succ.succ.succ 0]) (av nx.succ.succ.succ (Vv [.nils,.nils,.map nx.succ.succ]) (av nx.succ.succ (some (.map [])) (av nx.succ (Vv [I 0]) (av nx (Vv [.nilp]) h)))))=Vv [I 0]:=by rw[hr3,az (by omega),az (by omega),az (by omega)];simp
 have q2:ae nx (av nx.succ.succ.succ.succ (Vv [.ptr nx.succ.succ.succ 0]) (av nx.succ.succ.succ (Vv [.nils,.nils,.map nx.succ.succ]) (av nx.succ.succ (some (.map [])) (av nx.succ (Vv [I 0]) (av nx (Vv [.nilp]) h)))))=Vv [.nilp]:=by rw[az (by omega),az (by omega),az (by omega),az (by omega)];simp
 have n4:b4.toNat=nx.toNat+4:=by rw[hb4];omega
 have nr:br.toNat=nx.toNat+3:=by rw[hbr];omega
 have nm:bm.toNat=nx.toNat+2:=by rw[hbm];omega
 have n3:r3.toNat=nx.toNat+1:=by rw[hr3];omega
 rw[←hb4,←hr3]at *;generalize av b4 _ _=h1 at *;have s6:=kTSu b4;have vj1:ae bj h1=Vv (jB X mi cO (bZ mi) (ik os os.length)):=by rw[e1.g bj bjn];exact vj
 have hj5:List.take 5 (List.drop 5 (jB X mi cO (bZ mi) (ik os os.length)))=eC (0,bZ mi):=rfl;have bG:(jB X mi cO (bZ mi) (ik os os.length)).length=11:=rfl;have aDU:(bZ mi).kids.length≤3:=EJ (Uz hi);have R1:RB nx [] br bm .nils .nils none [] h1 b4.succ:=by refine⟨qr,qm,by omega,by omega,Gr.nil _ _ _,by simp,by simp,by simp,by simp,by simp,by simp,⟨rfl,rfl⟩,⟨fun e=>by rw[e]at nr;omega,by omega,by omega⟩⟩
 simp[ns,q4,vj1,hj5,bG,rA,zQ];refine(ahU S H (l:=[]) (by simp) (by simp) (x:=(0,bZ mi)) aDU (by omega) R1).mono ?_;rintro o h2 aU ⟨⟨j,cC,oC,E,hj,rfl,R2,how⟩,n2,k2⟩;have my:dp ([]:List (Cf St)) (0,bZ mi)=[(0,bZ mi)]:=rfl;rw[my]at R2;simp;simp[nu];have k2':∀b:Key,b.toNat<b4.succ.toNat→b≠br→b≠bm→ae b h2=ae b h1:=fun b hb h1 h2=>k2 b hb h1 h2 (by simp) (by simp);have own:∀b,(oC=some b∨∃e∈E,e.o=some b)→b4.succ.toNat≤b.toNat:=fun b hb=>by
  rcases how b hb with(h1|⟨e,he,_⟩)|h1
  ·cases h1
  ·simp at he
  ·exact h1
 have ne:∀b:Key,b.toNat≠nx.toNat+3→b.toNat≠nx.toNat+2→b≠br∧b≠bm:=fun b h1 h2=>⟨fun e=>h1 (by rw[e];exact nr),fun e=>h2 (by rw[e];exact nm)⟩;have A0:ExA X mi os cO (0,bZ mi) bj b4 nx r3 br bm nx h 0 [(0,bZ mi)] cC .nils oC none E [] [] (av (K 5) (some (I 0)) (av (K 17) (some (I j)) (av (K 4) (some (.ptr b4 0)) (av (K 3) (some (.ptr r3 0)) (av (K 2) (some (.ptr nx 0)) (av (K 0) (some (.ptr bj 0)) .nil)))))) h2 aU:=by
  refine⟨by simp,by simp,by simp,by simp,by simp,R2,⟨Gr.nil _ _ _,by simp,by simp⟩,rfl,by simp,?_,?_,⟨.nilp,?_⟩,⟨I 0,?_⟩,by omega,?_,fun e=>by rw[←e]at n3;omega,by omega,Kept.start (by omega),rfl,rfl,?_,by simp,kN.nil _ _ _,?_⟩
  ·have h1:=ne b4 (by omega) (by omega);rw[k2' b4 (by omega) h1.1 h1.2];exact q4
  ·have h1:=ne bj (by omega) (by omega);rw[k2' bj (by omega) h1.1 h1.2];exact vj1
  ·have h1:=ne nx (by omega) (by omega);rw[k2' nx (by omega) h1.1 h1.2];exact q2
  ·have h1:=ne r3 (by omega) (by omega);rw[k2' r3 (by omega) h1.1 h1.2];exact q3
  ·intro b hb;have By:b.toNat<b4.succ.toNat∧b.toNat≠nx.toNat+3∧b.toNat≠nx.toNat+2:=by rcases hb with rfl|rfl|rfl|rfl<;>omega
   have h1:=ne b By.2.1 By.2.2;refine⟨h1.1,h1.2,fun e=>by have:=own b (.inl e);omega,fun e he ho=>by have:=own b (.inr ⟨e,he,ho⟩);omega,by simp⟩
  ·intro y hy;simp at hy;subst hy;exact Uz hi
  ·refine⟨by omega,fun b hb=>?_⟩;have h1:=ne b (by omega) (by omega);rw[k2' b (by omega) h1.1 h1.2];exact e1.g b hb
 refine ani S H hi qx vz ho hcO (c0:=(0,bZ mi)) (bj:=bj) (b4:=b4) (r2:=nx) (r3:=r3) (br:=br) (bm:=bm) (n0:=nx) (h0:=h) (m:=1024) ⟨0,[(0,bZ mi)],cC,.nils,oC,none,E,[],rfl,{A0 with g0:=?_,g2:=?_,g3:=?_,g4:=?_,g5:=?_}⟩ ?_ ?_
 ·simp
 ·simp
 ·simp
 ·simp
 ·simp
 ·intro ds aw h' nx' g2 g3 w2 w3 hb D e;refine ajX g2 g3 w2 w3 (fun _=>rfl) (fun _=>rfl) D fun h2 h3=>?_;refine⟨⟨e.n,fun b By=>?_⟩,.inl ⟨hb,rfl⟩⟩;rw[h3 b (fun hm=>by have:=D.ge b hm;omega)];exact e.g b By
 ·intro ds aw h' nx' l cC cS oC oS E cs A hb;obtain⟨u2,w2⟩:=A.w2;obtain⟨u3,w3⟩:=A.w3;have r23:=A.r23;have w33:∀B,ae r3 (av nx B h')=Vv [u3]:=fun B=>by rw[aR _ _ _ _ (Ne.symm r23)];exact w3
  simp;simp[mq,A.g2,A.g3,A.g4,A.v4,w2,w33];have k5:∀b:Key,b≠nx→b≠r3→ae b (av r3 (Vv [I 0]) (av nx (Vv [.ptr br 0]) h'))=ae b h':=fun b h1 h2=>by rw[aR _ _ _ _ h2,aR _ _ _ _ h1]
  have z2:ae nx (av r3 (Vv [I 0]) (av nx (Vv [.ptr br 0]) h'))=Vv [.ptr br 0]:=by rw[aR _ _ _ _ r23];simp
  have z3:ae r3 (av r3 (Vv [I 0]) (av nx (Vv [.ptr br 0]) h'))=Vv [I 0]:=by simp
  have D5:kN nx ds (av r3 (Vv [I 0]) (av nx (Vv [.ptr br 0]) h')) nx':=A.d.cy (fa _) fun b _ hg=>by rw[k5 b (by rintro rfl;rw[w2]at hg;cases hg) (by rintro rfl;rw[w3]at hg;cases hg)];exact hg
  generalize av r3 (Vv [I 0]) (av nx (Vv [.ptr br 0]) h')=h5 at *;refine ajX (by simp[A.g2]) (by simp[A.g3]) z2 z3 (fun _=>rfl) (fun _=>rfl) D5 fun h2 h3=>?_;have cy:∀b:Key,((∃l k,ae b h'=some (.cells l k))∨ae b h'=some .tok∨∃l,ae b h'=some (.map l))→b≠nx→b≠r3→ae b h2=ae b h':=fun b hb h1 h4=>by have h6:=k5 b h1 h4;rw[h3 b (axb D5 (by rw[h6];exact hb)),h6]
  have ajZ:=A.sep nx (.inr (.inr (.inl rfl)));have aj0:=A.sep r3 (.inr (.inr (.inr rfl)));refine⟨⟨A.e.n,fun b By=>?_⟩,.inr ⟨l,br,cC,cS,cs,hb,rfl,A.kp,A.fst,A.ok,⟨⟨bm,oC,E,A.R.cy (fa _) fun b hb=>?_⟩,⟨oS,A.B.G.cy (fa _) fun b hb=>?_⟩,A.B.vV,A.csl,A.row⟩⟩⟩
  ·rw[h3 b (fun hm=>by have:=D5.ge b hm;omega),k5 b (fun e=>by rw[e]at By;omega) (fun e=>by rw[e]at By;omega)];exact A.e.g b By
  ·rcases hb with rfl|rfl|hb|⟨e,he,hb⟩
   ·exact cy _ (.inl ⟨_,_,A.R.xG⟩) (Ne.symm ajZ.1) (Ne.symm aj0.1)
   ·exact cy _ (.inr (.inr ⟨_,A.R.map⟩)) (Ne.symm ajZ.2.1) (Ne.symm aj0.2.1)
   ·refine cy b ?_ (fun e=>ajZ.2.2.1 (by rw[←e];exact hb)) (fun e=>aj0.2.2.1 (by rw[←e];exact hb));rcases A.R.C.ct hb with h1|h1
    ·exact .inl h1
    ·exact .inr (.inl h1)
   ·refine cy b ?_ (fun e'=>ajZ.2.2.2.1 e he (by rw[←e'];exact hb)) (fun e'=>aj0.2.2.2.1 e he (by rw[←e'];exact hb));rcases (A.R.B e he).ct hb with h1|h1
    ·exact .inl h1
    ·exact .inr (.inl h1)
  ·refine cy b ?_ (fun e=>ajZ.2.2.2.2 (by rw[←e];exact hb)) (fun e=>aj0.2.2.2.2 (by rw[←e];exact hb));rcases A.B.G.ct hb with h1|h1
   ·exact .inl h1
   ·exact .inr (.inl h1)
end Ln
namespace Ln
open Go.Sx Go
def eF(l:List Bool):List AV:=l.map fun b=>.bool b
theorem Gw(l:List Bool):(eF l).length=l.length:=List.length_map ..
theorem Gx{l:List Bool}{i:Nat}(h:i<l.length):(eF l)[i]?=some (.bool l[i]):=by unfold eF;rw[List.getElem?_map,xF h];rfl
theorem SV{l:List Bool}{i:Nat}(h:i<l.length)(v:Bool):List.take i (eF l) ++ .bool v ::List.drop (i+1) (eF l)=eF (l.set i v):=by unfold eF;rw[List.map_set,List.set_eq_take_append_cons_drop,if_pos (by rw[List.length_map];exact h)]
def Hv(base:List Bool)(row:List (Nat×Nat)):Bool:=row.any fun t=>base.getD t.2 false
def GdI(row:List (Nat×Nat))(base:List Bool)(p:Nat)(v0:Bool)(c77:AV)(b14 bg:Key)(h:T ah)(nx:Key)(P:T AV→Prop)(m:Nat)(aw:T AV)(h':T ah)(nx':Key):Prop:=∃j:Nat,m=row.length-j∧j≤row.length∧P aw∧ae (K 14) aw=some (.ptr b14 0)∧ae (K 15) aw=some (I (p:Int))∧ae (K 77) aw=some c77∧ae (K 78) aw=some (I row.length)∧ae (K 79) aw=some (I j)∧ae bg h'=Vv (eF (base.set p (v0||Hv base (row.take j))))∧nx.toNat≤nx'.toNat∧∀b:Key,b.toNat<nx.toNat→b≠bg→ae b h'=ae b h
variable{C:bK}{X:Kn}(S:Std C X)(H:Mk C)
theorem aqa{row:List (Nat×Nat)}{c77:AV}(Lt:iB 2 eT c77 row)(T8:row.length≤1000){base:List Bool}{p:Nat}(hp:p<base.length)(MB:base.length≤1024)(hto:∀t∈row,p<t.2∧t.2<base.length){v0:Bool}{b14 bg:Key}{h:T ah}{nx:Key}(v14:ae b14 h=Vv [.slice bg 0 base.length 1])(ZB:b14.toNat<nx.toNat)(bgn:bg.toNat<nx.toNat)(bne:b14≠bg){P:T AV→Prop}(hP:∀tm k v,P tm→(k=K 17∨k=K 79∨(80≤k.toNat∧k.toNat≤97))→P (av k v tm)){Q:cH}{m:Nat}{tm:T AV}{h1:T ah}{bF:Key}(A:GdI row base p v0 c77 b14 bg h nx P m tm h1 bF)
  (fg:∀aw h' nx',P aw→ae (K 15) aw=some (I (p:Int))→ae (K 14) aw=some (.ptr b14 0)→ae bg h'=Vv (eF (base.set p (v0||Hv base row)))→nx.toNat≤nx'.toNat→(∀b:Key,b.toNat<nx.toNat→b≠bg→ae b h'=ae b h)→Q .norm aw h' nx') :
  W C (.loop wF) (aA 2 Q) tm h1 bF:=by
 refine W.cM (GdI row base p v0 c77 b14 bg h nx P) A ?_;rintro m dD h2 aU ⟨j,rfl,hj,hPt,g14,g15,g77,g78,g79,vg,hn,hf⟩;refine W.of ?_;simp[wF];by_cases bG:j<row.length
 ·have sZ:(j:Int)<row.length:=by omega
  have hR:=Lt.rd h2 aU;have s2:=kTSu aU;have alO:ae b14 h2=Vv [.slice bg 0 base.length 1]:=by rw[hf b14 ZB bne];exact v14
  obtain⟨ht1,ht2⟩:=hto _ (Mg bG);have Hr:Hv base (row.take (j+1))=(Hv base (row.take j)||base.getD row[j].2 false):=by unfold Hv;rw[Zz bG,List.any_append];simp
  have hce:(eT row[j]).all AV.aP=true:=vJ.2 (gi.cell _);have hle:(eT row[j]).length=2:=rfl;have he1:(eT row[j])[1]?=some (I (row[j].2:Int)):=rfl;simp[tN,g78,g79,sZ];simp only[Cy,Wc,aht,ahu,Wf,ahv,Wg,ahw,ahx,Wd,We,ahy,ahz,ahA,ahB];simp[↓hR.ix gi bG,g77,g79,hce,hle];generalize row[j]=t at *;generalize hv:(v0||Hv base (row.take j))=vj at *;have e3:=E0 h2 aU (.cells (eT t) .fix);have v17:ae aU (av aU (Vv (eT t)) h2)=Vv (eT t):=by simp
  have v143:ae b14 (av aU (Vv (eT t)) h2)=Vv [.slice bg 0 base.length 1]:=by rw[e3.g b14 (by omega)];exact alO
  have vg3:ae bg (av aU (Vv (eT t)) h2)=Vv (eF (base.set p vj)):=by rw[e3.g bg (by omega)];exact vg
  have k3:∀b:Key,b.toNat<nx.toNat→b≠bg→ae b (av aU (Vv (eT t)) h2)=ae b h:=fun b hb bU=>by rw[e3.g b (by omega)];exact hf b hb bU
  generalize av aU (Vv (eT t)) h2=h3 at *;have hls:(base.set p vj).length=base.length:=List.length_set;have ahC:(eF (base.set p vj)).length=base.length:=by rw[Gw,hls]
  have hgp:(eF (base.set p vj))[p]?=some (.bool vj):=by rw[Gx (by rw[hls];exact hp)];simp
  have MC:(eF (base.set p vj))[t.2]?=some (.bool (base.getD t.2 false)):=by rw[Gx (by rw[hls];exact ht2),List.getElem_set_ne (by omega),List.getD_eq_getElem?_getD,xF ht2];rfl
  have alQ:∀hh,(eF (base.set p vj))[p]'hh=.bool vj:=fun hh=>by rw[xF hh]at hgp;exact Option.some.inj hgp
  have aqd:∀hh,(eF (base.set p vj))[t.2]'hh=.bool (base.getD t.2 false):=fun hh=>by rw[xF hh]at MC;exact Option.some.inj MC
  have Uv:=fun v=>SV (l:=base.set p vj) (i:=p) (by rw[hls];exact hp) v;simp only[List.set_set]at Uv;have h1p:p+1≤base.length:=hp;have fin:∀aW:T AV,P aW→ae (K 14) aW=some (.ptr b14 0)→ae (K 15) aW=some (I (p:Int))→ae (K 77) aW=some c77→ae (K 78) aW=some (I row.length)→ae (K 79) aW=some (I j)→
    lH C (aM (fun tm h_1 az1=>∃m,m<row.length-j∧GdI row base p v0 c77 b14 bg h nx P m tm h_1 az1) (aA 2 Q)) tO aW (av bg (Vv (eF (base.set p (vj||base.getD t.2 false)))) h3) aU.succ:=by
   intro aW hP2 q14 q15 q77 q78 q79;simp[-List.getD_eq_getElem?_getD,tO,q79];rw[aC (by omega) (by omega)];refine⟨row.length-(j+1),by omega,j+1,rfl,by omega,hP _ _ _ (hP _ _ _ hP2 (.inr (.inr ⟨by decide,by decide⟩))) (.inr (.inl rfl)),by simp[q14],by simp[q15],by simp[q77],by simp[q78],by simp,?_,by omega,fun b hb bU=>by rw[aR _ _ _ _ bU];exact k3 b hb bU⟩;rw[gTSm,Hr,←Bool.or_assoc,hv]
  cases hvj:vj with
  |true=>
   rw[hvj]at vg3 ahC alQ aqd Uv hls fin;have hpt:=Uv true;simp only[Bool.true_or]at fin;simp[tP,g14,g15,v143,vg3,hp,alQ,ahC,h1p,hpt];refine fin _ ?_ ?_ ?_ ?_ ?_ ?_
   ·repeat' (first|exact hPt|refine hP _ _ _ ?_ (by first|exact .inl rfl|exact .inr (.inl rfl)|exact .inr (.inr ⟨by decide,by decide⟩)))
   ·simp[g14]
   ·simp[g15]
   ·simp[g77]
   ·simp[g78]
   ·simp[g79]
  |false=>
   rw[hvj]at vg3 ahC alQ aqd Uv hls fin;have hpt:=Uv (base.getD t.2 false);simp only[Bool.false_or]at fin;simp[-List.getD_eq_getElem?_getD,tP,g14,g15,v143,v17,vg3,hp,alQ,aqd,ht2,he1,ahC,h1p,hpt];refine fin _ ?_ ?_ ?_ ?_ ?_ ?_
   ·repeat' (first|exact hPt|refine hP _ _ _ ?_ (by first|exact .inl rfl|exact .inr (.inl rfl)|exact .inr (.inr ⟨by decide,by decide⟩)))
   ·simp[g14]
   ·simp[g15]
   ·simp[g77]
   ·simp[g78]
   ·simp[g79]
 ·have vK:j=row.length:=by omega
  subst vK;rw[List.take_length]at vg;simp[tN,g78,g79];refine fg _ _ _ (hP _ _ _ hPt (.inr (.inr ⟨by decide,by decide⟩))) (by simp[g15]) (by simp[g14]) vg hn hf
end Ln
