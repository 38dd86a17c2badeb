/- A part of the proof. No condition. -/
import Derived.Test.YtecbfpngkfdkoaaGreatP38
import Derived.Test.YtecbfpngkfdkoaaGreatP6
import Derived.Lib.LaidTab
set_option linter.unusedSimpArgs false
set_option linter.unusedVariables false
set_option linter.unusedSectionVars false
namespace Ln
open Go.Sx Go
def xV(j:Nat)(l:List Cl):List Cl:=(l.take j).map sU++l.drop j
theorem Wr(j:Nat)(l:List Cl):(xV j l).length=l.length:=by unfold xV;rw[DG,List.length_map,UD,List.length_drop];omega
theorem aiW{l:List Cl}{j:Nat}{x:Cl}(h:l[j]?=some x):(xV j l)[j]?=some x:=by have hl:=(List.getElem?_eq_some_iff.1 h).1;unfold xV;rw[List.getElem?_append_right (by simp;omega),List.length_map,UD,Nat.min_eq_left (by omega),Nat.sub_self,List.getElem?_drop];exact h
theorem aiX{l:List Cl}{j:Nat}{x:Cl}(h:l[j]?=some x):(xV j l).set j (sU x)=xV (j+1) l:=by obtain⟨hl,e⟩:=List.getElem?_eq_some_iff.1 h;unfold xV;rw[List.set_append_right _ _ (by simp;omega),List.length_map,UD,Nat.min_eq_left (by omega),Nat.sub_self,zqt hl,List.set_cons_zero,zqu hl,List.map_append,e];simp
variable{C:bP}{X:Kn}{Y:BJ}{i:Nat}{b bc:Key}{w:Wd}{h0 h:T ah}{n0 nx:Key}(S:Std C X)(A:Zz C X Y)(J:Sqf C)
def CrV(X:Kn)(Y:BJ)(i:Nat)(b bc:Key)(w:Wd)(h0:T ah)(n0:Key)(m:Nat)(tm:T AV)(h:T ah)(nx:Key):Prop:=
 ∃j:Nat,m=3-j∧j≤3∧ag (K 0) tm=some (.ptr b 0)∧ag (K 63) tm=some (I 3)∧ag (K 64) tm=some (I j)∧Et X Y i b bc {w with cls:=xV j w.cls} h0 n0 h nx
include J
theorem ad1{P:cH}{m:Nat}{tm:T AV}(h3:w.cls.length=3)(hf:∀(j:Nat) (x:Cl),w.cls[j]?=some x→x.fin<1000)(hV:CrV X Y i b bc w h0 n0 m tm h nx)
  (hQ:∀(aD:T AV) (h':T ah) (nx':Key),CrV X Y i b bc w h0 n0 0 aD h' nx'→P .norm aD h' nx'):W C (.loop mb) (aG 0 P) tm h nx:=by
 refine W.fh (CrV X Y i b bc w h0 n0) hV ?_;rintro m dc h1 bw ⟨j,rfl,hj,g0,g63,g64,V⟩;refine W.of ?_;simp[mb];simp[sV,g63,g64];refine⟨fun cQ=>?_,fun P9=>?_⟩
 ·have hj3:j<3:=by omega
  obtain⟨cE,oE,hb,g,ho⟩:=V.ev;have hx:=pY (show j<w.cls.length by omega);have hfx:=hf j _ hx;generalize w.cls[j]=x at *;have hx2:=aiW hx;have a:=clA (Y:=Y) hx2;have hl:=mE (Y:=Y) (xV j w.cls);rw[Wr,h3]at hl;have b1:=V.cb;have hs:=aiX hx;have l3:(xV j w.cls).length=3:=by rw[Wr];exact h3
  have h21:j*8≤21:=by omega
  have h22:j*8≤22:=by omega
  have hw0:bD .i64 ((j:Int)+1)=((j+1:Nat):Int):=aO (by omega) (by omega);simp only[vl]at hb;simp[sW,g64];simp[sX,g0,hb,hj3];cases ho:x.op with
  |false=>
   have el:sU x=x:=by unfold sU;rw[ho];rfl
   rw[el,show(xV j w.cls).set j x=xV j w.cls from ?_]at hs
   ·simp[kN,b1,hl,a.r2,ho];simp[-Int.natCast_add,kO,g64,hw0];refine⟨3-(j+1),by omega,j+1,rfl,by omega,by simp[g0],by simp[g63],by simp,?_⟩;rw[←hs];exact V
   ·apply List.ext_getElem?;intro k;rw[List.getElem?_set];split
    ·rename_i hk;subst hk;rw[if_pos (by rw[l3];exact hj3),hx2]
    ·rfl
  |true=>
   have el:sU x={x with op:=false,fin:=x.fin+1}:=by unfold sU;rw[ho];rfl
   have x1:=qC (y:={x with op:=false}) hx2;have a1:=clA (Y:=Y) x1;have w1:=a.w2 false;have w2':=a1.w1 (x.fin+1);rw[List.set_set]at w2';have l1:=mE (Y:=Y) ((xV j w.cls).set j {x with op:=false});rw[List.length_set,l3]at l1;have OW:bD .i64 ((x.fin:Int)+1)=((x.fin+1:Nat):Int):=aO (by omega) (by omega);simp[kN,b1,hl,a.r2,ho];simp[sY,b1,hl,h21,w1];simp[-Int.natCast_add,sZ,hl,l1,h21,h22,a1.r1,OW,w2'];simp[-Int.natCast_add,kO,g64,hw0];refine⟨3-(j+1),by omega,j+1,rfl,by omega,by simp[g0],by simp[g63],by simp,?_⟩;rw[←hs,el];exact V.aqb (cls':=(xV j w.cls).set j {x with op:=false,fin:=x.fin+1}) (by rw[List.length_set];exact l3)
 ·have:j=3:=by omega
  subst this;exact hQ _ _ _ ⟨3,by omega,by omega,by simp[g0],by simp[g63],by simp[g64],V⟩
include S A
theorem ad3(Cc:1≤i)(AL:i<3)(V:Et X Y i b bc w h0 n0 h nx)(hlen:w.eG.length<64)(hf:∀(j:Nat) (x:Cl),w.cls[j]?=some x→x.fin<1000):aJ C gA [.ptr b 0] h nx (fun o h' nx'=>o=.ret (I 0)∧Et X Y i b bc ⟨w.sh,w.eG ++ [IK],w.cls.map sU⟩ h0 n0 h' nx'):=by
 have s1:=kTSu nx;have s2:=kTSu nx.succ;have s3:=kTSu nx.succ.succ;have rE:=S.r fi;obtain⟨cE,oE,hb,g,ho⟩:=V.ev;have OV:=V.nb;have lL:=fun {Q L tm h2 n2 k1 d1}=>g.aAn.ln (C:=C) (Q:=Q) (L:=L) (tm:=tm) (h2:=h2) (n2:=n2) (k1:=k1) (d1:=d1);have h64:(w.eG.length:Int)<64:=by omega
 have hs:=V.sh;have eS1:=hs.eS Cc;have hr:∀k,k<45→(uW Y i k).aM=true:=fun k hk=>GA A Cc AL hk;have zr:∀k,k<45→∀n H,aS n (uW Y i k) H=(uW Y i k,H):=fun k hk=>aqG A Cc AL hk;obtain⟨x1,x2,x3,key⟩:=A.atw i Cc AL w.sh hs;rw[eS1,alS A Cc AL]at key;have fF:=hb;simp only[vl]at fF;refine J.xW.call ?_;simp[qM];simp[vH];simp only[vJ,sM,xK,xL,sN,xM,sO,xN,xO,sP,sQ,xP,xQ,xR,xS];simp[↓lL,fF,h64];simp[vK,fF];have E1:=E0 h nx (.cells [.str 1 115,I 0,I w.sh.n,.str 0 0,.nils] .fix);have b1:=(E1.g b OV.2).trans fF;have m1:ag nx (aw nx (QZ [.str 1 115,I 0,I w.sh.n,.str 0 0,.nils]) h)=QZ [.str 1 115,I 0,I w.sh.n,.str 0 0,.nils]:=by simp
 generalize aw nx (QZ [.str 1 115,I 0,I w.sh.n,.str 0 0,.nils]) h=h1 at *;obtain⟨h2,f2,g2,k2,m2⟩:=Rs (len:=1) (sz:=5) m1 rfl (by intro y hy;simp at hy;rcases hy with rfl|rfl|rfl|rfl|rfl<;>first|exact jj _ _|exact c5 _ _|exact qG);simp[vL,b1,rE,f2,zr];refine aJ.known (key h2 _) ?_;simp;have ZN:∀y:Key,y.toNat<nx.succ.toNat→ag y (aw nx.succ.succ (QZ [I x1,I x2,I x3]) (aw nx.succ (QZ [I 0,I w.sh.n,.str 0 0,.nils]) (aw nx.succ.succ (QZ [I 0,I 0,I 0]) h2)))=ag y h2:=fun y hy=>by rw[aA (by omega),aA hy,aA (by omega)]
 have v4:ag nx.succ (aw nx.succ.succ (QZ [I x1,I x2,I x3]) (aw nx.succ (QZ [I 0,I w.sh.n,.str 0 0,.nils]) (aw nx.succ.succ (QZ [I 0,I 0,I 0]) h2)))=QZ [I 0,I w.sh.n,.str 0 0,.nils]:=by rw[aA (by omega)];simp
 generalize aw nx.succ.succ (QZ [I x1,I x2,I x3]) (aw nx.succ (QZ [I 0,I w.sh.n,.str 0 0,.nils]) (aw nx.succ.succ (QZ [I 0,I 0,I 0]) h2))=h4 at *;have E4:Ext h nx h4 nx.succ.succ.succ:=⟨by omega,fun y hy=>(ZN y (by omega)).trans ((g2 y (by rintro rfl;omega)).trans (E1.g y hy))⟩;have W4:=V.ext E4;have b4:=(E4.g b OV.2).trans hb;have W5:=W4.az0 hs b4;have b5:ag b (aw b (QZ (vl X Y i w.sh.n cE (.slice bc 0 3 8))) h4)=QZ (vl X Y i w.sh.n cE (.slice bc 0 3 8)):=by simp
 simp only[vl]at b4;simp[vN];have eR:aw b (QZ [.sl X.rows 7 45 .any,uW Y i 38,uW Y i 39,uW Y i 40,uW Y i 41,uW Y i 42,uW Y i 43,uW Y i 44,I 200,I 50,I 0,I 0,I 0,I w.sh.n,.str 0 0,.nils,cE,.slice bc 0 3 8]) h4=aw b (QZ (vl X Y i w.sh.n cE (.slice bc 0 3 8))) h4:=rfl;simp[vO,b4,v4,hr];rw[eR];generalize aw b (QZ (vl X Y i w.sh.n cE (.slice bc 0 3 8))) h4=h5 at *;obtain⟨h6,ha,b6,W6⟩:=W5.IA hlen IK b5;have he:eE IK=[I 2,I 0,.str 0 0,.nils,I 0,I 0,.str 0 0,.nils]:=rfl;rw[he]at ha;have gc:=g.cell;have b7:=W6.ev;simp only[vl]at b5 b6;simp[-appendTo,vQ,b5,ha,b6,hr,gc.1,gc.2];have eS:aw b (QZ [.sl X.rows 7 45 .any,uW Y i 38,uW Y i 39,uW Y i 40,uW Y i 41,uW Y i 42,uW Y i 43,uW Y i 44,I 200,I 50,I 0,I 0,I 0,I w.sh.n,.str 0 0,.nils,.slice nx.succ.succ.succ.succ 0 (w.eG.length+1) 8,.slice bc 0 3 8]) h6=aw b (QZ (vl X Y i w.sh.n (.slice nx.succ.succ.succ.succ 0 (w.eG.length+1) 8) (.slice bc 0 3 8))) h6:=rfl;rw[eS];generalize aw b (QZ (vl X Y i w.sh.n (.slice nx.succ.succ.succ.succ 0 (w.eG.length+1) 8) (.slice bc 0 3 8))) h6=h7 at *;obtain⟨cE',oE',hb7,_,_⟩:=b7;simp only[vl]at hb7;simp[vR,hb7];refine ad1 J (w:=⟨w.sh,w.eG ++ [IK],w.cls⟩) (m:=3) V.c3 hf ⟨0,by simp,by omega,by simp,by simp,by simp,W6⟩ ?_;rintro tm h8 nx8 ⟨j,hj0,hj,_,_,_,W8⟩;have:j=3:=by omega
 subst this;have e3:xV 3 w.cls=w.cls.map sU:=by unfold xV;have:=V.c3;rw[Lm (by omega),List.drop_eq_nil_of_le (by omega),List.append_nil]
 simp;simp[ta];rw[←e3];exact W8
end Ln
namespace Ln
open Go.Sx Go
def Qh:Nat→List Cl→List Nat
 |_,[]=>[]
 |j,x ::l=>(if x.fin<x.calls.length then [j]else [])++Qh (j+1) l
theorem Z6:∀(l:List Cl) (j:Nat) (x:Cl),Qh j (l ++ [x])=Qh j l++if x.fin<x.calls.length then [j+l.length]else []
 | [],j,x=>by simp[Qh]
 |y ::l,j,x=>by simp only[List.cons_append,Qh,Z6 l,List.append_assoc,ZW];rw[show j+1+l.length=j+(l.length+1) by omega]
theorem ag9:∀{l:List Cl} {j k:Nat},k∈Qh j l→∃x:Cl,l[k-j]?=some x∧j≤k∧x.fin<x.calls.length
 | [],_,_,h=>by simp[Qh]at h
 |y ::l,j,k,h=>by
  simp only[Qh]at h;rcases List.mem_append.1 h with h|h
  ·split at h
   ·simp at h;subst h;exact⟨y,by simp,fE _,‹_›⟩
   ·simp at h
  ·obtain⟨x,h1,h2,h3⟩:=ag9 h;exact⟨x,by rw[show k-j=(k-(j+1))+1 by omega];simpa using h1,by omega,h3⟩
theorem XE:∀(l:List Cl) (j:Nat),(Qh j l).length≤l.length
 | [],_=>fE _
 |x ::l,j=>by have:=XE l (j+1);simp only[Qh,DG,ZW];split<;>simp<;>omega
variable{C:bP}{X:Kn}{Y:BJ}{i:Nat}{b bc:Key}{w:Wd}{h0 h:T ah}{n0 nx:Key}(S:Std C X)(A:Zz C X Y)(J:Sqf C)
def RdV(b:Key)(w:Wd)(hB:T ah)(nB:Key)(m:Nat)(tm:T AV)(h:T ah)(nx:Key):Prop:=
 ∃(j:Nat) (cR:AV) (oR:Option Key),m=3-j∧j≤3∧ag (K 0) tm=some (.ptr b 0)∧ag (K 9) tm=some (I 3)∧ag (K 10) tm=some (I j)∧ag (K 3) tm=some cR∧Gr 1 cR (aq eI (jU (Qh 0 (w.cls.take j)))) (jU (Qh 0 (w.cls.take j))).length h nx oR∧(∀x,oR=some x→nB.toNat≤x.toNat)∧Ext hB nB h nx
include S J
theorem adS(V:Et X Y i b bc w h0 n0 h nx):aJ C gy [.ptr b 0] h nx (fun o h' nx'=>(∃cR,nW 1 eI cR (jU (Qh 0 w.cls))∧o=.ret cR)∧Ext h nx h' nx'):=by
 have rR:=S.r df;obtain⟨cE,oE,hb,g,ho⟩:=V.ev;have fF:=hb;simp only[vl]at fF;have AN:=V.c3;refine J.xD.call ?_;simp[qI];simp[vt];simp[vw];simp[vz,fF];refine W.fh (n:=3) (RdV b w h nx) ⟨0,.nils,none,by simp,by omega,by simp,by simp,by simp,by simp,by simpa[Qh,jU]using Gr.nil 1 h nx,by simp,Ext.refl _ _⟩ ?_;rintro m dc h1 bw ⟨j,cR,oR,rfl,hj,g0,g9,g10,g3,G,lV,E⟩;refine W.of ?_;have V1:=V.ext E;have b1:=(E.g b V.nb.2).trans fF;simp[vA];simp[vB,g9,g10];refine⟨fun cQ=>?_,fun P9=>?_⟩
 ·have hj3:j<3:=by omega
  have hx:=pY (show j<w.cls.length by omega);have ht:=zqu (show j<w.cls.length by omega);generalize w.cls[j]=x at *;have hr:Qh 0 (w.cls.take (j+1))=Qh 0 (w.cls.take j)++if x.fin<x.calls.length then [j]else []:=by rw[ht,Z6,Nat.zero_add,UD,Nat.min_eq_left (by omega)]
  have hw0:bD .i64 ((j:Int)+1)=((j+1:Nat):Int):=aO (by omega) (by omega);simp[vC,g10];simp[vD,g0,b1,hj3,rR];refine(O3 J V1 hx).mono ?_;rintro o h2 bu ⟨rfl,rfl,rfl⟩;by_cases hf:x.fin<x.calls.length
  ·rw[if_pos hf]at hr;have s2:=kTSu bu;have G2:=G.ext (E0 h2 bu (.cells [I j] .fix));have hol:(jU (Qh 0 (w.cls.take j))).length≤3:=by have:=XE (w.cls.take j) 0;simp only[jU,List.length_map];rw[UD]at this;omega
   obtain⟨cR',h4,kK,oR',ha,G4,F4⟩:=G2.Z7 L0 rfl (by decide) (by omega) (j:Int);have e1:eI (j:Int)=[I j]:=rfl;rw[e1]at ha;have n4:=F4.n;have nE:=E.n;simp[hf];simp[-appendTo,vE,g3,ha];simp[-Int.natCast_add,l9,g10,hw0];refine⟨3-(j+1),by omega,j+1,cR',oR',rfl,by omega,by simp[g0],by simp[g9],by simp,by simp,?_,fun x hx=>?_,⟨by omega,fun x hx=>?_⟩⟩
   ·rw[hr];simpa[jU]using G4
   ·rcases F4.o with e|⟨y,e,hy⟩
    ·exact lV x (e ▸ hx)
    ·rw[e]at hx;cases hx;omega
   ·rw[F4.g x (by omega) (fun e=>by have:=lV x e;omega),aA (by omega)];exact E.g x hx
  ·rw[if_neg hf,List.append_nil]at hr;simp[hf];simp[-Int.natCast_add,l9,g10,hw0];exact⟨3-(j+1),by omega,j+1,cR,oR,rfl,by omega,by simp[g0],by simp[g9],by simp,by simp[g3],by rw[hr];exact G,lV,E⟩
 ·have:j=3:=by omega
  subst this;have e3:w.cls.take 3=w.cls:=Lm (by omega);rw[e3]at G;obtain⟨c',H,hf,hI,hk⟩:=RH L0 G 9998;have hf:aS 9999 cR h1=(c',H):=hf;simp[vG,g3,hf];exact⟨hI,⟨E.n,fun x hx=>(hk x (fun e=>by have:=lV x e;omega)).trans (E.g x hx)⟩⟩
def aFv(X:Kn)(Y:BJ)(i:Nat)(b bc:Key)(w:Wd)(h0:T ah)(n0:Key)(o:Out)(h':T ah)(nx':Key):Prop:=o=.ret (I 0)∧∃w' gs' aiO,Inv i w' gs' aiO∧Et X Y i b bc w' h0 n0 h' nx'∧w'.eG.length≤w.eG.length+1
include A
theorem aiP(hi:i=1∨i=2){gs:List Gh}{wR:List Nat}(N:Inv i w gs wR)(V:Et X Y i b bc w h0 n0 h nx)(hlen:w.eG.length<64){c:Nat}{x:Cl}(hx:w.cls[c]?=some x)(hrd:x.fin<x.calls.length):aJ C gZ [.ptr b 0,I c] h nx (aFv X Y i b bc w h0 n0):=by
 have Cc:1≤i:=by omega
 have AL:i<3:=by omega
 have s1:=kTSu nx;have rR:=S.r df;have rN:=S.r gz;have rB:=S.r cp;have rA:=S.r cX;have rE:=S.r c9;obtain⟨cE,oE,hb,g,ho⟩:=V.ev;have fF:=hb;simp only[vl]at fF;have hc:=V.lt3 hx;have hq:=pY hrd;have hcf:=N.cf c x hx;generalize x.calls[x.fin]=q at *;obtain⟨hm,ha,hsm⟩:=hcf.q q (List.mem_of_getElem? hq);have AF:¬(c:Int)<0:=by omega
 have AN:¬(3:Int)≤c:=by omega
 have aFw:(c:Int)<3:=by omega
 refine J.zh.call ?_;simp[tW];simp[xE];simp[xF,fF,AF,AN,aFw];simp[xG,fF,hc];simp[xH,rR];refine(O3 J V hx).mono ?_;rintro o h2 bu ⟨rfl,rfl,rfl⟩;simp[hrd];simp[xI];have E1:=E0 h2 bu (.cells [.fn cp [] [],.fn cX [] [],.fn c9 [] []] .fix);have V1:=V.ext E1;have f1:ag bu (aw bu (QZ [.fn cp [] [],.fn cX [] [],.fn c9 [] []]) h2)=QZ [.fn cp [] [],.fn cX [] [],.fn c9 [] []]:=by simp
 generalize aw bu (QZ [.fn cp [] [],.fn cX [] [],.fn c9 [] []]) h2=h3 at *;simp only[xJ,sM,xK,xL,sN,xM,sO,xN,xO,sP,sQ,xP,xQ,xR,xS];simp[rN];refine(aiR J A V1 hx hq).mono ?_;rintro o h4 kK ⟨rfl,rfl,rfl⟩;cases lf:x.op with
 |false=>simp[f1,rB];refine(adT J A S Cc AL V1 hlen hx hq gs.length).mono ?_;rintro o h5 Z8 ⟨rfl,V5⟩;simp;exact⟨rfl,_,_,_,aiS N (by omega) hx lf hq,V5,by simp⟩
 |true=>
  obtain⟨o1,g1,k1,k2,k3,k4,k5,k6,k7⟩:=N.k1 c x hx lf;rcases k7 with⟨d0,d1,d2⟩|⟨d0,d1,d2⟩
  ·have Xo:=N.can hi hm;simp[d0,f1,rA];refine(ak8 S A J Cc AL V1 hx hq hm ha Xo d0 d2).mono ?_;rintro o h5 Z8 ⟨rfl,V5⟩;simp;exact⟨rfl,_,_,_,aqv N hx lf d0 hq Xo,V5,by simp⟩
  ·have bW:x.dn≠0:=by omega
   have hfx:x.fin<1000:=by have:=hcf.len;omega
   simp[d0,f1,rE];refine(alG J A S Cc AL V1 hlen hx hfx).mono ?_;rintro o h5 Z8 ⟨rfl,V5⟩;simp;exact⟨rfl,_,_,_,aqw N (by omega) hx lf d0,V5,by simp⟩
end Ln
namespace Ln
open Go.Sx Go
variable{C:bP}{X:Kn}{Y:BJ}(S:Std C X)(J:Sqf C)
include S J
theorem axh{e:Ev}(he:e.args.length≤1000)(h:T ah)(nx:Key):aJ C cr [.agg (eE e)] h nx (fun o h' nx'=>o=.ret (.agg (eE e))∧Ext h nx h' nx'):=by
 have rV:=S.r dH;have rW:=S.r eH;have s1:=kTSu nx;have s2:=kTSu nx.succ;have ng:(eE e).all AV.aM=true:=sF.2 (nZ.cell e);have hl8:(eE e).length=8:=rfl;have ht8:List.take 8 (eE e)=eE e:=rfl;have hd8:List.drop 8 (eE e)=[]:=rfl;have zE:∀H,bA (aS 9998) (eE e) H=(eE e,H):=fun H=>bF (nZ.wU e);have za:∀n H,aS n (aV e.args) H=(aV e.args,H):=gx e.args;have ca:=du e.args;have q3:(eE e)[3]?=some (aV e.args):=rfl;have q3':=lat q3;have q4:List.take 4 (List.drop 4 (eE e))=eU e.res:=rfl;have w3:List.take 3 (eE e)++aV e.args ::List.drop 4 (eE e)=eE e:=rfl;have w4:List.take 4 (eE e)++eU e.res=eE e:=rfl;have zU:∀H,bA (aS 9998) (eU e.res) H=(eU e.res,H):=fun H=>bF (Wc e.res);refine J.qh.call ?_;simp[kP];simp[oi,ng];have e2:=(E0 h nx (.cells (eE e) .fix)).trans (E0 _ nx.succ (.cells [I 0,I 0,.str 0 0,.nils,I 0,I 0,.str 0 0,.nils] .fix));have b1:ag nx (aw nx.succ (QZ [I 0,I 0,.str 0 0,.nils,I 0,I 0,.str 0 0,.nils]) (aw nx (QZ (eE e)) h))=QZ (eE e):=by rw[aA (by omega)];simp
 have b2:ag nx.succ (aw nx.succ (QZ [I 0,I 0,.str 0 0,.nils,I 0,I 0,.str 0 0,.nils]) (aw nx (QZ (eE e)) h))=QZ [I 0,I 0,.str 0 0,.nils,I 0,I 0,.str 0 0,.nils]:=by simp
 generalize aw nx.succ (QZ [I 0,I 0,.str 0 0,.nils,I 0,I 0,.str 0 0,.nils]) (aw nx (QZ (eE e)) h)=h2 at *;simp[om,b1,hl8,q3,q3',rW,za];refine(NA S e.args he h2 nx.succ.succ).mono ?_;rintro o h3 dZ ⟨rfl,e3⟩;have n3:=e3.n;have b13:=(e3.g nx (by omega)).trans b1;have b23:=(e3.g nx.succ (by omega)).trans b2;have hn:nx.succ≠nx:=fun q=>by have:=congrArg Key.toNat q;omega
 simp[b13,hl8,ca.1,ca.2,w3];have E3:=(e2.trans e3).put (k:=nx) (B:=QZ (eE e)) (fE _);have c1:ag nx (aw nx (QZ (eE e)) h3)=QZ (eE e):=by simp
 have c2:ag nx.succ (aw nx (QZ (eE e)) h3)=QZ [I 0,I 0,.str 0 0,.nils,I 0,I 0,.str 0 0,.nils]:=by rw[aP _ _ _ _ hn];exact b23
 generalize aw nx (QZ (eE e)) h3=h4 at *;simp[ou,c1,hl8,q4,rV,zU];refine aJ.known (v:=.agg (eU e.res)) (S.s_Clone ⟨e.res.k,e.res.n,[]⟩ (by simp) _ _) ?_;simp[c1,hl8,agW,Xp,hd8,w4];have d1:ag nx (aw nx (QZ (eE e)) h4)=QZ (eE e):=by simp
 have d2:ag nx.succ (aw nx (QZ (eE e)) h4)=QZ [I 0,I 0,.str 0 0,.nils,I 0,I 0,.str 0 0,.nils]:=by rw[aP _ _ _ _ hn];exact c2
 have E4:=E3.put (k:=nx) (B:=QZ (eE e)) (fE _);generalize aw nx (QZ (eE e)) h4=h5 at *;simp[ov,d1,d2,hl8,ht8,hd8,ng,zE];exact E4.put (by omega)
omit S J in
theorem ajL{l:List Ev}{R0:List AV}{j:Nat}(hj:j<l.length)(hR:R0.length=l.length*8):List.take (j*8) (aq eE (l.take j)++R0.drop (j*8))++(eE l[j]++List.drop (j*8+8) (aq eE (l.take j)++R0.drop (j*8)))=aq eE (l.take (j+1))++R0.drop ((j+1)*8):=by
 have cQ:(l.take j).length=j:=by rw[UD];omega
 have hr:(aq eE (l.take j)).length=j*8:=by rw[nZ.rows,cQ]
 rw[List.take_append_of_le_length (by omega),Lm (by omega),zqq,hr,List.drop_eq_nil_of_le (by omega),List.nil_append,List.drop_drop];rw[zqu hj,ju,iC,List.append_assoc];congr 3;omega
def CpE(l:List Ev)(c0:AV)(R0:List AV)(bn:Key)(h:T ah)(nx:Key)(m:Nat)(aD:T AV)(h':T ah)(nx':Key):Prop:=∃j:Nat,m=l.length-j∧j≤l.length∧ag (K 0) aD=some c0∧ag (K 1) aD=some (.fn cr [] [])∧ag (K 5) aD=some (.slice bn 0 l.length 8)∧ag (K 14) aD=some (I l.length)∧ag (K 15) aD=some (I j)∧ag bn h'=QZ (aq eE (l.take j)++R0.drop (j*8))∧bn.toNat<nx'.toNat∧Ext h nx h' nx'
theorem ajM{l:List Ev}(hl:l.length≤1024)(NP:∀y∈l,y.args.length≤1000){c0:AV}(hc:nW 8 eE c0 l)(h:T ah)(nx:Key) :
  aJ C dp [c0,.fn cr [] []] h nx (fun o h' nx'=>(∃c,nW 8 eE c l∧o=.ret c)∧Ext h nx h' nx'):=by
 have r1:=S.r cr;have s1:=kTSu nx;have hR:=hc.rd h nx;have SZ:l.length≤1048576:=by omega
 refine J.mn.call ?_;simp[ja];simp[lI];by_cases h0:l.length=0
 ·have hn:l=[]:=zqr h0;simp[↓hR.ln,gG,h0];simp[lJ];exact⟨.inl ⟨rfl,hn⟩,Ext.refl _ _⟩
 have amA:l≠[]:=fun e=>h0 (by rw[e];rfl);simp[↓hR.ln,gG,h0,amA];simp[↓hR.ln,lK,SZ,-repL_eq];have hR0:∀(n:Nat) (a b c d e f g k:AV),(KI n [a,b,c,d,e,f,g,k] []).length=n*8:=fun n a b c d e f g k=>by rw[repL_eq,List.append_nil];simp
 have amB:=hR0 l.length (I 0) (I 0) (.str 0 0) .nils (I 0) (I 0) (.str 0 0) .nils;generalize KI l.length [I 0,I 0,.str 0 0,.nils,I 0,I 0,.str 0 0,.nils] []=R0 at *;have e1:=E0 h nx (.cells R0 .fix);have b1:ag nx (aw nx (QZ R0) h)=QZ R0:=by simp
 generalize aw nx (QZ R0) h=h1 at *;have hR1:=hc.rd h1 nx.succ;simp[↓hR1.ln,lM];refine W.fh (n:=l.length) (CpE l c0 R0 nx h nx) ⟨0,by simp,by omega,by simp,by simp,by simp,by simp,by simp,by simpa using b1,by omega,e1⟩ ?_;rintro m dc h2 bu ⟨j,rfl,hj,g0,g1,g5,g14,g15,vb,bn,e2⟩;refine W.of ?_;simp[lN];by_cases da:j<l.length
 ·have L1:(j:Int)<l.length:=by omega
  have hR2:=hc.rd h2 bu;have SQ:=ajL da amB;have LK:(aq eE (l.take j)++R0.drop (j*8)).length=l.length*8:=by rw[DG,nZ.rows,List.length_drop,UD,amB];omega
  have Nu:j*8+8≤l.length*8:=by omega
  have htx:8≤l.length*8-j*8:=by omega
  have hl8:(eE l[j]).length=8:=rfl;have ng:(eE l[j]).all AV.aM=true:=sF.2 (nZ.cell _);have zE:∀H,bA (aS 9998) (eE l[j]) H=(eE l[j],H):=fun H=>bF (nZ.wU _);simp[gH,g14,g15,L1];simp[lO,g15];simp[↓hR2.ix nZ da,lP,g0,g1,g5,r1,zE];refine(axh S J (NP _ (LA da)) h2 bu).mono ?_;rintro o h3 dZ ⟨rfl,e3⟩;have n3:=e3.n;have vb3:ag nx h3=QZ (aq eE (l.take j)++R0.drop (j*8)):=by rw[e3.g nx (by omega)];exact vb
  simp[vb3,da,LK,Nu,htx,hl8,ng,SQ];simp[lQ,g15];rw[aO (by omega) (by omega)];exact⟨l.length-(j+1),by omega,j+1,rfl,by omega,by simp[g0],by simp[g1],by simp[g5],by simp[g14],by simp,by simp,by omega,(e2.trans e3).put (fE _)⟩
 ·have Jk:j=l.length:=by omega
  subst Jk;have hd:R0.drop (l.length*8)=[]:=List.drop_eq_nil_of_le (by omega);rw[List.take_length,hd,List.append_nil]at vb;have hz:=o9 (n:=9998) vb (nZ.rows l) (nZ.FM l);simp[gH,g14,g15];simp[lS,g5,hz];exact⟨.inr rfl,e2.put (fE _)⟩
end Ln
namespace Ln
open Go.Sx Go
variable{C:bP}{X:Kn}{Y:BJ}(S:Std C X)(A:Zz C X Y)(J:Sqf C)
include S J
theorem aap{i:Nat}{b bc:Key}{w:Wd}{h0 h:T ah}{n0 nx:Key}(V:Et X Y i b bc w h0 n0 h nx)(hl:w.eG.length≤1024)(ha:∀y∈w.eG,y.args.length≤1000):aJ C fU [.ptr b 0] h nx (fun o h' nx'=>(∃c,nW 8 eE c w.eG∧o=.ret c)∧Ext h0 n0 h' nx'):=by have rL:=S.r dp;obtain⟨cE,oE,hb,g,ho⟩:=V.ev;have fF:=hb;simp only[vl]at fF;have hE:=V.ex;obtain⟨c',H,hf,hI,hk⟩:=RH nZ g.gr 9998;have hf:aS 9999 cE h=(c',H):=hf;refine J.vW.call ?_;simp[pF];simp[tL];simp[tM,fF,rL,hf];refine(ajM S J hl ha hI H nx).mono ?_;rintro o h1 bw ⟨⟨c,hc,rfl⟩,e1⟩;have zc:∀H,aS 9999 c H=(c,H):=fun H=>hc.wU _ _;simp[zc];have n1:=e1.n;have n0':=hE.n;exact⟨hc,⟨by omega,fun x hx=>by rw[e1.g x (by omega),hk x (fun q=>by have:=(ho x q).1;omega)];exact hE.g x hx⟩⟩
include A
theorem Yk{c:cd}(hc:1≤c.fm)(AN:c.fm<3){a:List U}(ha:LJ c a)(h:T ah)(nx:Key):aJ C kv [.agg (Y.sys c.fm),.agg (vS c a)] h nx (fun o h' nx'=>o=.ret (.tuple [.agg (vh Y (c,a)),I 0])∧Ext h nx h' nx'):=by
 have s1:=kTSu nx;have s2:=kTSu nx.succ;have s3:=kTSu nx.succ.succ;have s4:=kTSu nx.succ.succ.succ;have s5:=kTSu nx.succ.succ.succ.succ;have rO:=S.r sn;have rV:=S.r cP;have rW:=S.r eH;have hY:=A.sys c.fm hc AN;have hL:=Hg c a;have hlY:=hY.len;have hlL:=hL.len;have htY:List.take 45 (Y.sys c.fm)=Y.sys c.fm:=Lm (by omega);have zY:=fun H=>hY.ZM 9998 H;have q0:(vS c a)[0]?=some (.str c.name.1 c.name.2):=rfl;have q1:(vS c a)[1]?=some (aV a):=rfl;have q2:(vS c a)[2]?=some (EI a):=rfl;have q0':=lat q0;have q1':=lat q1;have q2':=lat q2;refine J.EV.call ?_;simp[BV];simp[C6,hY.all,hL.all];have e2:=((E0 h nx (.cells (Y.sys c.fm) .fix)).trans (E0 _ nx.succ (.cells (vS c a) .fix))).trans (E0 _ nx.succ.succ (.cells [.str 0 0,.nils,.nils,.nils] .fix));have b0:ag nx (aw nx.succ.succ (QZ [.str 0 0,.nils,.nils,.nils]) (aw nx.succ (QZ (vS c a)) (aw nx (QZ (Y.sys c.fm)) h)))=QZ (Y.sys c.fm):=by rw[aA (by omega),aA (by omega)];simp
 have b1:ag nx.succ (aw nx.succ.succ (QZ [.str 0 0,.nils,.nils,.nils]) (aw nx.succ (QZ (vS c a)) (aw nx (QZ (Y.sys c.fm)) h)))=QZ (vS c a):=by rw[aA (by omega)];simp
 have b2:ag nx.succ.succ (aw nx.succ.succ (QZ [.str 0 0,.nils,.nils,.nils]) (aw nx.succ (QZ (vS c a)) (aw nx (QZ (Y.sys c.fm)) h)))=QZ [.str 0 0,.nils,.nils,.nils]:=by simp
 generalize aw nx.succ.succ (QZ [.str 0 0,.nils,.nils,.nils]) (aw nx.succ (QZ (vS c a)) (aw nx (QZ (Y.sys c.fm)) h))=h2 at *;simp[C7,b0,b1,hlY,hlL,htY,zY,q0,q0',rO];refine aJ.known (A.aCD c hc _ _) ?_;have lf:=XW A c;have XG:=lf.len;have ht3:List.take 3 (Y.op c)=Y.op c:=rfl;have hd3:List.drop 3 (Y.op c)=[]:=rfl;simp[lf.all,XG,hd3];have e3:=e2.trans (E0 h2 nx.succ.succ.succ (.cells (Y.op c) .fix));have c1:ag nx.succ (aw nx.succ.succ.succ (QZ (Y.op c)) h2)=QZ (vS c a):=by rw[aA (by omega)];exact b1
 have c2:ag nx.succ.succ (aw nx.succ.succ.succ (QZ (Y.op c)) h2)=QZ [.str 0 0,.nils,.nils,.nils]:=by rw[aA (by omega)];exact b2
 have c3:ag nx.succ.succ.succ (aw nx.succ.succ.succ (QZ (Y.op c)) h2)=QZ (Y.op c):=by simp
 generalize aw nx.succ.succ.succ (QZ (Y.op c)) h2=h3 at *;have o1:(Y.op c)[1]?=some (Ku c (Y.par c) 4):=rfl;have o1':=lat o1;simp[C8];have za:∀n H,aS n (aV a) H=(aV a,H):=gx a;have zo:=fun H=>lf.ZM 9998 H;have ca:=du a;have la:a.length≤1000:=by have:=ha.1;have:=ZL c;omega
 have hn:nx.succ.succ≠nx.succ.succ.succ:=fun q=>by have:=congrArg Key.toNat q;omega
 have hn1:nx.succ≠nx.succ.succ:=fun q=>by have:=congrArg Key.toNat q;omega
 have fin:∀(tm:T AV) (h':T ah) (nx':Key),ag (K 3) tm=some (.ptr nx.succ 0)→ag (K 4) tm=some (.ptr nx.succ.succ 0)→ag (K 6) tm=some (.ptr nx.succ.succ.succ 0)→Ext h3 nx.succ.succ.succ.succ h' nx'→
   iT C (.seq (.staged so ⟨[Dw,Gy,H8,Gc,Ko,k5],[]⟩) .ret) (fQ [.cell (K 4) true 4,.tmp (K 5)] fun o h' nx'=>o=.ret (.tuple [.agg (vh Y (c,a)),I 0])∧Ext h nx h' nx') tm h' nx':=by
  intro tm h' nx' g3 g4 g6 e;have hn':=e.n;have d1:=(e.g nx.succ (by omega)).trans c1;have d2:=(e.g nx.succ.succ (by omega)).trans c2;have d3:=(e.g nx.succ.succ.succ (by omega)).trans c3;simp only[dO,fo,jQ,jl,vk];simp[so,g3,g6,d1,d3,hlL,XG,ht3,q1,q1',rW,za];refine(NA S a la h' nx').mono ?_;rintro o h5 Z8 ⟨rfl,e5⟩;have n5:=e5.n;have f2:=(e5.g nx.succ.succ (by omega)).trans d2;have f3:=(e5.g nx.succ.succ.succ (by omega)).trans d3;have bO:AV.beq (.agg (Y.op c)) (.agg (Y.op c))=true:=lf.beq;have hd4:List.drop 4 (Y.op c ++ [AV.nils])=[]:=rfl;have hq4:(Y.op c ++ [aV a]).length=4:=rfl;have ht4:List.take 4 (Y.op c ++ [aV a])=Y.op c ++ [aV a]:=rfl;have hO4:(Y.op c ++ [aV a]).all AV.aM=true:=sF.2 ((tS A).cell (c,a));have zq:∀H,bA (aS 9998) (Y.op c ++ [aV a]) H=(Y.op c ++ [aV a],H):=fun H=>bF ((tS A).wU (c,a));simp[g4,g6,f2,f3,XG,ht3,bO,lf.all,hd3,hd4,hq4,ht4,hO4,zq,ca.1,ca.2,za,zo];have E5:=e3.trans (e.trans e5);exact⟨rfl,E5.put (by omega)⟩
 have OW:bD .i64 1=1:=aO (by decide) (by decide);rcases ha.shape with rfl|⟨n,rfl⟩
 ·have ar0:c.ar=0:=by have:=ha.1;simpa using this.symm
  have e0:Ku c (Y.par c) 4=.nils:=by simp[Ku,ar0]
  have ea:aV []=.nils:=rfl;have er:EI []=.nils:=rfl;rw[e0]at o1 o1';rw[ea]at q1 q1';rw[er]at q2 q2';simp[uA,c1,c3,XG,hlL,o1,o1',q1,q1',q2,q2'];simp[uB,c1,hlL,q1,q1'];refine W.wO (W.of ?_);simp[uC];simp[uD];simp[sr,c1,hlL,q2,q2'];refine W.wO (W.of ?_);simp[uE];simp[su];refine fin _ _ _ ?_ ?_ ?_ (Ext.refl _ _)<;>simp
 ·have ar1:c.ar=1:=by have:=ha.1;simpa using this.symm
  have e0:Ku c (Y.par c) 4=.sl (Y.par c) 1 4 .any:=by simp[Ku,ar1]
  have ea:aV [⟨0,n⟩]=.sl (eU ⟨0,n⟩) 1 4 .any:=rfl;have er:EI [⟨0,n⟩]=.sl [I (-1)] 1 1 .any:=rfl;have ek:sH ⟨0,n⟩=true:=an2 rfl;rw[e0]at o1 o1';rw[ea]at q1 q1';rw[er]at q2 q2';simp[uA,c1,c3,XG,hlL,o1,o1',q1,q1',q2,q2'];simp[uB,c1,hlL,q1,q1'];refine W.wO (W.of ?_);have hTU:List.take 4 (eU ⟨0,n⟩)=eU ⟨0,n⟩:=rfl;have zU:∀H,bA (aS 9998) (eU ⟨0,n⟩) H=(eU ⟨0,n⟩,H):=fun H=>bF (Wc ⟨0,n⟩);have s6:=kTSu nx.succ.succ.succ.succ;simp[uC];simp[uD];simp[C9,agW,Xp,hTU];have E4:=E0 h3 nx.succ.succ.succ.succ (.cells (eU ⟨0,n⟩) .fix);have u4:ag nx.succ.succ.succ.succ (aw nx.succ.succ.succ.succ (QZ (eU ⟨0,n⟩)) h3)=QZ (eU ⟨0,n⟩):=by simp
  have c14:=(E4.g nx.succ (by omega)).trans c1;generalize aw nx.succ.succ.succ.succ (QZ (eU ⟨0,n⟩)) h3=h4 at *;simp[Da,u4,agW,hTU,rV,zU];refine aJ.known (S.s_values_Valid ⟨0,n⟩ _ _) ?_;simp[ek];simp[Bu,OW];refine W.wO (W.of ?_);simp;simp[sr,c14,hlL,q2,q2'];refine W.wO (W.of ?_);simp[uE];simp[su];simp[Bv];simp[Bw];simp[Bx,OW];refine W.wO (W.of ?_);simp;refine fin _ _ _ ?_ ?_ ?_ E4<;>simp
end Ln
namespace Ln
open Go.Sx Go
def Td(l:List (cd×List U)):Cl:=⟨l,0,false,0,BM,0⟩
def DI(l:List (cd×List U)):AV:=.sl (aq FR l) l.length 3 .any
def eRV(l:List (cd×List U)):List AV:=[DI l]
theorem NQ:Flat 1 eRV where
 len _:=rfl
 wU l y hy:=by simp[eRV]at hy;subst hy;exact KE _ _ _
 cell l y hy:=by simp[eRV]at hy;subst hy;rfl
 lits l:=by show AV.dU [AV.sl (aq FR l) l.length 3 .any]=true;simp only[AV.dU,AV.lits,WE DH,Bool.and_true]
def mN(cK:AV):List AV:=[cK,I 0,.bool false,I 0,I 0,I 0,.str 0 0,.nils]
variable{C:bP}{X:Kn}{Y:BJ}(S:Std C X)(A:Zz C X Y)(J:Sqf C)
def NcV(Y:BJ)(i:Nat)(l:List (cd×List U))(px p12:Key)(wL:T AV)(hB:T ah)(m:Nat)(tm:T AV)(h:T ah)(nx:Key):Prop:=
 ∃(t:Nat) (cK:AV) (oK:Option Key),m=l.length-t∧t≤l.length∧ag (K 84) tm=some (DI l)∧ag (K 85) tm=some (I l.length)∧ag (K 86) tm=some (I t)∧ag (K 21) tm=some (.ptr px 0)∧ag (K 12) tm=some (.ptr p12 0)∧(∀q:Nat,q∈[14,78,79,80]→ag (K q) tm=ag (K q) wL)∧
  ag px h=QZ (mN cK)∧ag p12 h=QZ (Y.sys i)∧O7 4 cK (aq (vh Y) (l.take t)) (l.take t).length h nx oK∧(∀x,oK=some x→px.toNat<x.toNat)∧px.toNat<nx.toNat∧Ext hB px h nx
include S A J
theorem ajm{i:Nat}(Cc:1≤i)(AL:i<3){l:List (cd×List U)}(hq:∀q∈l,q.1.fm=i∧LJ q.1 q.2)(hl:l.length≤100){px p12:Key}{wL:T AV}{hB:T ah}(hp:p12.toNat<px.toNat){P:cH}{m:Nat}{tm:T AV}{h:T ah}{nx:Key}(hV:NcV Y i l px p12 wL hB m tm h nx)
  (hQ:∀(aD:T AV) (h':T ah) (nx':Key),NcV Y i l px p12 wL hB 0 aD h' nx'→P .norm aD h' nx'):W C (.loop DP) (aG 4 P) tm h nx:=by
 have rC:=S.r kv;refine W.fh (NcV Y i l px p12 wL hB) hV ?_;rintro m dc h1 bw ⟨t,cK,oK,rfl,ht,g84,g85,g86,g21,g12,gk,bp,b12,G,lV,lp,E⟩;refine W.of ?_;simp[DP];simp[Jq,g85,g86];refine⟨fun cQ=>?_,fun P9=>?_⟩
 ·have htl:t<l.length:=by omega
  have s1:=kTSu bw;have hr:=DH.rows l;have ec:=DH.at htl;have h3:3≤l.length*3-t*3:=by omega
  have aAX:=zqu htl;have hqq:=hq _ (LA htl);generalize l[t]=q at *;obtain⟨c,a⟩:=q;obtain⟨hm,ha⟩:=hqq;simp only at hm ha;have ec':List.take 3 (List.drop (t*3) (aq FR l))=vS c a:=ec;have hc:=Hg c a;have AN:=hc.len;have ht3:List.take 3 (vS c a)=vS c a:=rfl;have hd3:List.drop 3 (vS c a)=[]:=rfl;have zc:=fun H=>hc.ZM 9998 H;have hY:=A.sys i Cc AL;have hlY:=hY.len;have htY:List.take 45 (Y.sys i)=Y.sys i:=Lm (by omega);have zY:=fun H=>hY.ZM 9998 H;simp only[DI]at g84;simp[Jr,g84,g86,htl,hr,h3,ec',ht3,AN,hc.all,hd3];have E1:=E0 h1 bw (.cells (vS c a) .fix);have p1:=(E1.g px lp).trans bp;have q1:=(E1.g p12 (by omega)).trans b12;have k1:ag bw (aw bw (QZ (vS c a)) h1)=QZ (vS c a):=by simp
  have G1:=G.cv (h':=aw bw (QZ (vS c a)) h1) E1.n fun x hx=>E1.g x (G.lt x hx);have E1':Ext hB px (aw bw (QZ (vS c a)) h1) bw.succ:=⟨by omega,fun x hx=>(E1.g x (by omega)).trans (E.g x hx)⟩;generalize aw bw (QZ (vS c a)) h1=h2 at *;simp[Js,g12,q1,k1,hlY,htY,AN,ht3,rC,zY,zc];subst hm;refine(Yk S A J Cc AL ha h2 bw.succ).mono ?_;rintro o UA dZ ⟨rfl,e3⟩;have n3:=e3.n;have s3:=kTSu dZ;have s4:=kTSu dZ.succ;have amw:(vh Y (c,a)).all AV.aM=true:=sF.2 ((tS A).cell (c,a));have fl:(vh Y (c,a)).length=4:=rfl;have ft:List.take 4 (vh Y (c,a))=vh Y (c,a):=rfl;have fd:List.drop 4 (vh Y (c,a))=[]:=rfl;have fz:∀H,bA (aS 9999) (vh Y (c,a)) H=(vh Y (c,a),H):=fun H=>bF ((tS A).wU (c,a));have e4:=e3.trans (E0 UA dZ (.cells (vh Y (c,a)) .fix));have k4:ag dZ (aw dZ (QZ (vh Y (c,a))) UA)=QZ (vh Y (c,a)):=by simp
  have p4:=(e4.g px (by omega)).trans p1;have q4:=(e4.g p12 (by omega)).trans q1;have n4:=e4.n;have G4:=G1.cv (h':=aw dZ (QZ (vh Y (c,a))) UA) n4 fun x hx=>e4.g x (G1.lt x hx);simp[amw,fl,fd];simp[Jt];have E4:Ext hB px (aw dZ (QZ (vh Y (c,a))) UA) dZ.succ:=⟨by omega,fun x hx=>(e4.g x (by omega)).trans (E1'.g x hx)⟩;generalize aw dZ (QZ (vh Y (c,a))) UA=h4 at *;have E5:=E0 h4 dZ.succ (.cells (vh Y (c,a)) .fix);have G5:=G4.cv (h':=aw dZ.succ (QZ (vh Y (c,a))) h4) E5.n fun x hx=>E5.g x (G4.lt x hx);have Nu:(l.take t).length=t:=by rw[UD];omega
  obtain⟨h6,hap,G6,F6⟩:=G5.add (m:=1) (new:=vh Y (c,a)) rfl (by decide) rfl (by omega) amw;have gc:=G.cell;have npx:oK≠some px:=fun e=>by have:=lV px e;omega
  have av9:oK≠some p12:=fun e=>by have:=lV p12 e;omega
  have p6:ag px h6=QZ (mN cK):=by rw[F6.g px (by omega) npx,E5.g px (by omega)];exact p4
  have q6:ag p12 h6=QZ (Y.sys c.fm):=by rw[F6.g p12 (by omega) av9,E5.g p12 (by omega)];exact q4
  have OW:bD .i64 ((t:Int)+1)=((t+1:Nat):Int):=aO (by omega) (by omega);rw[Nu]at hap;simp only[mN]at p4 p6;simp[-appendTo,Ju,g21,p4,p6,k4,fl,ft,fd,amw,fz,gc.1,gc.2,hap];simp[-Int.natCast_add,Jv,g86,OW];have n6:=F6.n;refine⟨l.length-(t+1),by omega,t+1,.slice dZ.succ.succ 0 (t+1) 4,some dZ.succ.succ,rfl,by omega,by simp[g84,DI],by simp[g85],by simp,by simp[g21],by simp[g12],fun q hq'=>?_,by simp[mN],?_,?_,fun x hx=>?_,by omega,⟨by omega,fun x hx=>?_⟩⟩
  ·have:=gk q hq';simp at hq';rcases hq' with rfl|rfl|rfl|rfl<;>simpa using this
  ·rw[aP _ _ _ _ (fun e=>by rw[e]at hp;omega)];exact q6
  ·rw[aAX,ju,iC,DG,List.length_singleton,Nu];rw[Nu]at G6;refine G6.cv (fE _) fun x hx=>?_;cases hx;exact aP _ _ _ _ (fun e=>by have:=congrArg Key.toNat e;omega)
  ·cases hx;omega
  ·rw[aP _ _ _ _ (fun e=>by rw[e]at hx;omega),F6.g x (by omega) (fun e=>by have:=lV x e;omega),E5.g x (by omega)];exact E4.g x hx
 ·have:t=l.length:=by omega
  subst this;exact hQ _ _ _ ⟨l.length,cK,oK,by omega,by omega,by simp[g84],by simp[g85],by simp[g86],by simp[g21],by simp[g12],fun q hq'=>by have:=gk q hq';simp at hq';rcases hq' with rfl|rfl|rfl|rfl<;>simpa using this,bp,b12,G,lV,lp,E⟩
end Ln
namespace Ln
open Go.Sx Go
variable{C:bP}{X:Kn}{Y:BJ}(S:Std C X)(A:Zz C X Y)(J:Sqf C)
theorem axI(Y:BJ)(l:List (cd×List U)):eCl (Cm Y l) (Td l)=[Cm Y l,I 0,.bool false,I 0,I 0,I 0,.str 0 0,.nils]:=rfl
theorem axJ(Y:BJ)(ls:List (List (cd×List U))){j:Nat}(hj:j<ls.length):BL Y ((ls.take (j+1)).map Td)=BL Y ((ls.take j).map Td)++eCl (Cm Y ls[j]) (Td ls[j]):=by rw[zqu hj,List.map_append,aid];simp[BL,Td]
def NwV(X:Kn)(Y:BJ)(i:Nat)(ls:List (List (cd×List U)))(b p12:Key)(hB:T ah)(nB:Key)(m:Nat)(tm:T AV)(h:T ah)(nx:Key):Prop:=
 ∃(j:Nat) (cC:AV) (oC:Option Key),m=3-j∧j≤3∧ag (K 78) tm=some (.sl (aq eRV ls) 3 1 .any)∧ag (K 79) tm=some (I 3)∧ag (K 80) tm=some (I j)∧ag (K 14) tm=some (.ptr b 0)∧ag (K 12) tm=some (.ptr p12 0)∧
  ag b h=QZ (vl X Y i 0 .nils cC)∧ag p12 h=QZ (Y.sys i)∧O7 8 cC (BL Y ((ls.take j).map Td)) j h nx oC∧(∀x,oC=some x→b.toNat<x.toNat)∧nB.toNat≤p12.toNat∧p12.toNat<b.toNat∧b.toNat<nx.toNat∧Ext hB nB h nx
include S A J
theorem abf{i:Nat}(Cc:1≤i)(AL:i<3){ls:List (List (cd×List U))}(ZE:ls.length=3)(hq:∀l∈ls,l≠[]∧l.length≤3∧∀q∈l,q.1.fm=i∧LJ q.1 q.2){b p12:Key}{hB:T ah}{nB:Key}{P:cH}{m:Nat}{tm:T AV}{h:T ah}{nx:Key}(hV:NwV X Y i ls b p12 hB nB m tm h nx)
  (hQ:∀(aD:T AV) (h':T ah) (nx':Key),NwV X Y i ls b p12 hB nB 0 aD h' nx'→P .norm aD h' nx'):W C (.loop El) (aG 2 P) tm h nx:=by
 refine W.fh (NwV X Y i ls b p12 hB nB) hV ?_;rintro m dc h1 bw ⟨j,cC,oC,rfl,hj,g78,g79,g80,g14,g12,hb,b12,G,lV,np,lpb,lb,E⟩;refine W.of ?_;simp[El];simp[JV,g79,g80];refine⟨fun cQ=>?_,fun P9=>?_⟩
 ·have hj3:j<3:=by omega
  have da:j<ls.length:=by omega
  have s1:=kTSu bw;have hr:=NQ.rows ls;have ec:=NQ.at da;rw[ZE]at hr;obtain⟨bW,XG,hqq⟩:=hq _ (LA da);have hmk:=axJ Y ls da;generalize ls[j]=l at *;have ec1:List.take 1 (List.drop j (aq eRV ls))=[DI l]:=by simpa[eRV]using ec
  have h1j:1≤3-j:=by omega
  simp[JW,g78,g80,hj3,hr,h1j,ec1];simp[JX];simp[JY,DI];have E1:=E0 h1 bw (.cells (mN .nils) .fix);have k1:ag bw (aw bw (QZ (mN .nils)) h1)=QZ (mN .nils):=by simp
  have q1:=(E1.g p12 (by omega)).trans b12;have eb:aw bw (QZ [.nils,I 0,.bool false,I 0,I 0,I 0,.str 0 0,.nils]) h1=aw bw (QZ (mN .nils)) h1:=rfl;rw[eb];generalize aw bw (QZ (mN .nils)) h1=h2 at *;refine ajm S A J Cc AL hqq (by omega) (px:=bw) (p12:=p12) (hB:=h1) (by omega) (m:=l.length) ⟨0,.nils,none,by simp,by omega,?_,?_,?_,?_,?_,fun q hq=>rfl,k1,q1,by simpa using O7.nil 4 h2 bw.succ,by simp,by omega,E1⟩ ?_
  ·simp[DI]
  ·simp
  ·simp
  ·simp
  ·simp[g12]
  rintro Eu h3 dZ ⟨t,cK,oK,ht0,ht,g84,g85,g86,g21,aJ3,gk,bp,aSu,GK,aJ4,lp,E3⟩;have htl:t=l.length:=by omega
  subst htl;rw[List.take_length]at GK;have c14:ag (K 14) Eu=some (.ptr b 0):=by rw[gk 14 (by simp)];simp[g14]
  have c78:ag (K 78) Eu=some (.sl (aq eRV ls) 3 1 .any):=by rw[gk 78 (by simp)];simp[g78]
  have c79:ag (K 79) Eu=some (I 3):=by rw[gk 79 (by simp)];simp[g79]
  have c80:ag (K 80) Eu=some (I j):=by rw[gk 80 (by simp)];simp[g80]
  have n3:=E3.n;have s3:=kTSu dZ;have b3:=(E3.g b lb).trans hb;have gc:=G.cell;have E4:=E0 h3 dZ (.cells (mN cK) .fix);have GK4:=GK.cv (h':=aw dZ (QZ (mN cK)) h3) E4.n fun x hx=>E4.g x (GK.lt x hx);obtain⟨c',H,hf,hI,hkH⟩:=RH (tS A) GK4.gr 9998;have hf:aS 9999 cK (aw dZ (QZ (mN cK)) h3)=(c',H):=hf;have hl0:0<l.length:=List.length_pos_iff.2 bW;have LU:c'=Cm Y l:=hI.full hl0;subst LU;have adV:∀x:Key,x.toNat<bw.toNat→ag x H=ag x h1:=fun x hx=>by rw[hkH x (fun e=>by have:=aJ4 x e;omega),E4.g x (by omega)];exact E3.g x hx
  have G4:=G.cv (h':=H) (nx':=dZ.succ) (by omega) fun x hx=>adV x (G.lt x hx);have aCa:(eCl (Cm Y l) (Td l)).all AV.aM=true:=rfl;obtain⟨h6,hap,G6,F6⟩:=G4.add (m:=1) (new:=eCl (Cm Y l) (Td l)) rfl (by decide) rfl (by omega) aCa;have nb:oC≠some b:=fun e=>by have:=lV b e;omega
  have av9:oC≠some p12:=fun e=>by have:=lV p12 e;omega
  have b6:ag b h6=QZ (vl X Y i 0 .nils cC):=by rw[F6.g b (by omega) nb,adV b lb];exact hb
  have q6:ag p12 h6=QZ (Y.sys i):=by rw[F6.g p12 (by omega) av9,adV p12 (by omega)];exact b12
  have N9:∀k,k<45→(uW Y i k).aM=true:=fun k hk=>GA A Cc AL hk;have hbC:AV.beq cC cC=true:=by refine beq_refl _ ?_;rcases G with⟨e,_⟩|⟨bb,_,e,_⟩<;>rw[e]<;>rfl
  have ccK:=GK.cell;rw[axI]at hap;simp only[vl]at b3 b6;simp only[mN]at bp hf;simp[-appendTo,JZ,c14,g21,bp,b3,b6,gc.1,gc.2,ccK.1,ccK.2,hbC,hf,hap,N9];have OW:bD .i64 ((j:Int)+1)=((j+1:Nat):Int):=aO (by omega) (by omega);simp[-Int.natCast_add,J1,c80,OW];have n6:=F6.n;have nE:=E.n;have c12:ag (K 12) Eu=some (.ptr p12 0):=aJ3;refine⟨3-(j+1),by omega,j+1,.slice dZ.succ 0 (j+1) 8,some dZ.succ,rfl,by omega,by simp[c78],by simp[c79],by simp,by simp[c14],by simp[c12],by simp[vl],?_,?_,fun x hx=>?_,np,lpb,by omega,⟨by omega,fun x hx=>?_⟩⟩
  ·rw[aP _ _ _ _ (fun e=>by rw[e]at lpb;omega)];exact q6
  ·rw[hmk];refine G6.cv (fE _) fun x hx=>?_;cases hx;exact aP _ _ _ _ (fun e=>by have:=congrArg Key.toNat e;omega)
  ·cases hx;omega
  ·rw[aP _ _ _ _ (fun e=>by rw[e]at hx;omega),F6.g x (by omega) (fun e=>by have:=lV x e;omega),adV x (by omega)];exact E.g x hx
 ·have:j=3:=by omega
  subst this;exact hQ _ _ _ ⟨3,cC,oC,by omega,by omega,by simp[g78],by simp[g79],by simp[g80],by simp[g14],by simp[g12],hb,b12,G,lV,np,lpb,lb,E⟩
end Ln
namespace Ln
open Go.Sx Go
variable{C:bP}{X:Kn}{Y:BJ}(S:Std C X)(A:Zz C X Y)(J:Sqf C)
def TtV(ls:List (List (cd×List U)))(wL:T AV)(h0:T ah)(n0:Key)(m:Nat)(tm:T AV)(h:T ah)(nx:Key):Prop:=
 ∃j tot:Nat,m=3-j∧j≤3∧tot≤3*j∧ag (K 60) tm=some (.sl (aq eRV ls) 3 1 .any)∧ag (K 61) tm=some (I 3)∧ag (K 62) tm=some (I j)∧ag (K 16) tm=some (I tot)∧(∀q:Nat,q∈[2,12,14]→ag (K q) tm=ag (K q) wL)∧h=h0∧nx=n0
theorem aeG{ls:List (List (cd×List U))}(ZE:ls.length=3)(hq:∀l∈ls,l.length≤3){wL:T AV}{h0:T ah}{n0:Key}{P:cH}{m:Nat}{tm:T AV}{h:T ah}{nx:Key}(hV:TtV ls wL h0 n0 m tm h nx)
  (hQ:∀(aD:T AV) (h':T ah) (nx':Key),TtV ls wL h0 n0 0 aD h' nx'→P .norm aD h' nx'):W C (.loop Eb) (aG 0 P) tm h nx:=by
 refine W.fh (TtV ls wL h0 n0) hV ?_;rintro m dc h1 bw ⟨j,tot,rfl,hj,aBC,g60,g61,g62,g16,gk,rfl,rfl⟩;refine W.of ?_;simp[Eb];simp[JJ,g61,g62];refine⟨fun cQ=>?_,fun P9=>?_⟩
 ·have hj3:j<3:=by omega
  have da:j<ls.length:=by omega
  have hr:=NQ.rows ls;have ec:=NQ.at da;rw[ZE]at hr;have XG:=hq _ (LA da);generalize ls[j]=l at *;have ec1:List.take 1 (List.drop j (aq eRV ls))=[DI l]:=by simpa[eRV]using ec
  have h1j:1≤3-j:=by omega
  have hw:bD .i64 ((tot:Int)+l.length)=((tot+l.length:Nat):Int):=aO (by omega) (by omega);have OW:bD .i64 ((j:Int)+1)=((j+1:Nat):Int):=aO (by omega) (by omega);simp[JK,g60,g62,hj3,hr,h1j,ec1];simp[-Int.natCast_add,JL,g16,DI,hw];simp[-Int.natCast_add,JM,g62,OW];refine⟨3-(j+1),by omega,j+1,tot+l.length,rfl,by omega,by omega,by simp[g60],by simp[g61],by simp,by simp,fun q hq'=>?_,rfl,rfl⟩;have:=gk q hq';simp at hq';rcases hq' with rfl|rfl|rfl<;>simpa using this
 ·have:j=3:=by omega
  subst this;refine hQ _ _ _ ⟨3,tot,by omega,by omega,aBC,by simp[g60],by simp[g61],by simp[g62],by simp[g16],fun q hq'=>?_,rfl,rfl⟩;have:=gk q hq';simp at hq';rcases hq' with rfl|rfl|rfl<;>simpa using this
def aJk(X:Kn)(Y:BJ)(i:Nat)(ls:List (List (cd×List U)))(h:T ah)(nx:Key)(o:Out)(h':T ah)(nx':Key):Prop:=∃b bc:Key,o=.ret (.tuple [.ptr b 0,I 0])∧Et X Y i b bc ⟨bJ i,[],ls.map Td⟩ h nx h' nx'
include S A J
theorem amM{i:Nat}(Cc:1≤i)(AL:i<3){ls:List (List (cd×List U))}(ZE:ls.length=3)(hq:∀l∈ls,l≠[]∧l.length≤3∧∀q∈l,q.1.fm=i∧LJ q.1 q.2)(h:T ah)(nx:Key) :
  aJ C vU [X.m,aw8 i,.sl (aq eRV ls) 3 1 .any,iW,zN] h nx (aJk X Y i ls h nx):=by
 have s1:=kTSu nx;have s2:=kTSu nx.succ;have s3:=kTSu nx.succ.succ;have s4:=kTSu nx.succ.succ.succ;have s5:=kTSu nx.succ.succ.succ.succ;have rM:=S.r zV;have rS:=S.r zX;have rE:=S.r fi;have hY:=A.sys i Cc AL;have hlY:=hY.len;have aJl:List.drop 45 (Y.sys i)=[]:=List.drop_eq_nil_of_le (by omega);have hrc:=ahg A Cc AL;have hr:∀k,k<45→(uW Y i k).aM=true:=fun k hk=>GA A Cc AL hk;refine J.Px.call ?_;simp[Od];simp[ML,Kn.m,iW,zN];have e3:=((E0 h nx (.cells [.sl X.rows 7 45 .any] .fix)).trans (E0 _ nx.succ (.cells [I 200,I 50] .fix))).trans (E0 _ nx.succ.succ (.cells [I 0,I 0] .fix));have m3:ag nx (aw nx.succ.succ (QZ [I 0,I 0]) (aw nx.succ (QZ [I 200,I 50]) (aw nx (QZ [.sl X.rows 7 45 .any]) h)))=QZ [.sl X.rows 7 45 .any]:=by rw[aA (by omega),aA (by omega)];simp
 have l3:ag nx.succ (aw nx.succ.succ (QZ [I 0,I 0]) (aw nx.succ (QZ [I 200,I 50]) (aw nx (QZ [.sl X.rows 7 45 .any]) h)))=QZ [I 200,I 50]:=by rw[aA (by omega)];simp
 have z3:ag nx.succ.succ (aw nx.succ.succ (QZ [I 0,I 0]) (aw nx.succ (QZ [I 200,I 50]) (aw nx (QZ [.sl X.rows 7 45 .any]) h)))=QZ [I 0,I 0]:=by simp
 generalize aw nx.succ.succ (QZ [I 0,I 0]) (aw nx.succ (QZ [I 200,I 50]) (aw nx (QZ [.sl X.rows 7 45 .any]) h))=h3 at *;have ne1:nx.succ≠nx:=fun e=>by have:=congrArg Key.toNat e;omega
 have ne2:nx.succ.succ≠nx:=fun e=>by have:=congrArg Key.toNat e;omega
 simp[MM,m3,rM];refine aJ.known (A.aBD _ _) ?_;simp[Kn.m,m3];have e4:=e3.put (k:=nx) (B:=QZ [.sl X.rows 7 45 .any]) (fE _);have m4:ag nx (aw nx (QZ [.sl X.rows 7 45 .any]) h3)=QZ [.sl X.rows 7 45 .any]:=by simp
 have l4:ag nx.succ (aw nx (QZ [.sl X.rows 7 45 .any]) h3)=QZ [I 200,I 50]:=by rw[aP _ _ _ _ ne1];exact l3
 have z4:ag nx.succ.succ (aw nx (QZ [.sl X.rows 7 45 .any]) h3)=QZ [I 0,I 0]:=by rw[aP _ _ _ _ ne2];exact z3
 generalize aw nx (QZ [.sl X.rows 7 45 .any]) h3=h4 at *;simp[MN,m4,rS];refine aJ.known (A.auw i Cc AL _ _) ?_;simp[hY.all,hlY,aJl];have e5:=e4.trans (E0 h4 nx.succ.succ.succ (.cells (Y.sys i) .fix));have y5:ag nx.succ.succ.succ (aw nx.succ.succ.succ (QZ (Y.sys i)) h4)=QZ (Y.sys i):=by simp
 have m5:ag nx (aw nx.succ.succ.succ (QZ (Y.sys i)) h4)=QZ [.sl X.rows 7 45 .any]:=by rw[aA (by omega)];exact m4
 have l5:ag nx.succ (aw nx.succ.succ.succ (QZ (Y.sys i)) h4)=QZ [I 200,I 50]:=by rw[aA (by omega)];exact l4
 have z5:ag nx.succ.succ (aw nx.succ.succ.succ (QZ (Y.sys i)) h4)=QZ [I 0,I 0]:=by rw[aA (by omega)];exact z4
 generalize aw nx.succ.succ.succ (QZ (Y.sys i)) h4=h5 at *;simp[MO];have aJm:List.take 7 (List.drop 38 (Y.sys i))=aea Y i:=by rw[hrc];rfl
 have hrl:(aea Y i).length=7:=rfl;simp[MP,m5,y5,l5,z5,hlY,aJm,aea,hr];have e6:=e5.trans (E0 h5 nx.succ.succ.succ.succ (.cells (vl X Y i 0 .nils .nils) .fix));have b6:ag nx.succ.succ.succ.succ (aw nx.succ.succ.succ.succ (QZ (vl X Y i 0 .nils .nils)) h5)=QZ (vl X Y i 0 .nils .nils):=by simp
 have y6:ag nx.succ.succ.succ (aw nx.succ.succ.succ.succ (QZ (vl X Y i 0 .nils .nils)) h5)=QZ (Y.sys i):=by rw[aA (by omega)];exact y5
 have m6:ag nx (aw nx.succ.succ.succ.succ (QZ (vl X Y i 0 .nils .nils)) h5)=QZ [.sl X.rows 7 45 .any]:=by rw[aA (by omega)];exact m5
 have l6:ag nx.succ (aw nx.succ.succ.succ.succ (QZ (vl X Y i 0 .nils .nils)) h5)=QZ [I 200,I 50]:=by rw[aA (by omega)];exact l5
 have eW:aw nx.succ.succ.succ.succ (QZ [.sl X.rows 7 45 .any,uW Y i 38,uW Y i 39,uW Y i 40,uW Y i 41,uW Y i 42,uW Y i 43,uW Y i 44,I 200,I 50,I 0,I 0,I 0,I 0,.str 0 0,.nils,.nils,.nils]) h5=aw nx.succ.succ.succ.succ (QZ (vl X Y i 0 .nils .nils)) h5:=rfl;rw[eW];generalize aw nx.succ.succ.succ.succ (QZ (vl X Y i 0 .nils .nils)) h5=h6 at *;simp[MQ];have hI:=hY.cut 29 7 (by decide);have zI:=fun H=>hI.ZM 9998 H;have eI:eS (bJ i)=[I 0,I 0,.str 0 0,.nils]:=by
  have:i=1∨i=2:=by omega
  rcases this with rfl|rfl<;>rfl
 obtain⟨x1,x2,x3,key⟩:=A.anl i Cc AL;simp only[vl]at b6;simp[MR,m6,y6,l6,hlY,rE,zI];refine aJ.known (key _ _) ?_;rw[eI];simp[b6];have eW2:aw nx.succ.succ.succ.succ (QZ [.sl X.rows 7 45 .any,uW Y i 38,uW Y i 39,uW Y i 40,uW Y i 41,uW Y i 42,uW Y i 43,uW Y i 44,I 200,I 50,I 0,I 0,I 0,I 0,.str 0 0,.nils,.nils,.nils]) h6=aw nx.succ.succ.succ.succ (QZ (vl X Y i 0 .nils .nils)) h6:=rfl;rw[eW2];have e7:=e6.put (k:=nx.succ.succ.succ.succ) (B:=QZ (vl X Y i 0 .nils .nils)) (by omega);have b7:ag nx.succ.succ.succ.succ (aw nx.succ.succ.succ.succ (QZ (vl X Y i 0 .nils .nils)) h6)=QZ (vl X Y i 0 .nils .nils):=by simp
 have y7:ag nx.succ.succ.succ (aw nx.succ.succ.succ.succ (QZ (vl X Y i 0 .nils .nils)) h6)=QZ (Y.sys i):=by rw[aA (by omega)];exact y6
 generalize aw nx.succ.succ.succ.succ (QZ (vl X Y i 0 .nils .nils)) h6=h7 at *;simp[MS];simp[JN];simp[JO];refine aeG ZE (fun l hl=>(hq l hl).2.1) (h0:=h7) (n0:=nx.succ.succ.succ.succ.succ) (m:=3) ⟨0,0,by simp,by omega,by omega,?_,?_,?_,?_,fun q hq'=>rfl,rfl,rfl⟩ ?_
 ·simp
 ·simp
 ·simp
 ·simp
 rintro tm8 h8 nx8 ⟨j,tot,hj0,hj,aBC,g60,g61,g62,g16,gk,rfl,rfl⟩;have k2:ag (K 2) tm8=some (.sl (aq eRV ls) 3 1 .any):=by rw[gk 2 (by simp)];simp
 have dy:ag (K 12) tm8=some (.ptr nx.succ.succ.succ 0):=by rw[gk 12 (by simp)];simp
 have eh:ag (K 14) tm8=some (.ptr nx.succ.succ.succ.succ 0):=by rw[gk 14 (by simp)];simp
 have aJn:¬(16:Int)<tot:=by omega
 simp;simp[JP,k2,g16,aJn];simp[JQ,k2];refine abf S A J Cc AL ZE hq (b:=nx.succ.succ.succ.succ) (p12:=nx.succ.succ.succ) (hB:=h) (nB:=nx) (m:=3) ⟨0,.nils,none,by simp,by omega,?_,?_,?_,?_,?_,b7,y7,by simpa[BL]using O7.nil 8 _ _,by simp,by omega,by omega,by omega,e7⟩ ?_
 ·simp
 ·simp
 ·simp
 ·simp[eh]
 ·simp[dy]
 rintro tm9 h9 nx9 ⟨j9,cC,oC,aRR,hj9,g78,g79,g80,g14,g12,hb,b12,G,lV,np,lpb,lb,E⟩;have:j9=3:=by omega
 subst this;have e3':ls.take 3=ls:=Lm (by omega);rw[e3']at G;simp;simp[JR,g14];have hn0:(bJ i).n=0:=by
  have:i=1∨i=2:=by omega
  rcases this with rfl|rfl<;>rfl
 rcases G with⟨_,_,h30,_⟩|⟨bc,rfl,rfl,hbc,lbc,_⟩
 ·omega
 ·have aJo:=lV bc rfl;exact⟨_,bc,rfl,AD.init i,⟨.nils,none,by rw[hn0];exact hb,O7.nil 8 _ _,by simp⟩,by simpa using ZE,hbc,⟨by omega,lb⟩,⟨by omega,lbc⟩,fun e=>by rw[←e]at aJo;omega,E⟩
end Ln
namespace Ln
open Go.Sx Go
variable{C:bP}{X:Kn}{Y:BJ}(S:Std C X)(J:Sqf C)
include S J
theorem acW{c:AV}{l:List Int}(hc:nW 1 eI c l)(yI:∀n∈l,qA n){i m:Nat}(hm:0<m)(MI:m≤1000000){h:T ah}{nx:Key}:aJ C mO [c,I i,I m] h nx (fun o h' nx'=>(∃k:Nat,o=.ret (I k)∧k<m)∧h'=h∧nx'=nx):=by
 have rA:=S.r bI;have hi:¬(i:Int)<0:=by omega
 refine J.MD.call ?_;simp[KQ];simp[Ke];rcases hc with⟨rfl,rfl⟩|rfl
 ·simp[ve,hi];simp[Cb];exact⟨0,rfl,hm⟩
 ·by_cases RJ:i<l.length
  ·have hii:(i:Int)<l.length:=by omega
   have hx:=ur RJ;have hrl:=fC l;have tx:1≤l.length-i:=by omega
   simp[ve,hi,hii];simp[Kf,RJ,hx,hrl,tx,rA];refine(uk S (yI _ (LA RJ)) hm MI).mono ?_;rintro o h2 bu ⟨rfl,rfl,rfl⟩;simp;exact⟨_,rfl,Hv hm _⟩
  ·have hii:¬(i:Int)<l.length:=by omega
   simp[ve,hi,hii];simp[Cb];exact⟨0,rfl,hm⟩
def aAh(i:Nat)(l:List (cd×List U)):Prop:=∀q∈l,q.1.fm=i∧LJ q.1 q.2∧small q.2
omit S J in
theorem agJ{i:Nat}(hi:i<3)(k:Int):(ym i k).1.fm=i∧LJ (ym i k).1 (ym i k).2∧small (ym i k).2:=by
 refine⟨(abb hi k).1,(abb hi k).2,fun u hu=>?_⟩;have hu:u∈Tu (ym i k).1 k:=hu;unfold Tu at hu;split at hu
 ·simp at hu;subst hu;have:=Hv (m:=3) (by omega) (Int.tdiv k 3);show(0:Int)≤((MH (Int.tdiv k 3) 3:Nat):Int)∧((MH (Int.tdiv k 3) 3:Nat):Int)≤2;omega
 ·simp at hu
def LaB(i:Nat)(c0:AV)(j:Nat)(wL:T AV)(hB:T ah)(nB:Key)(m:Nat)(tm:T AV)(h:T ah)(nx:Key):Prop:=
 ∃(l:List (cd×List U)) (cC:AV) (oC:Option Key),m=3-l.length∧l.length≤3∧aAh i l∧ag (K 0) tm=some c0∧ag (K 8) tm=some (I i)∧ag (K 10) tm=some (I j)∧ag (K 11) tm=some cC∧ag (K 12) tm=some (I l.length)∧(∀q:Nat,q∈[2,7,9]→ag (K q) tm=ag (K q) wL)∧Gr 3 cC (aq FR l) l.length h nx oC∧(∀x,oC=some x→nB.toNat≤x.toNat)∧Ext hB nB h nx
def LaE(i:Nat)(c0:AV)(j:Nat)(wL:T AV)(hB:T ah)(nB:Key)(tm:T AV)(h:T ah)(nx:Key):Prop:=∃m,LaB i c0 j wL hB nB m tm h nx∧m<3
theorem aiT{i:Nat}(Cc:1≤i)(AL:i<3){ks:List Int}(NP:∀x∈ks,qA x){c0:AV}(AF:nW 1 eI c0 ks){j:Nat}(hj:j<3){wL:T AV}{hB:T ah}{nB:Key}{P:cH}{m:Nat}{tm:T AV}{h:T ah}{nx:Key}(hV:LaB i c0 j wL hB nB m tm h nx)
  (hQ:∀(aD:T AV) (h':T ah) (nx':Key),LaE i c0 j wL hB nB aD h' nx'→P .norm aD h' nx'):W C (.loop kX) (aG 2 P) tm h nx:=by
 have rP:=S.r mO;have rn:=S.r iK;have rc:=S.r qX;have z0:∀H,aS 9999 c0 H=(c0,H):=fun H=>AF.wU _ _;refine W.fh (LaB i c0 j wL hB nB) hV ?_;rintro m dc h1 bw ⟨l,cC,oC,rfl,hl,pB,g0,g8,g10,g11,g12,gk,G,lV,E⟩;refine W.of ?_;have aCS:bD .i64 (4*(j:Int))=((4*j:Nat):Int):=aO (by omega) (by omega);simp only[kX,dO,fo,jQ,jl,vk];simp[-Int.natCast_mul,tN,g0,g10,g12,aCS,rP,z0];refine(acW S J AF NP (i:=4*j) (m:=3) (by omega) (by omega)).mono ?_;rintro o h2 bu ⟨⟨k,rfl,hk⟩,rfl,rfl⟩;have hw:bD .i64 (1+(k:Int))=((1+k:Nat):Int):=aO (by omega) (by omega);by_cases cQ:l.length<1+k
 ·have ayc:(l.length:Int)<((1+k:Nat):Int):=by omega
  simp[-Int.natCast_add,hw,ayc];have XU:nmI (i:Int)=i:=by
   have:i=1∨i=2:=by omega
   rcases this with rfl|rfl<;>rfl
  have yI:qA (i:Int):=by unfold qA;omega
  have hj1:bD .i64 (((4*j:Nat):Int)+l.length)=((4*j+l.length:Nat):Int):=aO (by omega) (by omega);have hj2:bD .i64 (((4*j+l.length:Nat):Int)+1)=((4*j+l.length+1:Nat):Int):=aO (by omega) (by omega);simp only[tO,sM,xK,xL,sN,xM,sO,xN,xO,sP,sQ,xP,xQ,xR,xS];simp[-Int.natCast_mul,-Int.natCast_add,-appendTo,g8,g11,rn];refine(XV S yI).mono ?_;rintro o h3 dZ ⟨rfl,e3⟩;rw[XU];simp[-Int.natCast_mul,-Int.natCast_add,-appendTo,g0,g10,g11,g12,aCS,hj1,hj2,rP,z0];refine(acW S J AF NP (i:=4*j+l.length+1) (m:=9) (by omega) (by omega)).mono ?_;rintro o h4 kK ⟨⟨k2,rfl,ZF⟩,rfl,rfl⟩;have aKZ:qA (k2:Int):=by unfold qA;omega
  simp[-appendTo,rc];refine(arw S J AL aKZ).mono ?_;rintro o h5 Z8 ⟨rfl,e5⟩;have s5:=kTSu Z8;have E5:=e3.trans e5;have fc:∀x,(FR x).length=3:=fun _=>rfl;have fa:∀x,(FR x).all AV.aM=true:=fun x=>sF.2 (DH.cell x);have ft:∀x,List.take 3 (FR x)=FR x:=fun _=>rfl;have fd:∀x,List.drop 3 (FR x)=[]:=fun _=>rfl;have hz:∀x H,bA (aS 9999) (FR x) H=(FR x,H):=fun x H=>bF (DH.wU x);have G5:=(G.ext E5).ext (E0 h5 Z8 (.cells (FR (ym i k2)) .fix));obtain⟨cC',h6,Dx,MA,ha,G6,F6⟩:=G5.Z7 DH rfl (by decide) (by omega) (ym i k2);simp[-appendTo,fc,fa,ft,fd,hz,ha];have OW:bD .i64 ((l.length:Int)+1)=((l.length+1:Nat):Int):=aO (by omega) (by omega);simp[-Int.natCast_add,sC,g12,OW];have n6:=F6.n;have n5:=E5.n;have nE:=E.n;have hll:(l ++ [ym i k2]).length=l.length+1:=by simp
  refine⟨3-(l.length+1),by omega,l ++ [ym i k2],cC',MA,by rw[hll],by omega,fun q hq=>?_,by simp[g0],by simp[g8],by simp[g10],by simp,by simp,fun q hq=>?_,G6,fun x hx=>?_,⟨by omega,fun x hx=>?_⟩⟩
  ·rcases List.mem_append.1 hq with hq|hq
   ·exact pB q hq
   ·simp at hq;subst hq;exact agJ AL _
  ·have:=gk q hq;simp at hq;rcases hq with rfl|rfl|rfl<;>simpa using this
  ·rcases F6.o with e|⟨y,e,hy⟩
   ·exact lV x (e ▸ hx)
   ·rw[e]at hx;cases hx;omega
  ·rw[F6.g x (by omega) (fun e=>by have:=lV x e;omega),aA (by omega),E5.g x (by omega)];exact E.g x hx
 ·have ayc:¬(l.length:Int)<((1+k:Nat):Int):=by omega
  simp[-Int.natCast_add,hw,ayc];refine hQ _ _ _ ⟨3-l.length,⟨l,cC,oC,rfl,hl,pB,by simp[g0],by simp[g8],by simp[g10],by simp[g11],by simp[g12],fun q hq=>?_,G,lV,E⟩,by omega⟩;have:=gk q hq;simp at hq;rcases hq with rfl|rfl|rfl<;>simpa using this
end Ln
namespace Ln
open Go.Sx Go
variable{C:bP}{X:Kn}{Y:BJ}(S:Std C X)(J:Sqf C)
def aFx(i:Nat)(ls:List (List (cd×List U))):Prop:=∀l∈ls,l≠[]∧l.length≤3∧aAh i l
def LaO(i:Nat)(c0:AV)(wL:T AV)(hB:T ah)(nB:Key)(m:Nat)(tm:T AV)(h:T ah)(nx:Key):Prop:=
 ∃(ls:List (List (cd×List U))) (cL:AV) (oL:Option Key),m=3-ls.length∧ls.length≤3∧aFx i ls∧ag (K 0) tm=some c0∧ag (K 8) tm=some (I i)∧ag (K 10) tm=some (I ls.length)∧ag (K 9) tm=some cL∧(∀q:Nat,q∈[2,7]→ag (K q) tm=ag (K q) wL)∧Gr 1 cL (aq eRV ls) ls.length h nx oL∧(∀x,oL=some x→nB.toNat≤x.toNat)∧Ext hB nB h nx
include S J
theorem Z9{i:Nat}(Cc:1≤i)(AL:i<3){ks:List Int}(NP:∀x∈ks,qA x){c0:AV}(AF:nW 1 eI c0 ks){wL:T AV}{hB:T ah}{nB:Key}{P:cH}{m:Nat}{tm:T AV}{h:T ah}{nx:Key}(hV:LaO i c0 wL hB nB m tm h nx)
  (hQ:∀(aD:T AV) (h':T ah) (nx':Key),LaO i c0 wL hB nB 0 aD h' nx'→P .norm aD h' nx'):W C (.loop kM) (aG 0 P) tm h nx:=by
 refine W.fh (LaO i c0 wL hB nB) hV ?_;rintro m dc h1 bw ⟨ls,cL,oL,rfl,hl,pB,g0,g8,g10,g9,gk,G,lV,E⟩;refine W.of ?_;simp[kM];simp[sR,g10];refine⟨fun cQ=>?_,fun P9=>?_⟩
 ·have hj3:ls.length<3:=by omega
  simp[sS];simp[sT];refine aiT S J Cc AL NP AF hj3 (hB:=h1) (nB:=bw) (m:=3) ⟨[],.nils,none,by simp,by simp,by intro q hq;simp at hq,?_,?_,?_,?_,?_,fun q hq=>rfl,Gr.nil 3 _ _,by simp,Ext.refl _ _⟩ ?_
  ·simp[g0]
  ·simp[g8]
  ·simp[g10]
  ·simp
  ·simp
  rintro Eu h3 dZ ⟨m3,⟨l,cC,oC,hm3,XG,aFz,k0,k8,cJ,dd,dy,kk,GC,aFA,EC⟩,aPN⟩;have bW:l≠[]:=fun e=>by subst e;simp at hm3;omega
  have k9:ag (K 9) Eu=some cL:=by rw[kk 9 (by simp)];simp[g9]
  have k2:ag (K 2) Eu=ag (K 2) dc:=by rw[kk 2 (by simp)];simp
  have k7:ag (K 7) Eu=ag (K 7) dc:=by rw[kk 7 (by simp)];simp
  have s3:=kTSu dZ;have n3:=EC.n;have ccC:=avw GC;have E4:=E0 h3 dZ (.cells [cC] .fix);have GC4:=GC.ext E4;obtain⟨c',H,hf,hI,hkH⟩:=RH DH GC4 9998;have hf:aS 9999 cC (aw dZ (QZ [cC]) h3)=(c',H):=hf;have LU:c'=DI l:=hI.full (List.length_pos_iff.2 bW);subst LU;have adV:∀x:Key,x.toNat<bw.toNat→ag x H=ag x h1:=fun x hx=>by rw[hkH x (fun e=>by have:=aFA x e;omega),E4.g x (by omega)];exact EC.g x hx
  have G4:=G.cv (h':=H) (nx':=dZ.succ) (by omega) fun x hx=>adV x (G.lt x hx);obtain⟨cL',h6,Dx,oL',ha,G6,F6⟩:=G4.Z7 NQ rfl (by decide) (by omega) l;have e1:eRV l=[DI l]:=rfl;rw[e1]at ha;have OW:bD .i64 ((ls.length:Int)+1)=((ls.length+1:Nat):Int):=aO (by omega) (by omega);simp only[qD];simp[-appendTo,qJ,k9,dd,ccC.1,ccC.2,hf,ha];simp[-Int.natCast_add,qK,cJ,OW];have n6:=F6.n;have nE:=E.n;have hll:(ls ++ [l]).length=ls.length+1:=by simp
  refine⟨3-(ls.length+1),by omega,ls ++ [l],cL',oL',by rw[hll],by omega,fun x hx=>?_,by simp[k0],by simp[k8],by simp,by simp,fun q hq=>?_,G6,fun x hx=>?_,⟨by omega,fun x hx=>?_⟩⟩
  ·rcases List.mem_append.1 hx with hx|hx
   ·exact pB x hx
   ·simp at hx;subst hx;exact⟨bW,XG,aFz⟩
  ·have:=gk q hq;simp at hq;rcases hq with rfl|rfl
   ·rw[←this];simpa using k2
   ·rw[←this];simpa using k7
  ·rcases F6.o with e|⟨y,e,hy⟩
   ·exact lV x (e ▸ hx)
   ·rw[e]at hx;cases hx;omega
  ·rw[F6.g x (by omega) (fun e=>by have:=lV x e;omega),adV x (by omega)];exact E.g x hx
 ·have:ls.length=3:=by omega
  refine hQ _ _ _ ⟨ls,cL,oL,by omega,hl,pB,by simp[g0],by simp[g8],by simp[g10],by simp[g9],fun q hq=>?_,G,lV,E⟩;have:=gk q hq;simp at hq;rcases hq with rfl|rfl<;>simpa using this
end Ln
namespace Ln
open Go.Sx Go
variable{C:bP}{X:Kn}{Y:BJ}(S:Std C X)(A:Zz C X Y)(J:Sqf C)
def AtV(X:Kn)(Y:BJ)(i:Nat)(b bc:Key)(cs:List Int)(c2:AV)(wL:T AV)(h0:T ah)(n0:Key)(m:Nat)(tm:T AV)(h:T ah)(nx:Key):Prop:=
 ∃(t:Nat) (w:Wd) (gs:List Gh) (wR:List Nat),m=30-t∧t≤30∧ag (K 13) tm=some (.ptr b 0)∧ag (K 15) tm=some (I t)∧ag (K 2) tm=some c2∧(∀q:Nat,q∈[7,8]→ag (K q) tm=ag (K q) wL)∧Inv i w gs wR∧Et X Y i b bc w h0 n0 h nx∧w.eG.length≤t
def AtE(X:Kn)(Y:BJ)(i:Nat)(b bc:Key)(cs:List Int)(c2:AV)(wL:T AV)(h0:T ah)(n0:Key)(tm:T AV)(h:T ah)(nx:Key):Prop:=∃m,AtV X Y i b bc cs c2 wL h0 n0 m tm h nx
theorem an3{R:List Nat}{k:Nat}(hk:k<(jU R).length):∃c:Nat,(jU R)[k]=(c:Int)∧c∈R:=by
 have hl:k<R.length:=by simpa[jU]using hk
 exact⟨R[k],by simp[jU],LA hl⟩
include S A J
theorem ajw{i:Nat}(hi:i=1∨i=2){cs:List Int}(Oc:∀x∈cs,qA x){c2:AV}(hc2:nW 1 eI c2 cs){b bc:Key}{wL:T AV}{h0:T ah}{n0:Key}{P:cH}{m:Nat}{tm:T AV}{h:T ah}{nx:Key}(hV:AtV X Y i b bc cs c2 wL h0 n0 m tm h nx)
  (hQ:∀(aD:T AV) (h':T ah) (nx':Key),AtE X Y i b bc cs c2 wL h0 n0 aD h' nx'→P .norm aD h' nx'):W C (.loop kV) (aG 4 P) tm h nx:=by
 have rR:=S.r gy;have rC:=S.r gA;have rA:=S.r bI;have rS:=S.r gZ;have Cc:1≤i:=by omega
 have AL:i<3:=by omega
 have lC:=fun {Q L tm h2 n2 k1 d1}=>(amk hc2).ln (C:=C) (Q:=Q) (L:=L) (tm:=tm) (h2:=h2) (n2:=n2) (k1:=k1) (d1:=d1);refine W.fh (AtV X Y i b bc cs c2 wL h0 n0) hV ?_;rintro m dc h1 bw ⟨t,w,gs,wR,rfl,ht,g13,g15,g2,gk,N,V,hev⟩;refine W.of ?_;have out:∀(aD:T AV) (h':T ah) (nx':Key),ag (K 13) aD=some (.ptr b 0)→ag (K 15) aD=some (I t)→ag (K 2) aD=some c2→ag (K 7) aD=ag (K 7) dc→ag (K 8) aD=ag (K 8) dc→Et X Y i b bc w h0 n0 h' nx'→P .norm aD h' nx':=fun aD h' nx' a1 a2 a3 a7 a8 a4=>hQ _ _ _ ⟨30-t,t,w,gs,wR,rfl,ht,a1,a2,a3,fun q hq=>by
  have:=gk q hq;simp at hq;rcases hq with rfl|rfl
  ·rw[a7];exact this
  ·rw[a8];exact this,N,a4,hev⟩
 simp only[kV,dO,fo,jQ,jl,vk];simp only[sb,sM,xK,xL,sN,xM,sO,xN,xO,sP,sQ,xP,xQ,xR,xS];by_cases htc:t<cs.length
 ·have asa:(t:Int)<cs.length:=by omega
  by_cases aSo:t<30
  ·have an4:(t:Int)<30:=by omega
   have Nt:=hc2.full htc;have hx:=ur htc;have hrl:=fC cs;have tx:1≤cs.length-t:=by omega
   have yI:=Oc _ (LA htc);simp[↓lC,g15,g2,asa,an4];simp[sc,g13,rR];refine(adS S J V).mono ?_;rintro o h2 bu ⟨⟨cR,hI,rfl⟩,e2⟩;have V2:=V.ext e2;have lR:=fun {Q L tm h2 n2 k1 d1}=>(amk hI).ln (C:=C) (Q:=Q) (L:=L) (tm:=tm) (h2:=h2) (n2:=n2) (k1:=k1) (d1:=d1);simp;simp only[se,sM,xK,xL,sN,xM,sO,xN,xO,sP,sQ,xP,xQ,xR,xS];by_cases hR:(jU (Qh 0 w.cls)).length=0
   ·have hR':((jU (Qh 0 w.cls)).length:Int)=0:=by omega
    simp[↓lR,hR];refine out _ _ _ ?_ ?_ ?_ ?_ ?_ V2<;>simp[g13,g15,g2]
   ·have hRb:(((jU (Qh 0 w.cls)).length:Int)==0)=false:=bq (by omega);simp[↓lR,hRb];have g2':ag (K 2) dc=some (.sl (aq eI cs) cs.length 1 .any):=by rw[←Nt];exact g2
    simp[sf,g15,g2',htc,hrl,hx,tx];have OW:bD .i64 ((t:Int)+1)=((t+1:Nat):Int):=aO (by omega) (by omega);have hlen:w.eG.length<64:=by omega
    have nxt:∀(aD:T AV) (h':T ah) (nx':Key) (w':Wd) (gs':List Gh) (aiO:List Nat),ag (K 13) aD=some (.ptr b 0)→ag (K 15) aD=some (I t)→ag (K 2) aD=some c2→ag (K 7) aD=ag (K 7) dc→ag (K 8) aD=ag (K 8) dc→Inv i w' gs' aiO→Et X Y i b bc w' h0 n0 h' nx'→w'.eG.length≤t+1→
      qy C (aW (fun tm h nx=>∃m,m<30-t∧AtV X Y i b bc cs c2 wL h0 n0 m tm h nx) (aG 4 P)) km aD h' nx':=by
     intro aD h' nx' w' gs' aiO a13 a15 a2 a7 a8 N' V' asb;simp[-Int.natCast_add,km,a15,OW];refine⟨30-(t+1),by omega,t+1,w',gs',aiO,rfl,by omega,by simp[a13],by simp,by simp[a2],fun q hq=>?_,N',V',asb⟩;have:=gk q hq;simp at hq;rcases hq with rfl|rfl
     ·rw[←this];simpa using a7
     ·rw[←this];simpa using a8
    refine⟨fun h7=>?_,fun h7=>?_⟩
    ·simp[sg,g13,rC];refine(ad3 S A J Cc AL V2 hlen fun j x hx=>by have:=(N.cf j x hx).fin;have:=(N.cf j x hx).len;omega).mono ?_;rintro o h3 dZ ⟨rfl,V3⟩;simp;refine nxt _ _ _ _ _ _ ?_ ?_ ?_ ?_ ?_ (aj1 N) V3 (by simp;omega)<;>simp[g13,g15,g2]
    ·have hRp:0<(jU (Qh 0 w.cls)).length:=by omega
     have hRm:(jU (Qh 0 w.cls)).length≤1000000:=by have:=XE w.cls 0;have:=V.c3;simp only[jU,List.length_map];omega
     simp only[si,sM,xK,xL,sN,xM,sO,xN,xO,sP,sQ,xP,xQ,xR,xS];simp[↓lR,g13,g15,g2',htc,hrl,hx,tx,rA];refine(uk S yI hRp hRm).mono ?_;rintro o h3 dZ ⟨rfl,rfl,rfl⟩;have hk:=Hv hRp cs[t];generalize MH cs[t] (jU (Qh 0 w.cls)).length=k at *;have hcR:=hI.full hk;have hxR:=ur hk;have hrR:=fC (jU (Qh 0 w.cls));have txR:1≤(jU (Qh 0 w.cls)).length-k:=by omega
     obtain⟨c,hce,Kw⟩:=an3 hk;obtain⟨x,Is,_,hx3⟩:=ag9 Kw;rw[Nat.sub_zero]at Is;rw[hce]at hxR;simp[hcR,hk,hrR,hxR,txR,rS];refine(aiP S A J hi N V2 hlen Is hx3).mono ?_;rintro o h4 kK ⟨rfl,w',gs',aiO,N',V',asb⟩;simp;refine nxt _ _ _ _ _ _ ?_ ?_ ?_ ?_ ?_ N' V' (by omega)<;>simp[g13,g15,g2]
  ·have an4:¬(t:Int)<30:=by omega
   simp[↓lC,g15,g2,asa,an4];refine out _ _ _ ?_ ?_ ?_ ?_ ?_ V<;>simp[g13,g15,g2]
 ·have asa:¬(t:Int)<cs.length:=by omega
  simp[↓lC,g15,g2,asa];refine out _ _ _ ?_ ?_ ?_ ?_ ?_ V<;>simp[g13,g15,g2]
end Ln
namespace Ln
open Go.Sx Go
theorem Wu:∀{l p:List Ev},cM p l=0→∀x∈l,zk x=true
 | [],_,_,x,hx=>by simp at hx
 |y ::l,p,h,x,hx=>by
  have h':(match BS p y with|0=>cM (y ::p) l|n=>n)=0:=h;have hb:BS p y=0:=by
   cases hb:BS p y with
   |zero=>rfl
   |succ n=>rw[hb]at h';simp at h'
  rw[hb]at h';rcases GP.1 hx with rfl|hx
  ·unfold BS at hb;cases ho:zk x with
   |true=>rfl
   |false=>rw[ho]at hb;simp at hb
  ·exact Wu h' x hx
theorem alX{x:Ev}(h:zk x=true):x.args.length≤16:=by
 unfold zk at h;rw[decide_eq_true_eq]at h;rcases h.2.2.2.2 with h|h|h
 ·exact h.2.2.2.2.1
 ·rw[h.2.2.1];exact Nat.zero_le _
 ·rw[h.2.2.2.1];exact Nat.zero_le _
def aAs:aK:=(.seq (.ops jV)
 (.seq (.staged jW ⟨[Kr,Ks,LF,LG,LH,LI,FN,NF,NG,Rm,iX,iD,ig],[]⟩)
 (.seq (.seq (.ops gC)
 (.cond (.t aan)
 (.seq (.ops jX)
 .ret)
 .skip))
 (.seq (.staged jY ⟨[XN,Rn,Kt,Ro,Qc,Rp,Rq,Rr,BI,Qi,XO,XP,XQ,XR,XS,XT,ad5,ad6,aao,ad7,ad8,k6],[]⟩)
 .ret))))
variable{C:bP}{X:Kn}{Y:BJ}(S:Std C X)(H:O0 C)(A:Zz C X Y)(J:Sqf C)
include S H A J
theorem aqL{i:Nat}(hi:i=1∨i=2){b bc pm:Key}{w:Wd}{gs:List Gh}{wR:List Nat}{h0 hB:T ah}{n0 nB:Key}{tm:T AV}{h:T ah}{nx:Key}(N:Inv i w gs wR)(V:Et X Y i b bc w h0 n0 h nx)(hev:w.eG.length≤30)(g7:ag (K 7) tm=some (.ptr pm 0))(g8:ag (K 8) tm=some (I i))(g13:ag (K 13) tm=some (.ptr b 0))(hm:ag pm h0=QZ [.sl X.rows 7 45 .any])(lm:pm.toNat<n0.toNat)(lb:nB.toNat≤pm.toNat)(E0':Ext hB nB h0 n0) :
  iT C aAs (fQ [.tmp (K 6)] fun o h' nx'=>o=.ret (.bool true)∧Ext hB nB h' nx') tm h nx:=by
 have rV:=S.r fU;have rn:=S.r iK;have rl:=S.r fV;have rF:C.raw n9=true:=S.rw (by decide);have rK:C.raw mc=true:=S.rw (by decide);have rv:=S.r uY;have Cc:1≤i:=by omega
 have AL:i<3:=by omega
 have bM:AV.beq (.agg [.sl X.rows 7 45 .any]) (.agg [.sl X.rows 7 45 .any])=true:=A.avI;have XU:nmI (i:Int)=i:=by rcases hi with rfl|rfl<;>rfl
 have yI:qA (i:Int):=by unfold qA;omega
 have dI:∀y∈w.eG,y.args.length≤1000:=fun y hy=>by have:=alX (Wu N.vd y hy);omega
 have aAt:adD w.eG:=⟨by omega,by have:=N.few;omega,dI⟩;have atC:=N.code;unfold aAs;simp only[dO,fo,jQ,jl,vk];simp[jV,g13,rV];refine(aap S J V (by omega) dI).mono ?_;rintro o h1 bw ⟨⟨c,hc,rfl⟩,e1⟩;have m1:=(e1.g pm lm).trans hm;have n1:=e1.n;have s1:=kTSu bw;simp;simp only[jW,sM,xK,xL,sN,xM,sO,xN,xO,sP,sQ,xP,xQ,xR,xS];simp[g7,g8,m1,rn];refine(XV S yI).mono ?_;rintro o h2 bu ⟨rfl,e2⟩;rw[XU];have n2:=e2.n;have m2:=(e2.g pm (by omega)).trans m1;simp[g7,m2,bM,rl];refine(NZ S).mono ?_;rintro o h3 dZ ⟨rfl,e3⟩;have n3:=e3.n;have m3:=(e3.g pm (by omega)).trans m2;simp[g7,m3,bM,rF];have hp:=alY S H AL aAt (fun _=>aaq) (h:=h3) (nx:=dZ) (hc.rde h3 dZ);simp[Kn.m]at hp;refine hp.mono ?_;rintro o h4 kK ⟨e4,hR⟩;have n4:=e4.n;have m4:=(e4.g pm (by omega)).trans m3;have ZN:∀x:Key,x.toNat<n0.toNat→ag x h4=ag x h0:=fun x hx=>by rw[e4.g x (by omega),e3.g x (by omega),e2.g x (by omega)];exact e1.g x hx
 rcases hR with⟨bW,_⟩|⟨_,⟨_,rfl⟩|⟨L,_,_,_,⟨p,cR,hpa,hI,rfl⟩|⟨hg,_⟩⟩⟩
 ·exact absurd atC bW
 ·simp;simp[gC];simp[jX,rv];refine aJ.known (S.s_lives _ _) ?_;simp;have nE:=E0'.n;exact⟨by omega,fun x hx=>by rw[aA (by omega),ZN x (by omega)];exact E0'.g x hx⟩
 ·have cR1:=aqM hI;obtain⟨avK,xz⟩:=ad4 atC hpa;simp[cR1.1,cR1.2];have m5:ag pm (aw bw (QZ [.nils]) h4)=QZ [.sl X.rows 7 45 .any]:=by rw[aA (by omega)];exact m4
  have p5:ag bw (aw bw (QZ [.nils]) h4)=QZ [.nils]:=by simp
  have aFN:∀x:Key,x.toNat<n0.toNat→ag x (aw bw (QZ [.nils]) h4)=ag x h0:=fun x hx=>by rw[aA (by omega)];exact ZN x hx
  generalize aw bw (QZ [.nils]) h4=h5 at *;simp[gC];simp only[jY,sM,xK,xL,sN,xM,sO,xN,xO,sP,sQ,xP,xQ,xR,xS];simp[g7,g8,m5,p5,rn];refine(XV S yI).mono ?_;rintro o h6 Dx ⟨rfl,e6⟩;rw[XU];have n6:=e6.n;have m6:=(e6.g pm (by omega)).trans m5;simp[g7,m6,bM,rl];refine(NZ S).mono ?_;rintro o h7 nx7 ⟨rfl,e7⟩;have n7:=e7.n;have m7:=(e7.g pm (by omega)).trans m6;simp[g7,m7,bM,rK];have ai1:Ord cR (jU p) (jU p).length h7 nx7:=by
   refine⟨fE _,?_⟩;rcases hI with⟨rfl,e⟩|rfl
   ·exact .inl ⟨rfl,by rw[e];rfl⟩
   ·exact .inr (.inl ⟨.any,by rw[List.take_length]⟩)
  have IL:=alZ S AL hc aAt (ord:=jU p) (by have:=N.few;simp[jU];omega) ai1;simp[Kn.m]at IL;refine IL.mono ?_;rintro o h8 nx8 ⟨rfl,e8⟩;have n8:=e8.n;rw[avK];simp[rv];refine aJ.known (S.s_lives _ _) ?_;simp;have nE:=E0'.n;exact⟨by omega,fun x hx=>by rw[e8.g x (by omega),e7.g x (by omega),e6.g x (by omega),aFN x (by omega)];exact E0'.g x hx⟩
 ·exact absurd (N.NO A.f) hg
end Ln
namespace Ln
open Go.Sx Go
variable{C:bP}{X:Kn}{Y:BJ}(S:Std C X)(H:O0 C)(A:Zz C X Y)(J:Sqf C)
include S H A J
theorem aeC{n:Int}(hn:qA n){ks cs:List Int}(NP:∀x∈ks,qA x)(Oc:∀x∈cs,qA x){c0 c2:AV}(AF:nW 1 eI c0 ks)(hc2:nW 1 eI c2 cs)(hB:T ah)(nB:Key) :
  aJ C mj [c0,I n,c2] hB nB (fun o h' nx'=>o=.ret (.bool true)∧Ext hB nB h' nx'):=by
 have rM:=S.r zQ;have rA:=S.r bI;have rs:=S.r ml;have rl:=S.r fV;have rN:=S.r vU;have bM:AV.beq (.agg [.sl X.rows 7 45 .any]) (.agg [.sl X.rows 7 45 .any])=true:=A.avI;have s1:=kTSu nB;refine J.vT.call ?_;simp only[pD,dO,fo,jQ,jl,vk];simp[tc];simp[td,rM];refine aJ.known (S.s_Module _ _) ?_;simp[Kn.m];have e1:=E0 hB nB (.cells [.sl X.rows 7 45 .any] .fix);have m1:ag nB (aw nB (QZ [.sl X.rows 7 45 .any]) hB)=QZ [.sl X.rows 7 45 .any]:=by simp
 generalize aw nB (QZ [.sl X.rows 7 45 .any]) hB=h1 at *;simp[th,rA];refine(uk S hn (m:=2) (by omega) (by omega)).mono ?_;rintro o h2 bu ⟨rfl,rfl,rfl⟩;have cQ:=Hv (m:=2) (by omega) n;have hw:bD .i64 (1+((MH n 2:Nat):Int))=((1+MH n 2:Nat):Int):=aO (by omega) (by omega);simp[-Int.natCast_add,hw];have hi:1+MH n 2=1∨1+MH n 2=2:=by omega
 generalize 1+MH n 2=i at *;have Cc:1≤i:=by omega
 have AL:i<3:=by omega
 have XU:nmI (i:Int)=i:=by rcases hi with rfl|rfl<;>rfl
 have yI:qA (i:Int):=by unfold qA;omega
 simp[tn];simp[tp];refine Z9 S J Cc AL NP AF (hB:=h2) (nB:=nB.succ) (m:=3) ⟨[],.nils,none,by simp,by simp,by intro q hq;simp at hq,?_,?_,?_,?_,fun q hq=>rfl,Gr.nil 1 _ _,by simp,Ext.refl _ _⟩ ?_
 ·simp
 ·simp
 ·simp
 ·simp
 rintro Eu h3 dZ ⟨ls,cL,oL,aRc,ZE,pB,g0,g8,g10,g9,gk,G,lV,E3⟩;have XG:ls.length=3:=by omega
 have k2:ag (K 2) Eu=some c2:=by rw[gk 2 (by simp)];simp
 have k7:ag (K 7) Eu=some (.ptr nB 0):=by rw[gk 7 (by simp)];simp
 have n3:=E3.n;have m3:=(E3.g nB (by omega)).trans m1;simp only[qD,dO,fo,jQ,jl,vk];simp only[re,sM,xK,xL,sN,xM,sO,xN,xO,sP,sQ,xP,xQ,xR,xS];simp[k7,g8,g9,m3,rs];refine(ajv S J yI).mono ?_;rintro o h4 kK ⟨rfl,e4⟩;rw[XU];have n4:=e4.n;have m4:=(e4.g nB (by omega)).trans m3;simp[k7,m4,bM,rl];refine(NZ S).mono ?_;rintro o h5 Z8 ⟨rfl,e5⟩;have n5:=e5.n;have m5:=(e5.g nB (by omega)).trans m4;have E5:=e4.trans e5;have G5:=G.ext E5;obtain⟨c',H',hf,hI,hkH⟩:=RH NQ G5 9998;have hf:aS 9999 cL h5=(c',H'):=hf;have LU:c'=.sl (aq eRV ls) ls.length 1 .any:=hI.full (i:=0) (by omega);subst LU;rw[XG]at hf;have zL:∀H,aS 9999 iW H=(iW,H):=fun H=>by simp[iW]
 have mH:ag nB H'=QZ [.sl X.rows 7 45 .any]:=by rw[hkH nB (fun e=>by have:=lV nB e;omega)];exact m5
 have EH:Ext hB nB H' Z8:=⟨by omega,fun x hx=>by rw[hkH x (fun e=>by have:=lV x e;omega),e5.g x (by omega),e4.g x (by omega),E3.g x (by omega)];exact e1.g x hx⟩;simp[g9,k7,m5,bM,rN,hf,zL];have hnw:=amM S A J Cc AL XG (fun l hl=>⟨(pB l hl).1,(pB l hl).2.1,fun q hq=>⟨((pB l hl).2.2 q hq).1,((pB l hl).2.2 q hq).2.1⟩⟩) H' Z8;simp[Kn.m,zN]at hnw;refine hnw.mono ?_;rintro o h6 Dx ⟨b,bc,rfl,V⟩;simp;have Xt:jM C.orc .ptr (.ptr b 0) .nilp=some false:=rfl;simp[rh,Xt];simp[rm];have N0:Inv i ⟨bJ i,[],ls.map Td⟩ [] []:=amN (by simp;omega) fun x hx=>by obtain⟨l,hl,rfl⟩:=NI.1 hx;obtain⟨_,q2,q3⟩:=pB l hl;exact⟨⟨q3,q2,by simp[Td]⟩,rfl,rfl⟩
 refine ajw S A J hi Oc hc2 (b:=b) (bc:=bc) (h0:=H') (n0:=Z8) (m:=30) ⟨0,_,_,_,by simp,by omega,?_,?_,?_,fun q hq=>rfl,N0,V,by simp⟩ ?_
 ·simp
 ·simp
 ·simp[k2]
 rintro tm7 h7 nx7 ⟨m7,t,w,gs,wR,hm7,ht,a13,a15,a2,ak,N,V7,hev⟩;have a7:ag (K 7) tm7=some (.ptr nB 0):=by rw[ak 7 (by simp)];simp[k7]
 have a8:ag (K 8) tm7=some (I i):=by rw[ak 8 (by simp)];simp[g8]
 simp only[qD];exact aqL S H A J hi N V7 (by omega) a7 a8 a13 mH (by omega) (fE _) EH
end Ln
namespace Go.Sx
def zW(W:World)(c i:Nat):Option Value:=match W.heap[c]? with
 |some (.cells arr _ _)=>arr[i]?
 |_=>none
theorem ar4{W:World}:∀c i v,zW W c i=some v→∃arr elem f,W.heap[c]?=some (.cells arr elem f)∧arr[i]?=some v:=by
 intro c i v h;unfold zW at h;split at h
 ·rename_i arr e f he;exact⟨arr,e,f,he,h⟩
 ·cases h
end Go.Sx
