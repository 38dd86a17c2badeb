/- A part of the proof. No condition. -/
import Derived.Test.YtecbfpngkfdkoaaGreatP35
set_option linter.unusedSimpArgs false
set_option linter.unusedVariables false
set_option linter.unusedSectionVars false
namespace Ln
open Go.Sx Go
def fsU(s:Nat)(l:List Nat)(k:Nat):Nat:=(List.range k).foldl (fun s j=>Mz s (word l j)) s
theorem apS(s:Nat)(l:List Nat)(k:Nat):fsU s l (k+1)=Mz (fsU s l k) (word l k):=by unfold fsU;rw[List.range_succ,List.foldl_append,List.foldl_cons,List.foldl_nil]
structure SmI(c:AV)(b1 b5 n0 d lk:Key)(h0:T ai)(ds:List Key)(L:ai)(v:AV)(h:T ai)(nx:Key):Prop where
 fl:ag lk h=some L
 f1:ag b1 h=Qz [c]
 f5:ag b5 h=Qz [v]
 lt:lk.toNat<nx.toNat∧b1.toNat<nx.toNat∧b5.toNat<nx.toNat
 ds:mG n0 (d ::ds) h nx
 e:Ext h0 n0 h nx
variable{C:bH}{X:Kn}(S:Std C X)(H:Na C)
include S H
theorem akC{c:AV}{l:List Nat}(hc:qf 1 eY c l)(hl:l.length≤1000000){b1 b5 n0:Key}{h0:T ai}{s:Nat}{Q:qH}{ds:List Key}{tm:T AV}{h:T ai}{nx:Key}(g11:ag (K 11) tm=some (.fn dv [] [.ptr b1 0]))(g5:ag (K 5) tm=some (.ptr b5 0))(v1:ag b1 h=Qz [c])(v5:ag b5 h=Qz [mD s])(lt:b1.toNat<nx.toNat∧b5.toNat<nx.toNat)(ZQ:n0.toNat≤b5.toNat)(aNb:b1≠b5)(D:mG n0 ds h nx)(e0:Ext h0 n0 h nx)
  (TK:∀BB h' nx',ag b5 h'=Qz [mD (fsU s l (nw l))]→b5.toNat<nx'.toNat→mG n0 BB h' nx'→Ext h0 n0 h' nx'→Q .norm BB tm h' nx') :
  V C (.rangeF (.t (K 11)) [K 12] (.ops cx) (.block 1 (.ops v7))) Q ds tm h nx:=by
 have rM:=S.r gB;have s1:=kTSu nx;have s2:=kTSu nx.succ;have n0x:=e0.n;refine V.rangeF (g:=dv) (first:=[]) (cap:=[.ptr b1 0]) g11 H.nP.off ?_;intro fn res;have e1:=(E0 h nx (.dfs false)).trans (E0 _ nx.succ (.loop .ready none fn tm res [K 12] (.ops cx) (.block 1 (.ops v7)) nx));generalize hb5:(aK.block 1 (.ops v7))=body at *;have Mm:nx∉ds:=fun hm=>by have:=D.lt nx hm;omega
 have gd:ag nx (qI fn tm res [K 12] (.ops cx) body h nx)=some (.dfs false):=by unfold qI;rw[aw (by omega)];simp
 have gl:ag nx.succ (qI fn tm res [K 12] (.ops cx) body h nx)=some (.loop .ready none fn tm res [K 12] (.ops cx) body nx):=by unfold qI;simp
 have Fk:Ext h nx (qI fn tm res [K 12] (.ops cx) body h nx) nx.succ.succ:=e1;generalize qI fn tm res [K 12] (.ops cx) body h nx=hL at *;refine SV H hc hl (b1:=b1) (lk:=nx.succ) (Inv:=fun k h' nx'=>SmI c b1 b5 n0 nx nx.succ h0 ds (.loop .ready none fn tm res [K 12] (.ops cx) body nx) (mD (fsU s l k)) h' nx') ⟨?_,?_,?_⟩ ⟨gl,by rw[Fk.g _ lt.1];exact v1,by rw[Fk.g _ lt.2];exact v5,by omega,(D.ext Fk).cons Mm gd n0x (by omega),e0.trans Fk⟩
 ·rintro k h1 bW A;exact A.f1
 ·rintro k h1 bW hk A;refine B0.intro (fun cE h2 aZ=>aZ=bW∧h2=h1∧ag (K 6) cE=some (mD (word l k))∧ag (K 5) cE=some (.ptr b5 0)) A.fl rfl ?_ ?_
  ·simp[cx,g5]
  ·rintro cE h2 aZ ⟨rfl,rfl,g6,g5'⟩;refine⟨A.fl,?_⟩;have hn5:nx.succ≠b5:=fun e=>by have:=congrArg Key.toNat e;omega
   have v53:ag b5 (au nx.succ (some (.loop .busy none fn tm res [K 12] (.ops cx) body nx)) h2)=Qz [mD (fsU s l k)]:=by rw[aD _ _ _ _ (fun e=>hn5 e.symm)];exact A.f5
   have lk3:ag nx.succ (au nx.succ (some (.loop .busy none fn tm res [K 12] (.ops cx) body nx)) h2)=some (.loop .busy none fn tm res [K 12] (.ops cx) body nx):=by simp
   have nc2:∀b:Key,b≠nx.succ→ag b (au nx.succ (some (.loop .busy none fn tm res [K 12] (.ops cx) body nx)) h2)=ag b h2:=fun b hb=>aD _ _ _ _ hb;generalize au nx.succ (some (.loop .busy none fn tm res [K 12] (.ops cx) body nx)) h2=h3 at *;generalize hrq:Kz _ nx.succ fn tm res [K 12] (.ops cx) body nx=RQ;rw[←hb5];simp;simp[v7,g6,g5',v53,rM];refine(Zw S H _ _).mono ?_;rintro o h4 mC ⟨rfl,rfl,rfl⟩;simp[g5',v53];rw[←hrq];have cp:b5≠nx.succ:=fun e=>hn5 e.symm;refine⟨⟨none,by rw[aD _ _ _ _ hn5];exact lk3⟩,rfl,?_⟩;have gb:∀b:Key,b≠nx.succ→b≠b5→ag b (au nx.succ (some (.loop .ready none fn tm res [K 12] (.ops cx) body nx)) (au b5 (Qz [mD (Mz (fsU s l k) (word l k))]) h4))=ag b h2:=fun b h1 h2=>by rw[aD _ _ _ _ h1,aD _ _ _ _ h2,nc2 b h1]
   have lkc:=A.fl;refine⟨by simp,?_,?_,A.lt,?_,?_⟩
   ·rw[gb b1 (fun e=>by rw[e]at lt;omega) aNb];exact A.f1
   ·rw[aD _ _ _ _ cp,gTSm,apS]
   ·refine A.ds.keep (gi _) fun b _ hg=>?_;rw[gb b (by rintro rfl;rw[A.fl]at hg;cases hg) (by rintro rfl;rw[A.f5]at hg;cases hg)];exact hg
   ·refine⟨A.e.n,fun b hb=>?_⟩;rw[gb b (fun e=>by rw[e]at hb;omega) (fun e=>by rw[e]at hb;omega)];exact A.e.g b hb
 ·rintro h1 bW A;refine⟨_,rfl,.ready,none,A.fl,by simp,?_⟩;refine TK _ _ _ ?_ A.lt.2.2 ?_ ?_
  ·rw[aD _ _ _ _ (fun e=>by have:=congrArg Key.toNat e;omega)];exact A.f5
  ·refine A.ds.keep (gi _) fun b _ hg=>?_;rw[aD _ _ _ _ (by rintro rfl;rw[A.fl]at hg;cases hg)];exact hg
  ·exact A.e.put (by omega)
def ZL:List Nat:=[118,97,108,117,101]
def fsW(s:Nat)(ws:List Int):Nat:=ws.foldl (fun s w=>Mz s (UI w)) s
def ajx(ws:List Int):Nat:=Mz (fsW (Mz (Mz (fsU 0 ZL (nw ZL)) 5) (UI (ws.length:Int))) ws) 0
omit S H in
theorem apT{s:Nat}{ws:List Int}{j:Nat}(hj:j<ws.length):fsW s (ws.take (j+1))=Mz (fsW s (ws.take j)) (UI ws[j]):=by unfold fsW;rw[zqu hj,List.foldl_append,List.foldl_cons,List.foldl_nil]
def aEm(c1:AV)(ws:List Int)(b5 n0:Key)(s:Nat)(h0:T ai)(ds:List Key)(m:Nat)(aA:T AV)(h':T ai)(nx':Key):Prop:=∃j:Nat,m=ws.length-j∧j≤ws.length∧ag (K 26) aA=some c1∧ag (K 27) aA=some (I ws.length)∧ag (K 28) aA=some (I j)∧ag (K 5) aA=some (.ptr b5 0)∧ag b5 h'=Qz [mD (fsW s (ws.take j))]∧b5.toNat<nx'.toNat∧Ext h0 n0 h' nx'∧mG n0 ds h' nx'
theorem agR{c1:AV}{ws:List Int}(hw:qf 1 eI c1 ws)(hl:ws.length≤1000000){b5 n0:Key}{s:Nat}{h0:T ai}{ds:List Key}(ZQ:n0.toNat≤b5.toNat){Q:cJ}{m:Nat}{tm:T AV}{h:T ai}{nx:Key}(A:aEm c1 ws b5 n0 s h0 ds m tm h nx)
  (mh:∀aA h' nx',ag (K 5) aA=some (.ptr b5 0)→ag b5 h'=Qz [mD (fsW s ws)]→Ext h0 n0 h' nx'→mG n0 ds h' nx'→Q .norm aA h' nx') :
  W C (.loop HL) (aP 2 Q) tm h nx:=by
 have rM:=S.r gB;refine W.iM (aEm c1 ws b5 n0 s h0 ds) A ?_;rintro m gh h1 bW ⟨j,rfl,hj,g26,g27,g28,g5,v5,lt5,e1,D1⟩;refine W.of ?_;simp[HL];by_cases fu:j<ws.length
 ·have PF:(j:Int)<ws.length:=by omega
  have UL:c1=.sl (ak eI ws) ws.length 1 .any:=by
   rcases hw with⟨_,e⟩|e
   ·rw[e]at fu;simp at fu
   ·exact e
  have hx:=HX fu;have Ip:1≤(ak eI ws).length-j:=by rw[vf];omega
  have fy:=apT (s:=s) fu;have hcu:bG .u64 ws[j]=((UI ws[j]:Nat):Int):=Ol _;simp[HK,g27,g28,PF];simp[Pu,g26,g28,UL,fu,hx,Ip];simp[MK,g5,v5,hcu,rM];refine(Zw S H _ _).mono ?_;rintro o h2 aZ ⟨rfl,rfl,rfl⟩;simp[g5,v5];simp[ML,g28];rw[aS (by omega) (by omega)];exact⟨ws.length-(j+1),by omega,j+1,rfl,by omega,by simp[g26,UL],by simp[g27],by simp,by simp[g5],by rw[fy];simp,lt5,e1.put ZQ,D1.keep (gi _) fun b _ hg=>by rw[aD _ _ _ _ (by rintro rfl;rw[v5]at hg;cases hg)];exact hg⟩
 ·have PC:j=ws.length:=by omega
  subst PC;rw[List.take_length]at v5;simp[HK,g27,g28];exact mh _ _ _ (by simp[g5]) v5 e1 D1
theorem aiK(s w:Nat)(z:Int)(hz:z=(w:Int)){h:T ai}{nx:Key}:aB C gB [mD s,.int .u64 (.lit z)] h nx (fun o h' nx'=>o=.ret (mD (Mz s w))∧h'=h∧nx'=nx):=by subst hz;exact Zw S H s w
theorem axL{c1:AV}{ws:List Int}(hw:qf 1 eI c1 ws)(hl:ws.length≤1000000){h:T ai}{nx:Key} :
  aB C yT [.str 5 435761734006,c1] h nx (fun o h' nx'=>o=.ret (mD (ajx ws))∧Ext h nx h' nx'):=by
 have rM:=S.r gB;have rG:=S.r jz;have s1:=kTSu nx;have hcL:qf 1 eY (.sl (ak eY ZL) 5 1 .any) ZL:=.inr rfl;have hbL:bytesOf 5 435761734006=ak eY ZL:=rfl;have hz:∀H,aO 9999 (.sl (ak eY ZL) 5 1 .any) H=(.sl (ak eY ZL) 5 1 .any,H):=fun H=>hcL.zD _ _;refine H.Tm.callV ?_;simp[Tn];simp[Po];simp[Pp];have e1:=E0 h nx (.cells [mD 0] .fix);have v5:ag nx (au nx (Qz [mD 0]) h)=Qz [mD 0]:=by simp
 have hu0:(AV.int .u64 (.lit 0))=mD 0:=rfl;simp only[hu0];generalize au nx (Qz [mD 0]) h=h1 at *;simp[Pq,hbL,rG,hz];refine(Xc H hcL).mono ?_;rintro o h2 aZ ⟨rfl,v1,rfl,e2⟩;have s2:=kTSu nx.succ;simp;have v52:ag nx h2=Qz [mD 0]:=by rw[e2.g nx (by omega)];exact v5
 refine akC S H hcL (by decide) (b1:=nx.succ) (b5:=nx) (n0:=nx) (h0:=h) (s:=0) ?_ ?_ v1 v52 (by omega) (gi _) (fun e=>by have:=congrArg Key.toNat e;omega) (mG.nil _ _ _) (e1.trans e2) ?_
 ·simp
 ·simp
 intro ds h3 fT v53 lt3 D3 e3;have hw5:bG .u64 5=((5:Nat):Int):=by decide
 generalize hs0:fsU 0 ZL (nw ZL)=s0 at *;simp;simp[Pr,v53,hw5,rM];refine(aiK S H s0 5 5 (by omega)).mono ?_;rintro o h4 mC ⟨rfl,rfl,rfl⟩;have hwl:bG .u64 (ws.length:Int)=((UI (ws.length:Int):Nat):Int):=Ol _;generalize hs1:Mz s0 5=s1' at *;simp[v53];have e4:Ext h nx (au nx (Qz [mD s1']) h4) mC:=e3.put (gi _);have v54:ag nx (au nx (Qz [mD s1']) h4)=Qz [mD s1']:=by simp
 have D4:mG nx ds (au nx (Qz [mD s1']) h4) mC:=D3.keep (gi _) fun b _ hg=>by rw[aD _ _ _ _ (by rintro rfl;rw[v53]at hg;cases hg)];exact hg
 generalize au nx (Qz [mD s1']) h4=h5 at *;have hR:=hw.rd h5 mC;simp[↓hR.ln,Ps,v54,hwl,rM];refine(Zw S H s1' (UI (ws.length:Int))).mono ?_;rintro o h6 By ⟨rfl,rfl,rfl⟩;generalize hs2:Mz s1' (UI (ws.length:Int))=s2' at *;simp[v54];have e6:Ext h nx (au nx (Qz [mD s2']) h6) By:=e4.put (gi _);have v56:ag nx (au nx (Qz [mD s2']) h6)=Qz [mD s2']:=by simp
 have D6:mG nx ds (au nx (Qz [mD s2']) h6) By:=D4.keep (gi _) fun b _ hg=>by rw[aD _ _ _ _ (by rintro rfl;rw[v54]at hg;cases hg)];exact hg
 generalize au nx (Qz [mD s2']) h6=h7 at *;have hR7:=hw.rd h7 By;simp[↓hR7.ln,Pt];have hz0:fsW s2' (ws.take 0)=s2':=by rw[List.take_zero];unfold fsW;rw[List.foldl_nil]
 refine V.aDV (agR S H hw hl (b5:=nx) (n0:=nx) (s:=s2') (h0:=h) (ds:=ds) (m:=ws.length) (gi _) ⟨0,by simp,by omega,by simp,by simp,by simp,by simp,by rw[hz0];exact v56,by omega,e6,D6⟩ ?_);have adP:ajx ws=Mz (fsW s2' ws) 0:=by unfold ajx;rw[hs0,hs1,hs2]
 rw[adP];generalize fsW s2' ws=fw;intro aA h8 ZU g5 v8 e8 D8;simp;simp[MM,g5,v8,rM];refine(aiK S H fw 0 0 (by omega)).mono ?_;rintro o h9 nx9 ⟨rfl,rfl,rfl⟩;generalize Mz fw 0=fz;simp;refine⟨D8.nodup,D8.get,fun h10 h11=>?_⟩;refine⟨[mD fz],by simp,rfl,e8.n,fun b hb=>?_⟩;have:b∉ds:=fun hm=>by have:=D8.ge b hm;omega
 simp;rw[h11 b this];exact e8.g b hb
end Ln
namespace Ln
open Go.Sx Go
theorem abe{bb:Key}{ws:List Int}{rest:List AV}{h:T ai}{nx:Key}(hb:ag bb h=Qz (ak eI ws++rest))(hr:0<rest.length)(hl:ws.length+1≤1048576)(x:Int) :
  appendTo 1 (.slice bb 0 ws.length 1) [I x] 1 h nx=.val (.slice bb 0 (ws.length+1) 1) (au bb (Qz (ak eI (ws ++ [x])++rest.drop 1)) h) nx:=by
 have hlen:=vf ws;have h1:ws.length+1≤ws.length+rest.length:=by omega
 have ht:List.take ws.length (ak eI ws++rest)=ak eI ws:=by rw[List.take_append_of_le_length (by omega),PH (by omega)]
 have hd:List.drop (ws.length+1) (ak eI ws++rest)=rest.drop 1:=by rw[zqq,List.drop_eq_nil_of_le (by omega),hlen,List.nil_append];congr 1;omega
 have hra:ak eI (ws ++ [x])=ak eI ws ++ [I x]:=by rw[gZ,hJ];rfl
 simp[hb,hl,hlen,h1,ht,hd,hra]
theorem ans{n:Nat}{b:Key}{len:Nat}{l:List AV}{H:T ai}(hg:ag b H=Qz l)(hl:len≤l.length)(hs:∀x∈l.take len,FJ x):aO (n+1) (.slice b 0 len 1) H=(.sl (l.take len) len 1 .any,au b (some (.cells l .ro)) H):=by simp only[aO,Jm,hg,List.drop_zero];rw[if_pos (by omega),Nat.mul_one,bw hs]
theorem anr(n:Nat)(x:AV):(Ng n [x] []).length=n:=by rw[repL_eq,List.append_nil];simp
def NN(l:List Nat)(k:Nat):List Int:=(List.range k).map fun j=>bG .i64 (word l j:Int)
theorem Ti(l:List Nat)(k:Nat):(NN l k).length=k:=by simp[NN]
theorem ajV(l:List Nat)(k:Nat):NN l (k+1)=NN l k ++ [bG .i64 (word l k:Int)]:=by unfold NN;rw[List.range_succ,List.map_append,zqx,List.map_nil]
def aaI(l:List Nat):Nat:=ajx (NN l (nw l) ++ [(l.length:Int)])
structure ByI(c:AV)(l:List Nat)(b1 b5 bb n0 d lk:Key)(h0:T ai)(ds:List Key)(L:ai)(cap:Nat)(k:Nat)(h:T ai)(nx:Key):Prop where
 fl:ag lk h=some L
 f1:ag b1 h=Qz [c]
 f5:ag b5 h=Qz [.slice bb 0 k 1]
 fb:∃rest,ag bb h=Qz (ak eI (NN l k)++rest)∧k+rest.length=cap
 ds:mG n0 (d ::ds) h nx
 e:Ext h0 n0 h nx
variable{C:bH}{X:Kn}(S:Std C X)(H:Na C)
include S H
theorem abd{c:AV}{l:List Nat}(hc:qf 1 eY c l)(hl:l.length≤1000000){b1 b5 bb n0:Key}{h0:T ai}{cap:Nat}(Bh:nw l+1≤cap){Q:qH}{ds:List Key}{tm:T AV}{h:T ai}{nx:Key}(g13:ag (K 13) tm=some (.fn dv [] [.ptr b1 0]))(g5:ag (K 5) tm=some (.ptr b5 0))(v1:ag b1 h=Qz [c])(v5:ag b5 h=Qz [.slice bb 0 0 1])(vb:∃rest,ag bb h=Qz rest∧rest.length=cap)(o1:bb.toNat<b5.toNat)(o2:b5.toNat<b1.toNat)(o3:b1.toNat<nx.toNat)(ZQ:n0.toNat≤bb.toNat)(D:mG n0 ds h nx)(e0:Ext h0 n0 h nx)
  (TK:∀BB h' nx' rest,ag b5 h'=Qz [.slice bb 0 (nw l) 1]→ag bb h'=Qz (ak eI (NN l (nw l))++rest)→nw l+rest.length=cap→nx.toNat≤nx'.toNat→mG n0 BB h' nx'→Ext h0 n0 h' nx'→Q .norm BB tm h' nx') :
  V C (.rangeF (.t (K 13)) [K 14] (.ops bQ) (.block 1 (.ops pP))) Q ds tm h nx:=by
 have s1:=kTSu nx;have s2:=kTSu nx.succ;have n0x:=e0.n;refine V.rangeF (g:=dv) (first:=[]) (cap:=[.ptr b1 0]) g13 H.nP.off ?_;intro fn res;have e1:=(E0 h nx (.dfs false)).trans (E0 _ nx.succ (.loop .ready none fn tm res [K 14] (.ops bQ) (.block 1 (.ops pP)) nx));generalize hb5:(aK.block 1 (.ops pP))=body at *;have Mm:nx∉ds:=fun hm=>by have:=D.lt nx hm;omega
 have gd:ag nx (qI fn tm res [K 14] (.ops bQ) body h nx)=some (.dfs false):=by unfold qI;rw[aw (by omega)];simp
 have gl:ag nx.succ (qI fn tm res [K 14] (.ops bQ) body h nx)=some (.loop .ready none fn tm res [K 14] (.ops bQ) body nx):=by unfold qI;simp
 have Fk:Ext h nx (qI fn tm res [K 14] (.ops bQ) body h nx) nx.succ.succ:=e1;generalize qI fn tm res [K 14] (.ops bQ) body h nx=hL at *;obtain⟨rest,vb1,vb2⟩:=vb;refine SV H hc hl (b1:=b1) (lk:=nx.succ) (Inv:=fun k h' nx'=>ByI c l b1 b5 bb n0 nx nx.succ h0 ds (.loop .ready none fn tm res [K 14] (.ops bQ) body nx) cap k h' nx'∧nx.succ.succ.toNat≤nx'.toNat) ⟨?_,?_,?_⟩ ⟨⟨gl,by rw[Fk.g _ o3];exact v1,by rw[Fk.g _ (by omega)];exact v5,⟨rest,by rw[Fk.g _ (by omega)];exact vb1,by omega⟩,(D.ext Fk).cons Mm gd n0x (by omega),e0.trans Fk⟩,gi _⟩
 ·rintro k h1 bW ⟨A,_⟩;exact A.f1
 ·rintro k h1 bW hk ⟨A,hn1⟩;refine B0.intro (fun cE h2 aZ=>aZ=bW∧h2=h1∧ag (K 6) cE=some (mD (word l k))∧ag (K 5) cE=some (.ptr b5 0)) A.fl rfl ?_ ?_
  ·simp[bQ,g5]
  ·rintro cE h2 aZ ⟨rfl,rfl,g6,g5'⟩;refine⟨A.fl,?_⟩;obtain⟨rs,fb,hrs⟩:=A.fb;have t2:=kTSu aZ;have n5:b5≠nx.succ:=fun e=>by rw[e]at o2;omega
   have nb:bb≠nx.succ:=fun e=>by rw[e]at o1;omega
   have n1:b1≠nx.succ:=fun e=>by rw[e]at o3;omega
   have n15:b1≠b5:=fun e=>by rw[e]at o2;omega
   have n1b:b1≠bb:=fun e=>by rw[e]at o2;omega
   have n5b:b5≠bb:=fun e=>by rw[e]at o1;omega
   have v53:ag b5 (au nx.succ (some (.loop .busy none fn tm res [K 14] (.ops bQ) body nx)) h2)=Qz [.slice bb 0 k 1]:=by rw[aD _ _ _ _ n5];exact A.f5
   have lk3:ag nx.succ (au nx.succ (some (.loop .busy none fn tm res [K 14] (.ops bQ) body nx)) h2)=some (.loop .busy none fn tm res [K 14] (.ops bQ) body nx):=by simp
   have nc2:∀b:Key,b≠nx.succ→ag b (au nx.succ (some (.loop .busy none fn tm res [K 14] (.ops bQ) body nx)) h2)=ag b h2:=fun b hb=>aD _ _ _ _ hb;generalize au nx.succ (some (.loop .busy none fn tm res [K 14] (.ops bQ) body nx)) h2=h3 at *;generalize hrq:Kz _ nx.succ fn tm res [K 14] (.ops bQ) body nx=RQ;rw[←hb5];have hsu:=ajV l k;generalize hwz:bG .i64 (word l k:Int)=wz at *;have ap:=abe (bb:=bb) (ws:=NN l k) (rest:=rs) (h:=au aZ (Qz [I wz]) h3) (nx:=aZ.succ) (by rw[aw (by omega),nc2 bb nb];exact fb) (by omega) (by rw[Ti];unfold nw at hk;omega) wz;rw[Ti]at ap;have v54:∀B,ag b5 (au bb B (au aZ (Qz [I wz]) h3))=Qz [.slice bb 0 k 1]:=fun B=>by rw[aD _ _ _ _ n5b,aw (by omega)];exact v53
   simp;simp[-appendTo,pP,g6,g5',v53,hwz,ap,v54];rw[←hrq];have gq:∀b:Key,b.toNat<aZ.toNat→b≠b5→b≠bb→b≠nx.succ→∀B1 B2 B3 B4,ag b (au nx.succ B4 (au b5 B3 (au bb B2 (au aZ B1 h3))))=ag b h2:=fun b h0 h1 h2 h3 B1 B2 B3 B4=>by rw[aD _ _ _ _ h3,aD _ _ _ _ h1,aD _ _ _ _ h2,aw h0,nc2 b h3]
   refine⟨⟨none,by rw[aD _ _ _ _ (Ne.symm n5),aD _ _ _ _ (Ne.symm nb),aw (by omega)];exact lk3⟩,rfl,⟨by simp,?_,?_,?_,?_,?_⟩,by omega⟩
   ·rw[gq b1 (by omega) n15 n1b n1];exact A.f1
   ·rw[aD _ _ _ _ n5,gTSm]
   ·refine⟨rs.tail,?_,?_⟩
    ·rw[aD _ _ _ _ nb,aD _ _ _ _ (Ne.symm n5b),gTSm,hsu]
    ·rw[List.length_tail];omega
   ·refine A.ds.keep (by omega) fun b hb hg=>?_;rw[gq b hb (by rintro rfl;rw[A.f5]at hg;cases hg) (by rintro rfl;rw[fb]at hg;cases hg) (by rintro rfl;rw[A.fl]at hg;cases hg)];exact hg
   ·have nA:=A.e.n;refine⟨by omega,fun b hb=>?_⟩;rw[gq b (by omega) (fun e=>by rw[e]at hb;omega) (fun e=>by rw[e]at hb;omega) (fun e=>by rw[e]at hb;omega)];exact A.e.g b hb
 ·rintro h1 bW ⟨A,hn1⟩;obtain⟨rs,fb,hrs⟩:=A.fb;refine⟨_,rfl,.ready,none,A.fl,by simp,?_⟩;refine TK _ _ _ rs ?_ ?_ hrs (by omega) ?_ ?_
  ·rw[aD _ _ _ _ (fun e=>by rw[e]at o2;omega)];exact A.f5
  ·rw[aD _ _ _ _ (fun e=>by rw[e]at o1;omega)];exact fb
  ·refine A.ds.keep (gi _) fun b _ hg=>?_;rw[aD _ _ _ _ (by rintro rfl;rw[A.fl]at hg;cases hg)];exact hg
  ·exact A.e.put (by omega)
end Ln
namespace Ln
open Go.Sx Go
variable{C:bH}{X:Kn}(S:Std C X)(H:Na C)
include S H
theorem amR{c:AV}{l:List Nat}(hc:qf 1 eY c l)(hl:l.length≤1000000){h:T ai}{nx:Key} :
  aB C ru [.str 5 435761734006,c] h nx (fun o h' nx'=>o=.ret (mD (aaI l))∧Ext h nx h' nx'):=by
 have rG:=S.r jz;have rS:=S.r yT;have s1:=kTSu nx;have s2:=kTSu nx.succ;have s3:=kTSu nx.succ.succ;have hcz:∀H,aO 9999 c H=(c,H):=fun H=>hc.zD _ _;have hR:=hc.rd h nx;obtain⟨q,hqd⟩:∃q,q=l.length / 8:=⟨_,rfl⟩;obtain⟨cap,hcd⟩:∃cap,cap=q+2:=⟨_,rfl⟩;have hq:bG .i64 ((l.length:Int) / 8)=(q:Int):=by
  have:(l.length:Int) / 8=(q:Int):=by omega
  rw[this];exact aS (by omega) (by omega)
 have Xg:bG .i64 ((q:Int)+2)=(cap:Int):=by
  have:(q:Int)+2=(cap:Int):=by omega
  rw[this];exact aS (by omega) (by omega)
 have Bh:nw l+1≤cap:=by unfold nw;omega
 have UL:cap≤1048576:=by omega
 have aJM:rj (AV.int .i64 (.lit (cap:Int)))=some cap:=rfl;refine H.Mb.callV ?_;simp[Kj];simp[Jg];have hrl:=anr cap (I 0);simp[↓hR.ln,Jh,hq,Xg,UL,aJM,-repL_eq]
 try simp only[show(AV.int IntKind.i64 (SI.lit 0))=I 0 from rfl]
 have e2:=(E0 h nx (.cells (Ng cap [I 0] []) .fix)).trans (E0 _ nx.succ (.cells [.slice nx 0 0 1] .fix));have bb2:ag nx (au nx.succ (Qz [.slice nx 0 0 1]) (au nx (Qz (Ng cap [I 0] [])) h))=Qz (Ng cap [I 0] []):=by rw[aw (by omega)];simp
 have b52:ag nx.succ (au nx.succ (Qz [.slice nx 0 0 1]) (au nx (Qz (Ng cap [I 0] [])) h))=Qz [.slice nx 0 0 1]:=by simp
 generalize Ng cap [I 0] []=R0 at *;generalize au nx.succ (Qz [.slice nx 0 0 1]) (au nx (Qz R0) h)=h2 at *;simp[Ji,rG,hcz];refine(Xc H hc).mono ?_;rintro o h3 fT ⟨rfl,v1,rfl,e3⟩;simp;have b53:ag nx.succ h3=Qz [.slice nx 0 0 1]:=by rw[e3.g _ (by omega)];exact b52
 have bb3:ag nx h3=Qz R0:=by rw[e3.g _ (by omega)];exact bb2
 refine abd S H hc hl (b1:=nx.succ.succ) (b5:=nx.succ) (bb:=nx) (n0:=nx) (h0:=h) (cap:=cap) Bh ?_ ?_ v1 b53 ⟨R0,bb3,hrl⟩ (by omega) (by omega) (by omega) (gi _) (mG.nil _ _ _) (e2.trans e3) ?_
 ·simp
 ·simp
 intro ds h4 mC rest v54 vb4 aPZ hn4 D4 e4;have s4:=kTSu mC;have hwl:=Ti l (nw l);have ap:=abe (bb:=nx) (ws:=NN l (nw l)) (rest:=rest) (h:=au mC (Qz [I (l.length:Int)]) h4) (nx:=mC.succ) (by rw[aw (by omega)];exact vb4) (by omega) (by omega) (l.length:Int);have hlw:(NN l (nw l) ++ [(l.length:Int)]).length=nw l+1:=by rw[xa,hwl];rfl
 have hhu:aaI l=ajx (NN l (nw l) ++ [(l.length:Int)]):=rfl;rw[hhu];rw[hwl]at ap;generalize hwz:NN l (nw l) ++ [(l.length:Int)]=ws at *;have n5b:nx.succ≠nx:=fun e=>by have:=congrArg Key.toNat e;omega
 have v55:∀B,ag nx.succ (au nx B (au mC (Qz [I (l.length:Int)]) h4))=Qz [.slice nx 0 (nw l) 1]:=fun B=>by rw[aD _ _ _ _ n5b,aw (by omega)];exact v54
 have v56:ag nx.succ (au mC (Qz [I (l.length:Int)]) h4)=Qz [.slice nx 0 (nw l) 1]:=by rw[aw (by omega)];exact v54
 have hR4:=hc.rd h4 mC;simp;simp[-appendTo,↓hR4.ln,Jj,v54,v55,v56,ap];have e5:Ext h nx (au nx.succ (Qz [.slice nx 0 (nw l+1) 1]) (au nx (Qz (ak eI ws++rest.tail)) (au mC (Qz [I (l.length:Int)]) h4))) mC.succ:=((((e4.trans (E0 h4 mC _)).put (gi _)).put (by omega)));have w5:ag nx.succ (au nx.succ (Qz [.slice nx 0 (nw l+1) 1]) (au nx (Qz (ak eI ws++rest.tail)) (au mC (Qz [I (l.length:Int)]) h4)))=Qz [.slice nx 0 (nw l+1) 1]:=by simp
 have wb:ag nx (au nx.succ (Qz [.slice nx 0 (nw l+1) 1]) (au nx (Qz (ak eI ws++rest.tail)) (au mC (Qz [I (l.length:Int)]) h4)))=Qz (ak eI ws++rest.tail):=by rw[aD _ _ _ _ (Ne.symm n5b),gTSm]
 have D5:mG nx ds (au nx.succ (Qz [.slice nx 0 (nw l+1) 1]) (au nx (Qz (ak eI ws++rest.tail)) (au mC (Qz [I (l.length:Int)]) h4))) mC.succ:=D4.keep (by omega) fun b hb hg=>by rw[aD _ _ _ _ (by rintro rfl;rw[v54]at hg;cases hg),aD _ _ _ _ (by rintro rfl;rw[vb4]at hg;cases hg),aw hb];exact hg
 generalize au nx.succ (Qz [.slice nx 0 (nw l+1) 1]) (au nx (Qz (ak eI ws++rest.tail)) (au mC (Qz [I (l.length:Int)]) h4))=h5 at *;have aTL:(ak eI ws).length=nw l+1:=by rw[vf,hlw]
 have WT:List.take (nw l+1) (ak eI ws++rest.tail)=ak eI ws:=by rw[List.take_append_of_le_length (by omega),PH (by omega)]
 have hz:=ans (n:=9998) (b:=nx) (len:=nw l+1) (H:=h5) wb (by rw[xa];omega) (by rw[WT];exact IU.FB ws);rw[WT]at hz;have hw:qf 1 eI (.sl (ak eI ws) (nw l+1) 1 .any) ws:=.inr (by rw[hlw]);have e6:Ext h nx (au nx (some (.cells (ak eI ws++rest.tail) .ro)) h5) mC.succ:=e5.put (gi _);have D6:mG nx ds (au nx (some (.cells (ak eI ws++rest.tail) .ro)) h5) mC.succ:=D5.keep (gi _) fun b _ hg=>by rw[aD _ _ _ _ (by rintro rfl;rw[wb]at hg;cases hg)];exact hg
 simp[Jk,w5,rS,hz];refine(axL S H hw (by omega)).mono ?_;rintro o h7 nx7 ⟨rfl,e7⟩;have e67:=e6.trans e7;have D7:=D6.ext e7;generalize ajx ws=fz at *;simp;refine⟨D7.nodup,D7.get,fun h10 h11=>?_⟩;refine⟨[mD fz],by simp,rfl,e67.n,fun b hb=>?_⟩;have:b∉ds:=fun hm=>by have:=D7.ge b hm;omega
 simp;rw[h11 b this];exact e67.g b hb
end Ln
namespace Ln
open Go.Sx Go
def av5:Int→Int
 |.ofNat a=>.ofNat (Nat.div a (Nat.pow 2 63))
 |.negSucc a=>.negSucc (Nat.div a (Nat.pow 2 63))
section
variable{C:bH}{Q:cJ}{L:List ay}{tm:T AV}{h:T ai}{nx d x y:Key}
theorem alv(a:Nat)(h1:ag x tm=some (mD a)):qg C Q (⟨some d,.bin .shl (.t x) (.v (.int .u64 (.lit 1))),none⟩ ::L) tm h nx=qg C Q L (au d (some (mD (adV a 1))) tm) h nx:=
 tQ (by simp only[lightOp,at_t,at_v,h1];show some (AV.int .u64 (.lit (bG .u64 (Int.mul (a:Int) (.ofNat (Nat.pow 2 1))))))=_;rw[Ol];rfl)
theorem aiY(n:Int)(h1:ag x tm=some (I n)):qg C Q (⟨some d,.bin .shr (.t x) (.v (.int .u64 (.lit 63))),none⟩ ::L) tm h nx=qg C Q L (au d (some (I (av5 n))) tm) h nx:=
 tQ (by simp only[lightOp,at_t,at_v,h1];cases n<;>rfl)
end
def zzE(n:Int):Nat:=PE (adV (UI n) 1) (UI (av5 n))
theorem av6(n:Int):zzE n<18446744073709551616:=Nat.mod_lt _ (by decide)
def Om(n:Int):List Nat:=vu (zzE n)
theorem ag7:∀(k n:Nat),(vuF k n).length≤k+1
 |0,_=>by simp[vuF]
 |k+1,n=>by
  rw[vuF];split
  ·simp
  ·rw[HW];have:=ag7 k (n / 128);omega
theorem zX(n:Int):(Om n).length≤11:=ag7 10 _
variable{C:bH}{X:Kn}(S:Std C X)(H:Na C)
include S H
theorem adW{w:Key}{c:AV}{bs:List Nat}{h:T ai}{nx n0:Key}(Ws:WS w c bs h nx n0)(hl:bs.length≤100000)(n:Int) :
  aB C cW [.ptr w 0,I n] h nx (jP w (bs++Om n) h nx n0):=by
 have rU:=S.r fO;have hcu:∀n,bG .u64 n=((UI n:Nat):Int):=Ol;refine H.zY.call ?_;simp[wj];simp[yo,hcu,↓alv (UI n),↓aiY n,↓XR (adV (UI n) 1) (UI (av5 n)),rU];refine(alw H.yp Ws (av6 n) hl).mono ?_;rintro o h3 fT ⟨rfl,hW⟩;simp;exact⟨rfl,hW⟩
theorem aqO{w:Key}{c:AV}{bs:List Nat}{h:T ai}{nx n0:Key}(Ws:WS w c bs h nx n0)(hl:bs.length≤100000)(b:Bool) :
  aB C ig [.ptr w 0,.bool b] h nx (jP w (bs ++ [if b=true then 1 else 0]) h nx n0):=by
 have s1:=kTSu nx;refine H.yq.call ?_;simp[tR];have key:∀y:Nat,∃c' h' nx',appendTo 1 c [.int .u8 (.lit (y:Int))] 1 (au nx (Qz [.int .u8 (.lit (y:Int))]) h) nx.succ=.val c' h' nx'∧c'.aQ=true∧c'.cells=[c']∧ag w h'=Qz [c]∧WS w c' (bs ++ [y]) (au w (Qz [c']) h') nx' n0∧nx.toNat≤nx'.toNat∧(∀b:Key,b.toNat<n0.toNat→ag b (au w (Qz [c']) h')=ag b h)∧XS w h nx (au w (Qz [c']) h'):=by intro y;obtain⟨c2,h2,aZ,g,x1,x2,x3,W2,x5,x6,x7⟩:=(Ws.ext (E0 h nx (.cells [.int .u8 (.lit (y:Int))] .fix))).add [y] (by simp;omega);have hr1:ak eY [y]=[.int .u8 (.lit (y:Int))]:=hJ _ _;rw[hr1]at g;exact⟨c2,h2,aZ,g,x1,x2,x3,W2,by omega,fun b hb=>by rw[x6 b hb,aw (by have:=Ws.n;omega)],(XS.new w h nx _).trans (by omega) x7⟩
 cases b with
 |true=>obtain⟨c2,h2,aZ,g,x1,x2,x3,W2,x5,x6,x7⟩:=key 1;simp[-appendTo]at g;simp[o4];simp[-appendTo,wZ,Ws.at_,g,x1,x2,x3];exact⟨rfl,c2,W2,x5,x6,x7⟩
 |false=>obtain⟨c2,h2,aZ,g,x1,x2,x3,W2,x5,x6,x7⟩:=key 0;simp[-appendTo]at g;simp[o4];simp[-appendTo,w6,Ws.at_,g,x1,x2,x3];exact⟨rfl,c2,W2,x5,x6,x7⟩
end Ln
namespace Ln
open Go.Sx Go
theorem jP.lift{w n0:Key}{bs:List Nat}{h h1 h':T ai}{nx bW nx':Key}{o:Out}(e:Ext h nx h1 bW)(hn:n0.toNat≤nx.toNat)(W:jP w bs h1 bW n0 o h' nx'):jP w bs h nx n0 o h' nx':=by obtain⟨ho,c',W,hx,hf,hk⟩:=W;have n:=e.n;exact⟨ho,c',W,by omega,fun b hb=>by rw[hf b hb,e.g b (by omega)],(Ext.kp e w).trans (by omega) hk⟩
def stU(u:U):St:=⟨u.k,u.n,[]⟩
theorem ayu(u:U):eS (stU u)=eU u:=rfl
variable{C:bH}{X:Kn}(S:Std C X)(H:Na C)
include S H
theorem aso{w:Key}{c:AV}{bs:List Nat}{h:T ai}{nx n0:Key}(Ws:WS w c bs h nx n0)(hl:bs.length≤100000)(s:St) :
  aB C dG [.ptr w 0,.agg (eS s)] h nx (jP w (bs++Om s.n) h nx n0):=by
 have rI:=S.r cW;have s1:=kTSu nx;refine H.sS.call ?_;simp[pn];simp[sf,Gj,lenS];have e1:=E0 h nx (.cells (eS s) .fix);have b1:ag nx (au nx (Qz (eS s)) h)=Qz (eS s):=by simp
 have W1:=Ws.ext e1;generalize au nx (Qz (eS s)) h=h1 at *;have es1:(eS s)[1]?=some (I s.n):=rfl;simp[sg,b1,es1,rI];refine(adW S H W1 hl s.n).mono ?_;rintro o h2 aZ W2;have W3:=jP.lift e1 Ws.n W2;obtain⟨rfl,hW⟩:=W2;simp;exact W3
theorem asp{w:Key}{c:AV}{bs:List Nat}{h:T ai}{nx n0:Key}(Ws:WS w c bs h nx n0)(hl:bs.length≤100000)(s:St) :
  aB C ef [.ptr w 0,.agg (eS s)] h nx (jP w (bs ++ [if s.n=1 then 1 else 0]) h nx n0):=by
 have rI:=S.r ig;have s1:=kTSu nx;refine H.vz.call ?_;simp[qo];simp[sZ,Gj,lenS];have e1:=E0 h nx (.cells (eS s) .fix);have b1:ag nx (au nx (Qz (eS s)) h)=Qz (eS s):=by simp
 have W1:=Ws.ext e1;generalize au nx (Qz (eS s)) h=h1 at *;have es1:(eS s)[1]?=some (I s.n):=rfl;simp[ta,b1,es1,rI];have hb:=aqO S H W1 hl (decide (s.n=1));simp at hb;refine hb.mono ?_;rintro o h2 aZ W2;have W3:=jP.lift e1 Ws.n W2;obtain⟨rfl,hW⟩:=W2;simp;exact W3
theorem asq{w:Key}{h:T ai}{nx:Key}:aB C gf [.ptr w 0] h nx (fun o h' nx'=>o=.ret (.agg [.fn dG [.ptr w 0] [],.fn ef [.ptr w 0] [],.fn dz [.ptr w 0] [],.fn xy [.ptr w 0] []])∧Ext h nx h' nx'):=by have s1:=kTSu nx;refine H.vw.call ?_;simp[qn];simp[tc];simp[td];exact(E0 h nx _)
end Ln
namespace Ln
open Go.Sx Go
variable{C:bH}{X:Kn}(S:Std C X)(H:Na C)
include S H
theorem abA{w:Key}{c:AV}{bs:List Nat}{h:T ai}{nx n0:Key}(Ws:WS w c bs h nx n0)(hl:bs.length≤90000){s:St}{en:List Nat}
  (hk:(s.k=0∧en=Om s.n)∨(s.k=1∧en=[if s.n=1 then 1 else 0])∨(s.k=2∧∀{c':AV} {bs':List Nat} {h':T ai} {nx':Key},WS w c' bs' h' nx' n0→bs'.length≤bs.length+11→aB C dz [.ptr w 0,.agg (eS s)] h' nx' (jP w (bs'++en) h' nx' n0))) :
  aB C bD [.ptr w 0,.agg (eS s)] h nx (jP w (bs++Om s.k++en) h nx n0):=by
 have rI:=S.r cW;have rK:=S.r gf;have r0:=S.r dG;have r1:=S.r ef;have r2:=S.r dz;have s1:=kTSu nx;refine H.vt.call ?_;simp[ql];simp[th,Gj,lenS];have e1:=E0 h nx (.cells (eS s) .fix);have b1:ag nx (au nx (Qz (eS s)) h)=Qz (eS s):=by simp
 have W1:=Ws.ext e1;generalize au nx (Qz (eS s)) h=h1 at *;have es0:(eS s)[0]?=some (I s.k):=rfl;have abB:(eS s).head?=some (I s.k):=rfl;simp[tn,b1,es0,abB,rI];refine(adW S H W1 (by omega) s.k).mono ?_;rintro o h2 aZ ⟨rfl,c2,W2,hn2,hf2,hk2⟩;have b2:ag nx h2=Qz (eS s):=by have hw:=Ws.hi;rw[hk2 nx (by omega) (fun e=>by rw[e]at hw;omega) (fun B hB=>by rw[b1]at hB;cases hB;exact⟨by simp,by simp⟩)];exact b1
 have ahT:=zX s.k;have fin:∀{o h' nx'},jP w (bs++Om s.k++en) h2 aZ n0 o h' nx'→jP w (bs++Om s.k++en) h nx n0 o h' nx':=by rintro o h' nx' ⟨ho,c',W',hx,hf,Ib⟩;exact jP.lift e1 Ws.n ⟨ho,c',W',by omega,fun b hb=>by rw[hf b hb,hf2 b hb],hk2.trans hn2 Ib⟩
 simp;simp[tp,b2,es0,abB,lenS,BV,rK];refine(asq S H).mono ?_;rintro o h3 fT ⟨rfl,e3⟩;have n3:=e3.n;have W3:=W2.ext e3;have b3:ag nx h3=Qz (eS s):=by rw[e3.g nx (by omega)];exact b2
 have bq:AV.beq (.agg (eS s)) (.agg (eS s))=true:=aw9 s;have bk:AV.beq (I s.k) (I s.k)=true:=beq_refl _ rfl;have aC6:∀{o h' nx'},jP w (bs++Om s.k++en) h3 fT n0 o h' nx'→jP w (bs++Om s.k++en) h nx n0 o h' nx':=fun W=>fin (jP.lift e3 W2.n W);have hl3:(bs++Om s.k).length≤100000:=by rw[xa];omega
 have aLz:(bs++Om s.k).length≤bs.length+11:=by rw[xa];omega
 have ha:bs++Om s.k++en=bs++(Om s.k++en):=List.append_assoc _ _ _;rw[ha]at aC6;have ayC:∀{o h' nx'},jP w (bs++Om s.k++en) h3 fT n0 o h' nx'→o=.ret (.tuple [])∧jP w (bs++(Om s.k++en)) h nx n0 (.ret (.tuple [])) h' nx':=fun W=>by rw[ha]at W;have W':=aC6 W;obtain⟨rfl,_⟩:=W;exact⟨rfl,W'⟩
 generalize EU:Om s.k=ek at *;rcases hk with⟨k0,rfl⟩|⟨k0,rfl⟩|⟨k0,hL⟩
 ·rw[k0]at es0 abB bk;simp[b3,es0,abB,lenS,BV,bq,bk,r0,C4,k0];refine(aso S H W3 hl3 s).mono ?_;rintro o h4 mC W4;obtain⟨rfl,W5⟩:=ayC W4;simp;exact W5
 ·rw[k0]at es0 abB bk;simp[b3,es0,abB,lenS,BV,bq,bk,r1,C4,k0];refine(asp S H W3 hl3 s).mono ?_;rintro o h4 mC W4;obtain⟨rfl,W5⟩:=ayC W4;simp;exact W5
 ·rw[k0]at es0 abB bk;simp[b3,es0,abB,lenS,BV,bq,bk,r2,C4,k0];refine(hL W3 aLz).mono ?_;rintro o h4 mC W4;obtain⟨rfl,W5⟩:=ayC W4;simp;exact W5
end Ln
namespace Ln
open Go.Sx Go
theorem N3(l:List U):qf 4 eU (aC l) l:=by
 cases l with
 |nil=>exact .inl ⟨rfl,rfl⟩
 |cons a l=>exact .inr rfl
def HC(u:U):List Nat:=Om u.k++(if u.k=0 then Om u.n else if u.k=1 then [if u.n=1 then 1 else 0]else Om 0)
theorem apv(u:U):(HC u).length≤22:=by
 unfold HC;have h1:=zX u.k;have h2:=zX u.n;have h3:=zX 0;rw[xa];split
 ·omega
 ·split
  ·simp;omega
  ·omega
theorem W7(l:List U):(l.flatMap HC).length≤22*l.length:=by
 induction l with
 |nil=>simp
 |cons a l ih=>rw[List.flatMap_cons,xa,HW];have:=apv a;omega
def CvI(w:Key)(kids:List U)(bs:List Nat)(h:T ai)(nx n0:Key)(m:Nat)(aA:T AV)(h':T ai)(nx':Key):Prop:=∃(j:Nat) (c':AV),m=kids.length-j∧j≤kids.length∧ag (K 0) aA=some (.ptr w 0)∧ag (K 14) aA=some (aC kids)∧ag (K 15) aA=some (I kids.length)∧ag (K 16) aA=some (I j)∧WS w c' (bs++(kids.take j).flatMap HC) h' nx' n0∧nx.toNat≤nx'.toNat∧(∀b:Key,b.toNat<n0.toNat→ag b h'=ag b h)∧XS w h nx h'
theorem _root_.Go.Sx.Rd.lnS{z:Nat}{c:AV}{l:List AV}{len:Nat}{h:T ai}{nx:Key}(g:Rd z c l len h nx){C:bH}{Q:cJ}{ds:List Key}{pend:List (Nat×Key×ai)}{L:List aH}{tm:T AV}{h2:T ai}{n2 k1 d1:Key}{a:Nat}(h1:ag k1 tm=some c) :
  wpS C Q ⟨ds,[]⟩ (.L a ⟨some d1,.lenL (.t k1),none⟩ ::L) pend tm h2 n2=wpS C Q ⟨ds,[]⟩ L pend (au d1 (some (I len)) tm) h2 n2:=by
 rcases g with⟨rfl,_,rfl⟩|⟨f,rfl⟩|⟨b,k,rfl,_⟩<;>simp[h1]
variable{C:bH}{X:Kn}(S:Std C X)(H:Na C)
include S H
theorem agC{B:Nat}{w n0:Key}{kids:List U}(hk:kids.length≤3)(hv:∀u∈kids,∀{c:AV} {bs:List Nat} {h:T ai} {nx:Key},WS w c bs h nx n0→bs.length≤B+80→aB C bD [.ptr w 0,.agg (eU u)] h nx (jP w (bs++HC u) h nx n0)){bs:List Nat}(hl:bs.length≤B+11){h:T ai}{nx:Key}{Q:cJ}{m:Nat}{tm:T AV}{h1:T ai}{bW:Key}(A:CvI w kids bs h nx n0 m tm h1 bW)
  (mh:∀aA h' nx',jP w (bs++kids.flatMap HC) h nx n0 (.ret (.tuple [])) h' nx'→Q .norm aA h' nx') :
  W C (.loop ny) (aP 0 Q) tm h1 bW:=by
 have rV:=S.r bD;refine W.iM (CvI w kids bs h nx n0) A ?_;rintro m gh h2 aZ ⟨j,c',rfl,hj,g0,g14,g15,g16,Ws,hn,hf,hkp⟩;refine W.of ?_;simp[ny];by_cases fu:j<kids.length
 ·have PF:(j:Int)<kids.length:=by omega
  have hR:=(N3 kids).rd h2 aZ;have s2:=kTSu aZ;have hlen:=W7 (kids.take j);rw[zqy]at hlen;have hcU:(eU kids[j]).all AV.aQ=true:=xM.2 (og.cell _);have hlU:(eU kids[j]).length=4:=rfl;have htU:List.take 4 (eU kids[j])=eU kids[j]:=rfl;have hdU:List.drop 4 [AV.int .i64 (.lit 0),.int .i64 (.lit 0),.str 0 0,.nils]=[]:=rfl;have hfl:(kids.take (j+1)).flatMap HC=(kids.take j).flatMap HC++HC kids[j]:=by rw[zqu fu,List.flatMap_append,List.flatMap_cons,List.flatMap_nil,List.append_nil]
  have IE:=UG fu;simp[nz,g15,g16,PF];simp only[vK,kj,lY,lZ,kl,l7,km,l8,l9,kn,ko,ma,mb,mc,me];simp[↓hR.ix og fu,g14,g16,hcU,hlU];simp[vL,g0,hlU,htU,rV,aKO];have PW:(bs++(kids.take j).flatMap HC).length≤B+80:=by rw[xa];omega
  have e1:=E0 h2 aZ (.cells (eU kids[j]) .fix);have W1:=Ws.ext e1;refine(hv _ IE W1 PW).mono ?_;rintro o h3 fT ⟨rfl,c3,W3,hn3,hf3,hk3⟩;simp;simp[vN,g16];rw[aS (by omega) (by omega)];refine⟨kids.length-(j+1),by omega,j+1,c3,rfl,by omega,by simp[g0],by simp[g14],by simp[g15],by simp,?_,by omega,fun b hb=>?_,?_⟩
  ·rw[hfl,←List.append_assoc];exact W3
  ·have:=Ws.n;rw[hf3 b hb,aw (by omega)];exact hf b hb
  ·exact hkp.trans hn (((Ext.kp e1 w).trans (by omega) hk3))
 ·have PC:j=kids.length:=by omega
  subst PC;rw[List.take_length]at Ws;simp[nz,g15,g16];exact mh _ _ _ ⟨rfl,c',Ws,hn,hf,hkp⟩
theorem ac5{B:Nat}(hB:B≤99000){w n0:Key}{s:St}(hk:s.kids.length≤3)(hv:∀u∈s.kids,∀{c:AV} {bs:List Nat} {h:T ai} {nx:Key},WS w c bs h nx n0→bs.length≤B+80→aB C bD [.ptr w 0,.agg (eU u)] h nx (jP w (bs++HC u) h nx n0)){c:AV}{bs:List Nat}(hl:bs.length≤B){h:T ai}{nx:Key}(Ws:WS w c bs h nx n0) :
  aB C dz [.ptr w 0,.agg (eS s)] h nx (jP w (bs++(Om s.kids.length++s.kids.flatMap HC)) h nx n0):=by
 have rI:=S.r cW;have s1:=kTSu nx;refine H.xj.call ?_;simp[r9];simp[vO,Gj,lenS];have e1:=E0 h nx (.cells (eS s) .fix);have b1:ag nx (au nx (Qz (eS s)) h)=Qz (eS s):=by simp
 have W1:=Ws.ext e1;generalize au nx (Qz (eS s)) h=h1 at *;have es3:(eS s)[3]?=some (aC s.kids):=rfl;have hR:=(N3 s.kids).rd h1 nx.succ;have ac:=cG s.kids;simp[vQ,b1,es3,↓hR.lnS,rI];refine(adW S H W1 (by omega) (s.kids.length:Int)).mono ?_;rintro o h2 aZ ⟨rfl,c2,W2,hn2,hf2,hk2⟩;have b2:ag nx h2=Qz (eS s):=by have hw:=Ws.hi;rw[hk2 nx (by omega) (fun e=>by rw[e]at hw;omega) (fun B hB=>by rw[b1]at hB;cases hB;exact⟨by simp,by simp⟩)];exact b1
 have ahT:=zX (s.kids.length:Int);have ha:bs++Om (s.kids.length:Int)++s.kids.flatMap HC=bs++(Om (s.kids.length:Int)++s.kids.flatMap HC):=List.append_assoc _ _ _;have hR2:=(N3 s.kids).rd h2 aZ;simp;simp[↓hR2.ln,vR,b2,es3];refine agC S H hk hv (bs:=bs++Om (s.kids.length:Int)) (by rw[xa];omega) (h:=h2) (nx:=aZ) (m:=s.kids.length) ⟨0,c2,by simp,by omega,by simp,by simp,by simp,by simp,by simpa using W2,gi _,fun _ _=>rfl,XS.refl _ _ _⟩ ?_;intro aA h' nx' W;rw[ha]at W;obtain⟨ho,c',W',hx,hf,Ib⟩:=W;simp;exact jP.lift e1 Ws.n ⟨rfl,c',W',by omega,fun b hb=>by rw[hf b hb,hf2 b hb],hk2.trans hn2 Ib⟩
theorem ay2{w n0:Key}{u:U}(hu:u.k=0∨u.k=1∨u.k=2){c:AV}{bs:List Nat}(hl:bs.length≤90000){h:T ai}{nx:Key}(Ws:WS w c bs h nx n0) :
  aB C bD [.ptr w 0,.agg (eU u)] h nx (jP w (bs++HC u) h nx n0):=by
 have key:=fun en hk=>abA S H Ws (by omega) (s:=stU u) (en:=en) hk;rw[←ayu];unfold HC;rw[←List.append_assoc];rcases hu with e|e|e
 ·rw[if_pos e];exact key _ (.inl ⟨e,rfl⟩)
 ·rw[if_neg (by omega),if_pos e];exact key _ (.inr (.inl ⟨e,rfl⟩))
 ·rw[if_neg (by omega),if_neg (by omega)];refine key _ (.inr (.inr ⟨e,fun {c' bs' h' nx'} W' Rx=>?_⟩));have:=ac5 S H (B:=95000) (by omega) (w:=w) (n0:=n0) (s:=stU u) (Nat.zero_le _) (fun u hu=>by cases hu) (by omega) W';simpa[stU]using this
def aaJ(s:St):List Nat:=Om s.k++(if s.k=0 then Om s.n else if s.k=1 then [if s.n=1 then 1 else 0]else Om s.kids.length++s.kids.flatMap HC)
theorem awX{w n0:Key}{s:St}(hs:s.k=0∨s.k=1∨s.k=2)(hk:s.kids.length≤3)(EU:∀u∈s.kids,u.k=0∨u.k=1∨u.k=2){c:AV}{bs:List Nat}(hl:bs.length≤10000){h:T ai}{nx:Key}(Ws:WS w c bs h nx n0) :
  aB C bD [.ptr w 0,.agg (eS s)] h nx (jP w (bs++aaJ s) h nx n0):=by
 have key:=fun en hk=>abA S H Ws (by omega) (s:=s) (en:=en) hk;unfold aaJ;rw[←List.append_assoc];rcases hs with e|e|e
 ·rw[if_pos e];exact key _ (.inl ⟨e,rfl⟩)
 ·rw[if_neg (by omega),if_pos e];exact key _ (.inr (.inl ⟨e,rfl⟩))
 ·rw[if_neg (by omega),if_neg (by omega)];refine key _ (.inr (.inr ⟨e,fun {c' bs' h' nx'} W' Rx=>?_⟩));exact ac5 S H (B:=50000) (by omega) hk (fun u hu=>fun {c2 bs2 h2 aZ} W2 PW=>ay2 S H (EU u hu) (by omega) W2) (by omega) W'
end Ln
namespace Ln
open Go.Sx Go
theorem aCc{s:St}(h:ZW s=true):(s.k=0∨s.k=1∨s.k=2)∧∀u∈s.kids,u.k=0∨u.k=1∨u.k=2:=by
 unfold ZW at h;rw[decide_eq_true_eq]at h;rcases h with(⟨h1,h2⟩|⟨h1,_,h2⟩)|⟨h1,_,h2⟩
 ·exact⟨.inl h1,by rw[h2];simp⟩
 ·exact⟨.inr (.inl h1),by rw[h2];simp⟩
 ·refine⟨.inr (.inr h1),fun u hu=>?_⟩;have:=xM.1 h2 u hu;unfold sC at this;rw[decide_eq_true_eq]at this;omega
def aaH(s:St):Nat:=if ZW s=true then aaI (aaJ s)else 0
theorem aaK{s:St}(hk:s.kids.length≤3):(aaJ s).length≤100:=by
 unfold aaJ;have h1:=zX s.k;have h2:=zX s.n;have h3:=zX (s.kids.length:Int);have h4:=W7 s.kids;rw[xa];split
 ·omega
 ·split
  ·simp;omega
  ·rw[xa];omega
variable{C:bH}{X:Kn}(S:Std C X)(H:Na C)
include S H
theorem ajf{s:St}(hk:s.kids.length≤3){h:T ai}{nx:Key}:aB C lg [.agg (eS s)] h nx (fun o h' nx'=>((ZW s=true∧∃c',o=.ret (.tuple [c',I 0])∧qf 1 eY c' (aaJ s))∨(ZW s=false∧o=.ret (.tuple [.nils,I 1])))∧Ext h nx h' nx'):=by
 have rV:=S.r dM;have rc:=S.r bD;have rD:=S.r fP;have s1:=kTSu nx;have s2:=kTSu nx.succ;refine H.DK.call ?_;simp[Bi];simp[BT,Gj,lenS];have e1:=E0 h nx (.cells (eS s) .fix);have b1:ag nx (au nx (Qz (eS s)) h)=Qz (eS s):=by simp
 generalize au nx (Qz (eS s)) h=h1 at *;simp[BU,b1,lenS,BV,rV,C4];refine aB.known (H.aaL s hk _ _) ?_;cases ym:ZW s with
 |false=>simp;simp[tV];simp[BW];exact e1
 |true=>
  obtain⟨k1,k2⟩:=aCc ym;simp;simp[tV];simp[BX];have e2:=e1.trans (E0 h1 nx.succ (.cells [.nils] .fix));have Ws:WS nx.succ .nils [] (au nx.succ (Qz [.nils]) h1) nx.succ.succ nx:=⟨by omega,by omega,by omega,by simp,App.nil 1⟩;have b2:ag nx (au nx.succ (Qz [.nils]) h1)=Qz (eS s):=by rw[aw (by omega)];exact b1
  generalize au nx.succ (Qz [.nils]) h1=h2 at *;simp[BY,b2,lenS,BV,rc,C4];refine(awX S H k1 hk k2 (by simp) Ws).mono ?_;rintro o h3 fT ⟨rfl,c3,W3,hn3,hf3,hk3⟩;rw[List.nil_append]at W3;have e3:Ext h nx h3 fT:=⟨by omega,fun b hb=>by rw[hf3 b hb];exact e2.g b hb⟩;simp;simp[BZ,rD];have hel:=aaK hk;refine(amF H.yF W3 (by omega)).mono ?_;rintro o h4 mC ⟨⟨c4,rfl,h4'⟩,e4⟩;have hz:∀H,aO 9999 c4 H=(c4,H):=fun H=>h4'.zD _ _;have hz8:∀H,aO 8 c4 H=(c4,H):=fun H=>h4'.zD _ _;simp[hz];exact⟨h4',e3.trans e4⟩
theorem aru{s:St}(hk:s.kids.length≤3){h:T ai}{nx:Key}:aB C pJ [.agg (eS s)] h nx (fun o h' nx'=>o=.ret (mD (aaH s))∧Ext h nx h' nx'):=by
 have rE:=S.r lg;have rB:=S.r ru;have s1:=kTSu nx;refine H.Jb.call ?_;simp[Gk];simp[Gl,Gj,lenS];have e1:=E0 h nx (.cells (eS s) .fix);have b1:ag nx (au nx (Qz (eS s)) h)=Qz (eS s):=by simp
 generalize au nx (Qz (eS s)) h=h1 at *;simp[Gm,b1,lenS,BV,rE,C4];refine(ajf S H hk).mono ?_;rintro o h2 aZ ⟨⟨ho,c,rfl,hc⟩|⟨ho,rfl⟩,e2⟩
 ·have hz:∀H,aO 9999 c H=(c,H):=fun H=>hc.zD _ _;have hh:aaH s=aaI (aaJ s):=by unfold aaH;rw[if_pos ho]
  have hel:=aaK hk;rw[hh];simp;simp[yG];simp[Gn,rB,hz];refine(amR S H hc (by omega)).mono ?_;rintro o h3 fT ⟨rfl,e3⟩;generalize aaI (aaJ s)=z;simp;exact(e1.trans e2).trans e3
 ·have hh:aaH s=0:=by unfold aaH;rw[if_neg (by rw[ho];simp)]
  rw[hh];simp;simp[yG];simp[Gp];exact e1.trans e2
end Ln
namespace Ln
open Go.Sx Go
structure Bk where
 g:Nat
 c:AV
 o:Option Key
def Cj(E:List Bk):List (AV×AV):=E.map fun e=>(mD e.g,e.c)
def Tt(E:List Bk)(g:Nat):Option Bk:=E.find? fun e=>e.g==g
def C2:List Bk→Bk→List Bk
 | [],x=>[x]
 |e ::E,x=>if e.g=x.g then x ::E else e ::C2 E x
theorem ail(orc:jK)(a b:Nat):keyEq orc false (mD a) (mD b)=some (Nat.beq a b):=rfl
theorem TL(orc:jK)(g:Nat):∀E:List Bk,findK orc false (mD g) (Cj E)=some ((Tt E g).map (·.c))
 | []=>rfl
 |e ::E=>by
  show(match keyEq orc false (mD g) (mD e.g)with|some true=>some (some e.c)|some false=>findK orc false (mD g) (Cj E)|none=>none)=_;rw[ail];unfold Tt;rw[List.find?_cons];by_cases h:e.g=g
  ·have h1:Nat.beq g e.g=true:=by rw[h];exact Nat.beq_refl g
   have h2:(e.g==g)=true:=by simpa using h
   rw[h1,h2];rfl
  ·have h1:Nat.beq g e.g=false:=by
    cases hb:Nat.beq g e.g with
    |false=>rfl
    |true=>exact absurd (pZ hb).symm h
   have h2:(e.g==g)=false:=by simpa using h
   rw[h1,h2];exact TL orc g E
theorem aim(orc:jK)(x:Bk):∀E:List Bk,setK orc false (mD x.g) x.c (Cj E)=some (Cj (C2 E x))
 | []=>rfl
 |e ::E=>by
  show(match keyEq orc false (mD x.g) (mD e.g)with|some true=>some ((mD x.g,x.c) ::Cj E)|some false=>(match setK orc false (mD x.g) x.c (Cj E)with|some r=>some ((mD e.g,e.c) ::r)|none=>none)|none=>none)=_;rw[ail];by_cases h:e.g=x.g
  ·have h1:Nat.beq x.g e.g=true:=by rw[h];exact Nat.beq_refl _
   rw[h1];unfold C2;rw[if_pos h];rfl
  ·have h1:Nat.beq x.g e.g=false:=by
    cases hb:Nat.beq x.g e.g with
    |false=>rfl
    |true=>exact absurd (pZ hb).symm h
   rw[h1];unfold C2;rw[if_neg h,aim orc x E];rfl
theorem aoD{E:List Bk}{g:Nat}{e:Bk}(h:Tt E g=some e):e∈E∧e.g=g:=by unfold Tt at h;exact⟨List.mem_of_find?_eq_some h,by simpa using List.find?_some h⟩
theorem ajJ{E:List Bk}{g:Nat}(h:Tt E g=none):∀e∈E,e.g≠g:=by unfold Tt at h;rw[List.find?_eq_none]at h;intro e he hg;exact h e he (by simpa using hg)
theorem TN{x y:Bk}:∀{E:List Bk},(E.map (·.g)).Nodup→(y∈C2 E x↔y=x∨(y∈E∧y.g≠x.g))
 | [],_=>by simp[C2]
 |e ::E,hn=>by
  rw[zqx,List.nodup_cons]at hn;unfold C2;by_cases h:e.g=x.g
  ·rw[if_pos h,CR,CR];constructor
   ·rintro(r|r)
    ·exact .inl r
    ·exact .inr ⟨.inr r,fun hg=>hn.1 (M4.2 ⟨y,r,by rw[hg,h]⟩)⟩
   ·rintro(r|⟨r|r,hg⟩)
    ·exact .inl r
    ·exact absurd (by rw[r];exact h) hg
    ·exact .inr r
  ·rw[if_neg h,CR,CR,TN hn.2];constructor
   ·rintro(r|r|⟨r,hg⟩)
    ·exact .inr ⟨.inl r,by rw[r];exact h⟩
    ·exact .inl r
    ·exact .inr ⟨.inr r,hg⟩
   ·rintro(r|⟨r|r,hg⟩)
    ·exact .inr (.inl r)
    ·exact .inl r
    ·exact .inr (.inr ⟨r,hg⟩)
theorem TO{x:Bk}:∀{E:List Bk},(E.map (·.g)).Nodup→((C2 E x).map (·.g)).Nodup
 | [],_=>by simp[C2]
 |e ::E,hn=>by
  have hn':=hn;rw[zqx,List.nodup_cons]at hn;unfold C2;by_cases h:e.g=x.g
  ·rw[if_pos h,zqx,List.nodup_cons,←h];exact hn
  ·rw[if_neg h,zqx,List.nodup_cons];refine⟨fun hm=>?_,TO hn.2⟩;obtain⟨y,hy,hg⟩:=M4.1 hm;rcases (TN hn.2).1 hy with rfl|⟨hy,_⟩
   ·exact h hg.symm
   ·exact hn.1 (M4.2 ⟨y,hy,hg⟩)
def KN(c:Cf St):Nat:=PE (aaH c.2) (UI (c.1:Int))
def OX(l:List (Cf St))(g:Nat):List Nat:=(List.range l.length).filter fun j=>(l[j]?.map KN)==some g
def Vz(l:List (Cf St))(g:Nat):List Int:=(OX l g).map fun j:Nat=>(j:Int)
theorem YM{l:List (Cf St)}{g j:Nat}:j∈OX l g↔∃c,l[j]?=some c∧KN c=g:=by
 unfold OX;rw[List.mem_filter,List.mem_range];constructor
 ·rintro⟨h1,h2⟩;rw[zC h1]at h2;exact⟨_,zC h1,by simpa using h2⟩
 ·rintro⟨c,h1,h2⟩;obtain⟨h3,h4⟩:=List.getElem?_eq_some_iff.1 h1;refine⟨h3,?_⟩;rw[h1];simp[h2]
theorem aoE(l:List (Cf St))(x:Cf St)(g:Nat):OX (l ++ [x]) g=OX l g++(if KN x=g then [l.length]else []):=by
 unfold OX;rw[xa,List.length_singleton,List.range_succ,List.filter_append];congr 1
 ·refine List.filter_congr fun j hj=>?_;rw[List.getElem?_append_left (List.mem_range.1 hj)]
 ·by_cases h:KN x=g
  ·simp[h]
  ·simp[h]
theorem aoF(l:List (Cf St))(x:Cf St)(g:Nat):Vz (l ++ [x]) g=Vz l g++(if KN x=g then [(l.length:Int)]else []):=by unfold Vz;rw[aoE,List.map_append];split<;>simp
theorem anX(l:List (Cf St))(g:Nat):(OX l g).length≤l.length:=by unfold OX;refine Nat.le_trans (List.length_filter_le _ _) ?_;rw[List.length_range];exact gi _
theorem YN(l:List (Cf St))(g:Nat):(Vz l g).length=(OX l g).length:=List.length_map ..
structure RgA(X:Kn)(i:Nat)(os:List Op)(cO c3:AV)(bj n0:Key)(h0:T ai)(tm:T AV)(h:T ai)(nx:Key):Prop where
 k3:ag (K 3) tm=some c3
 dw:ag (K 11) tm=some (.ptr bj 0)
 vj:ag bj h=Qz (wB X i cO (aJ i))
 lt:bj.toNat<nx.toNat
 e:Ext h0 n0 h nx
theorem RgA.ext{X:Kn}{i:Nat}{os:List Op}{cO c3:AV}{bj n0:Key}{h0:T ai}{tm aA:T AV}{h h':T ai}{nx nx':Key}(A:RgA X i os cO c3 bj n0 h0 tm h nx)(e:Ext h nx h' nx')(h3:ag (K 3) aA=ag (K 3) tm)(h11:ag (K 11) aA=ag (K 11) tm):RgA X i os cO c3 bj n0 h0 aA h' nx':=
 ⟨h3.trans A.k3,h11.trans A.dw,by rw[e.g bj A.lt];exact A.vj,by have:=e.n;have:=A.lt;omega,A.e.trans e⟩
variable{C:bH}{X:Kn}(S:Std C X)
include S
end Ln
namespace Ln
open Go.Sx Go
variable{C:bH}{X:Kn}(S:Std C X)
include S
end Ln
namespace Ln
open Go.Sx Go
variable{C:bH}{X:Kn}(S:Std C X)
include S
end Ln
namespace Go.Sx
variable{C:bH}{Q:cJ}{ds:List Key}{pend:List (Nat×Key×ai)}{L:List aH}{tm:T AV}{h:T ai}{nx d x y:Key}{n:Nat}
theorem Rd.aCh{z:Nat}{c:AV}{α:Type}{enc:α→List AV}{us:List α}{nx' k1 k2 d1 d2:Key}{a b:Nat}(F:Flat z enc)(g:Rd z c (ak enc us) us.length h nx'){i:Nat}(hi:i<us.length)(h1:ag k1 tm=some c)(h2:ag k2 tm=some (I i)) :
  wpS C Q ⟨ds,[]⟩ (.L a ⟨some d1,.indexL z (.t k1) (.t k2),none⟩ ::.L b ⟨some d2,.load true z (.t d1),none⟩ ::L) pend tm h nx=wpS C Q ⟨ds,[]⟩ L pend (au d2 (some (.agg (enc us[i]))) (au d1 (some (IB z i c)) tm)) h nx:=g.ixS F hi h1 h2 rfl rfl
theorem ajI{o:BinOp}{a b:PX}{v:AV}(hl:lightOp C.orc (.bin o a b) tm h=some v):wpS C Q ⟨ds,[]⟩ (.L n ⟨some d,.bin o a b,none⟩ ::L) pend tm h nx=wpS C Q ⟨ds,[]⟩ L pend (au d (some v) tm) h nx:=by simp[hl,-lightOp]
end Go.Sx
namespace Ln
open Go.Sx Go
theorem _root_.Go.Sx.Rd.ixI{c:AV}{us:List Int}{h:T ai}{nx:Key}(g:Rd 1 c (ak eI us) us.length h nx){i:Nat}(hi:i<us.length){C:bH}{Q:cJ}{L:List ay}{tm:T AV}{n2 k1 k2 d1 d2:Key}(h1:ag k1 tm=some c)(h2:ag k2 tm=some (I i)) :
  qg C Q (⟨some d1,.indexL 1 (.t k1) (.t k2),none⟩ ::⟨some d2,.load false 1 (.t d1),none⟩ ::L) tm h n2=qg C Q L (au d2 (some (I us[i])) (au d1 (some (IB 1 i c)) tm)) h n2:=by
 have hrl:(ak eI us).length=us.length:=vf _;have hd:=HX hi;have tl:1≤us.length-i:=by omega
 rcases g with⟨_,_,e⟩|⟨f,rfl⟩|⟨b,k,rfl,hb,_,_⟩
 ·omega
 ·simp[h1,h2,hi,hrl,hd,tl,IB]
 ·simp[h1,h2,hi,hrl,IB,hb]
theorem _root_.Go.Sx.Gr.cell{z:Nat}{c:AV}{l:List AV}{len:Nat}{h:T ai}{nx:Key}{ob:Option Key}(g:Gr z c l len h nx ob):c.aQ=true∧c.cells=[c]:=by rcases g with⟨rfl,_⟩|⟨b,k,_,rfl,_⟩|⟨t,_,rfl,_⟩<;>exact⟨rfl,rfl⟩
theorem _root_.Go.Sx.Gr.lits{z:Nat}{α:Type}{enc:α→List AV}(F:Flat z enc){c:AV}{us:List α}{len:Nat}{h:T ai}{nx:Key}{ob:Option Key}(g:Gr z c (ak enc us) len h nx ob):AV.beq c c=true:=by
 rcases g with⟨rfl,_⟩|⟨b,k,_,rfl,_⟩|⟨t,_,rfl,_⟩
 ·exact beq_refl _ rfl
 ·exact beq_refl _ rfl
 ·exact beq_refl _ (by simp only[AV.lits];exact F.at1 _)
theorem asj{C:bH}{Q:cJ}{ds:List Key}{pend:List (Nat×Key×ai)}{L:List aH}{tm:T AV}{h:T ai}{nx d x y:Key}{n:Nat}(a b:Nat)(h1:ag x tm=some (mD a))(h2:ag y tm=some (mD b)):wpS C Q ⟨ds,[]⟩ (.L n ⟨some d,.bin .xor (.t x) (.t y),none⟩ ::L) pend tm h nx=wpS C Q ⟨ds,[]⟩ L pend (au d (some (mD (PE a b))) tm) h nx:=
 ajI (by simp only[lightOp,at_t,h1,h2];rfl)
structure Vq(n0:Key)(l:List (Cf St))(br bm:Key)(cC cS:AV)(oC:Option Key)(E:List Bk)(h:T ai)(nx:Key):Prop where
 wa:ag br h=Qz [cC,cS,.map bm]
 map:ag bm h=some (.map (Cj E))
 brn:br.toNat<nx.toNat
 bmn:bm.toNat<nx.toNat
 C:Gr 5 cC (ak eC l) l.length h nx oC
 B:∀e∈E,Gr 1 e.c (ak eI (Vz l e.g)) (Vz l e.g).length h nx e.o
 nd:(E.map (·.g)).Nodup
 cov:∀c∈l,∃e∈E,e.g=KN c
 ajg:∀e∈E,∀b,e.o=some b→oC≠some b
 sep:∀e∈E,∀f∈E,e.g≠f.g→∀b,e.o=some b→f.o≠some b
 ow:∀b,(oC=some b∨∃e∈E,e.o=some b)→b≠br∧b≠bm∧n0.toNat≤b.toNat
 cs:cS.aQ=true∧cS.cells=[cS]
 bb:br≠bm∧n0.toNat≤br.toNat∧n0.toNat≤bm.toNat
theorem Vq.ext{n0:Key}{l:List (Cf St)}{br bm:Key}{cC cS:AV}{oC:Option Key}{E:List Bk}{h h':T ai}{nx nx':Key}(R:Vq n0 l br bm cC cS oC E h nx)(e:Ext h nx h' nx'):Vq n0 l br bm cC cS oC E h' nx':=
 ⟨by rw[e.g _ R.brn];exact R.wa,by rw[e.g _ R.bmn];exact R.map,by have:=R.brn;have:=e.n;omega,by have:=R.bmn;have:=e.n;omega,R.C.ext e,fun x hx=>(R.B x hx).ext e,R.nd,R.cov,R.ajg,R.sep,R.ow,R.cs,R.bb⟩
theorem anV{n0:Key}{l:List (Cf St)}{br bm:Key}{cC cS:AV}{oC:Option Key}{E:List Bk}{h:T ai}{nx:Key}(R:Vq n0 l br bm cC cS oC E h nx){g:Nat}(hg:Tt E g=none):OX l g=[]:=by refine List.eq_nil_iff_forall_not_mem.2 fun j hj=>?_;obtain⟨c,h1,h2⟩:=YM.1 hj;obtain⟨e,he,h3⟩:=R.cov c (List.mem_of_getElem? h1);exact ajJ hg e he (by rw[h3,h2])
def AdI(l:List (Cf St))(x:Cf St)(g:Nat)(UM:AV)(br b3:Key)(h:T ai)(nx:Key)(m:Nat)(aA:T AV)(h':T ai)(nx':Key):Prop:=∃q:Nat,m=(OX l g).length-q∧q≤(OX l g).length∧ag (K 0) aA=some (.ptr br 0)∧ag (K 3) aA=some (.ptr b3 0)∧ag (K 5) aA=some (mD g)∧ag (K 20) aA=some UM∧ag (K 21) aA=some (I (OX l g).length)∧ag (K 22) aA=some (I q)∧Ext h nx h' nx'∧(∀p (hp:p<(OX l g).length),p<q→l[(OX l g)[p]]?≠some x)
variable{C:bH}{X:Kn}(S:Std C X)(H:Na C)
include S H
theorem anW{n0:Key}{l:List (Cf St)}(hl:l.length≤10000)(UJ:∀y∈l,y.2.kids.length≤3){x:Cf St}(hx:x.2.kids.length≤3){g:Nat}{br bm b3:Key}{cC cS UM:AV}{oC:Option Key}{E:List Bk}{h:T ai}{nx:Key}(R:Vq n0 l br bm cC cS oC E h nx)(h20:Rd 1 UM (ak eI (Vz l g)) (Vz l g).length h nx)(hb3:ag b3 h=Qz (eC x))(b3n:b3.toNat<nx.toNat){Q:cJ}{m:Nat}{tm:T AV}{h1:T ai}{bW:Key}(A:AdI l x g UM br b3 h nx m tm h1 bW)
  (ays:∀aA h' nx' j,l[j]?=some x→ag (K 4) aA=some (I (j:Nat))→Ext h nx h' nx'→Q .ret aA h' nx')
  (IC:∀aA h' nx',ag (K 0) aA=some (.ptr br 0)→ag (K 3) aA=some (.ptr b3 0)→ag (K 5) aA=some (mD g)→Ext h nx h' nx'→(∀j∈OX l g,l[j]?≠some x)→Q .norm aA h' nx') :
  W C (.loop iJ) (aP 0 Q) tm h1 bW:=by
 have rC:=S.r fR;have XT:=YN l g;have hle:=anX l g;refine W.iM (AdI l x g UM br b3 h nx) A ?_;rintro m gh h2 aZ ⟨q,rfl,hq,g0,g3,g5,g20,g21,g22,e2,BA⟩;have R2:=R.ext e2;have asl:=h20.ext e2;have aLf:ag b3 h2=Qz (eC x):=by rw[e2.g _ b3n];exact hb3
 refine W.of ?_;simp[iJ];by_cases hql:q<(OX l g).length
 ·have hqi:(q:Int)<(OX l g).length:=by omega
  have hqs:q<(Vz l g).length:=by omega
  have P8:(Vz l g)[q]=((OX l g)[q]:Nat):=by simp[Vz]
  obtain⟨cj,hcj,hgj⟩:=YM.1 (UG hql);obtain⟨fu,aLg⟩:=List.getElem?_eq_some_iff.1 hcj;have hRC:=R2.C.rd;have aLh:l[(OX l g)[q]]?≠some x→∀p (hp:p<(OX l g).length),p<q+1→l[(OX l g)[p]]?≠some x:=fun h p hp hpq=>by
   by_cases e:p=q
   ·subst e;exact h
   ·exact BA p hp (by omega)
  simp[lH,g21,g22,hqi];simp only[sV,kj,lY,lZ,kl,l7,km,l8,l9,kn,ko,ma,mb,mc,me];simp[↓asl.ixI hqs,g20,g22];rw[P8];generalize hj:(OX l g)[q]=j at *;have hkj:=UJ cj (List.mem_of_getElem? hcj);have K8:=Tu S (a:=ofC cj) (b:=ofC x) hkj hx h2 aZ;rw[alK,alK]at K8;simp[↓hRC.aCh xc fu,sW,g0,g3,R2.wa,aLf,DL,aek,rC,SQ,aLg];refine K8.mono ?_;rintro o h3 fT ⟨rfl,e3⟩;simp;by_cases hz:abv (ofC cj) (ofC x)=0
  ·have hcx:cj=x:=by
    have:=congrArg toC (ahO.1 hz)
    rwa [ahe,ahe]at this
   subst hcx;simp[hz];simp[sX];exact ays _ _ _ j hcj (by simp) (e2.trans e3)
  ·have hcx:cj≠x:=fun e=>hz (ahO.2 (by rw[e]));simp[hz];simp[sY,g22];rw[aS (by omega) (by omega)];exact⟨(OX l g).length-(q+1),by omega,q+1,rfl,by omega,by simp[g0],by simp[g3],by simp[g5],by simp[g20],by simp[g21],by simp,e2.trans e3,aLh (by rw[hcj];exact fun e=>hcx (Option.some.inj e))⟩
 ·have hqe:q=(OX l g).length:=by omega
  subst hqe;simp[lH,g21,g22];refine IC _ _ _ (by simp[g0]) (by simp[g3]) (by simp[g5]) e2 ?_;intro j hj;obtain⟨p,hp,rfl⟩:=List.getElem_of_mem hj;exact BA p hp hp
end Ln
namespace Ln
open Go.Sx Go
structure Buk(l:List (Cf St))(E:List Bk)(g:Nat)(m:Option AV)(UM:AV)(UN:Option Key)(h:T ai)(nx:Key):Prop where
 m:(m=none∧UM=.nils)∨m=some UM
 gr:Gr 1 UM (ak eI (Vz l g)) (Vz l g).length h nx UN
 own:∀b,UN=some b→∃e∈E,e.g=g∧e.o=some b
theorem Vq.buk{n0:Key}{l:List (Cf St)}{br bm:Key}{cC cS:AV}{oC:Option Key}{E:List Bk}{h:T ai}{nx:Key}(R:Vq n0 l br bm cC cS oC E h nx)(g:Nat):∃UM UN,Buk l E g ((Tt E g).map (·.c)) UM UN h nx:=by
 cases hg:Tt E g with
 |none=>
  refine⟨.nils,none,.inl ⟨rfl,rfl⟩,?_,by simp⟩;have:Vz l g=[]:=by unfold Vz;rw[anV R hg];rfl
  rw[this];exact Gr.nil _ _ _
 |some e=>obtain⟨h1,h2⟩:=aoD hg;refine⟨e.c,e.o,.inr rfl,by have:=R.B e h1;rw[h2]at this;exact this,fun b hb=>⟨e,h1,h2,hb⟩⟩
theorem Buk.ext{l:List (Cf St)}{E:List Bk}{g:Nat}{m:Option AV}{UM:AV}{UN:Option Key}{h h':T ai}{nx nx':Key}(B:Buk l E g m UM UN h nx)(e:Ext h nx h' nx'):Buk l E g m UM UN h' nx':=⟨B.m,B.gr.ext e,B.own⟩
variable{C:bH}{X:Kn}(S:Std C X)(H:Na C)
theorem ayU{n0:Key}{l:List (Cf St)}(hl:l.length≤10000){g:Nat}{br bm:Key}{cC cS UM:AV}{oC UN:Option Key}{E:List Bk}{h:T ai}{nx:Key}(R:Vq n0 l br bm cC cS oC E h nx)(B:Buk l E g ((Tt E g).map (·.c)) UM UN h nx){Q:cJ}{tm:T AV}(g0:ag (K 0) tm=some (.ptr br 0))(g5:ag (K 5) tm=some (mD g))
  (hQ:∀aA c55 o55 h2 aZ,ag (K 0) aA=ag (K 0) tm→ag (K 3) aA=ag (K 3) tm→Gr 1 c55 (ak eI (Vz l g ++ [(l.length:Int)])) (Vz l g ++ [(l.length:Int)]).length h2 aZ o55→CZ h nx UN h2 aZ o55→Q .norm aA (au bm (some (.map (Cj (C2 E ⟨g,c55,o55⟩)))) h2) aZ) :
  mE C (.staged dH ⟨[K 38,K 39,K 40,K 41,K 42,K 43,K 44,K 45,K 46,K 47,K 48,K 49,K 50,K 51,K 52,K 53,K 54,K 55],[]⟩) Q tm h nx:=by
 have s1:=kTSu nx;have hfk:=TL C.orc g E;have e1:=E0 h nx (.cells [I (l.length:Int)] .fix);have XT:=YN l g;have hle:=anX l g;obtain⟨c55,h2,aZ,o55,ha,G55,F⟩:=(B.gr.ext e1).Q9 IU (by decide) (by decide) (by omega) (l.length:Int);have F15:=(CZ.SS e1 UN).trans F;have hej:eI (l.length:Int)=[I (l.length:Int)]:=rfl;rw[hej]at ha;have hR:=R.C.rd;have ob:∀b:Key,b.toNat<nx.toNat→(∀e∈E,e.o≠some b)→ag b h2=ag b h:=fun b hb ho=>F15.g b hb (fun e=>by obtain⟨x,hx,_,hxo⟩:=B.own b e;exact ho x hx hxo);have br2:ag br h2=Qz [cC,cS,.map bm]:=by rw[ob br R.brn (fun e he ho=>(R.ow br (.inr ⟨e,he,ho⟩)).1 rfl)];exact R.wa
 have bm2:ag bm h2=some (.map (Cj E)):=by rw[ob bm R.bmn (fun e he ho=>(R.ow bm (.inr ⟨e,he,ho⟩)).2.1 rfl)];exact R.map
 have kc:=G55.cell;have Q4:=aim C.orc ⟨g,c55,o55⟩ E;simp only at Q4;have fin:∀aA,ag (K 0) aA=ag (K 0) tm→ag (K 3) aA=ag (K 3) tm→Q .norm aA (au bm (some (.map (Cj (C2 E ⟨g,c55,o55⟩)))) h2) aZ:=fun aA a b=>hQ aA c55 o55 h2 aZ a b G55 F15;have wa:=R.wa;have mp:=R.map;have kbq:AV.beq (.map bm) (.map bm)=true:=beq_refl _ rfl;rcases B.m with⟨hm,rfl⟩|hm
 ·rw[hm]at hfk;simp[-appendTo,-findK,-setK,dH,g0,g5,wa,mp,hfk,↓hR.lnS,ha,br2,bm2,Q4];exact⟨kbq,fin _ (by simp) (by simp)⟩
 ·rw[hm]at hfk;simp[-appendTo,-findK,-setK,dH,g0,g5,wa,mp,hfk,↓hR.lnS,ha,br2,bm2,Q4];exact⟨kbq,fin _ (by simp) (by simp)⟩
structure O8(n0:Key)(l:List (Cf St))(x:Cf St)(br bm:Key)(cS:AV)(oC:Option Key)(E:List Bk)(h:T ai)(nx:Key)(o:Out)(h':T ai)(nx':Key):Prop where
 r:∃(j:Nat) (cC':AV) (LX:Option Key) (E':List Bk),(fH l x)[j]?=some x∧o=.ret (I (j:Nat))∧Vq n0 (fH l x) br bm cC' cS LX E' h' nx'∧(∀b,(LX=some b∨∃e∈E',e.o=some b)→(oC=some b∨∃e∈E,e.o=some b)∨nx.toNat≤b.toNat)
 n:nx.toNat≤nx'.toNat
 g:∀b:Key,b.toNat<nx.toNat→b≠br→b≠bm→oC≠some b→(∀e∈E,e.o≠some b)→ag b h'=ag b h
end Ln
namespace Ln
open Go.Sx Go
variable{C:bH}{X:Kn}(S:Std C X)(H:Na C)
theorem atf{n0:Key}{l:List (Cf St)}(hl:l.length≤10000){x:Cf St}(hxl:x∉l){br bm b3:Key}{cC cS UM:AV}{oC UN:Option Key}{E:List Bk}{h:T ai}{nx:Key}(ZX:n0.toNat≤nx.toNat)(R:Vq n0 l br bm cC cS oC E h nx)(B:Buk l E (KN x) ((Tt E (KN x)).map (·.c)) UM UN h nx)(hb3:ag b3 h=Qz (eC x))(b3n:b3.toNat<nx.toNat)(b3o:b3≠br∧b3≠bm∧oC≠some b3∧∀e∈E,e.o≠some b3){R':Out→T ai→Key→Prop}{tm:T AV}(g0:ag (K 0) tm=some (.ptr br 0))(g3:ag (K 3) tm=some (.ptr b3 0))(g5:ag (K 5) tm=some (mD (KN x)))
  (hR:∀h' nx',O8 n0 l x br bm cS oC E h nx (.ret (I l.length)) h' nx'→R' (.ret (I l.length)) h' nx') :
  mE C (.seq (.staged dH ⟨[K 38,K 39,K 40,K 41,K 42,K 43,K 44,K 45,K 46,K 47,K 48,K 49,K 50,K 51,K 52,K 53,K 54,K 55],[]⟩) (.seq (.staged iK ⟨[K 56,K 57,K 58,K 59,K 60,K 61,K 62,K 63,K 64,K 65],[]⟩) (.seq (.ops gL) .ret))) (gC [.tmp (K 4)] R') tm h nx:=by
 simp only[ji];refine ayU (C:=C) hl R B g0 g5 (fun cE c55 o55 h2 aZ p0 p3 G55 F=>?_);rw[g0]at p0;rw[g3]at p3;have n2:=F.n;have s2:=kTSu aZ;have aVI:∀b:Key,UN=some b→b.toNat<nx.toNat:=fun b hb=>B.gr.lt b hb;have apA:∀b:Key,o55=some b→UN=some b∨nx.toNat≤b.toNat:=fun b hb=>by
  rcases F.o with e|⟨y,e,hy⟩
  ·rw[e]at hb;exact .inl hb
  ·rw[e]at hb;cases hb;exact .inr hy
 have anc:∀b:Key,UN=some b→b≠br∧b≠bm∧oC≠some b:=fun b hb=>by obtain⟨e,he,_,ho⟩:=B.own b hb;have:=R.ow b (.inr ⟨e,he,ho⟩);exact⟨this.1,this.2.1,R.ajg e he b ho⟩
 have ay7:∀b:Key,o55=some b→b≠br∧b≠bm∧oC≠some b:=fun b hb=>by
  rcases apA b hb with h1|h1
  ·exact anc b h1
  ·have h2:=R.brn;have h3:=R.bmn;exact⟨fun e=>by rw[e]at h1;omega,fun e=>by rw[e]at h1;omega,fun e=>by have:=R.C.lt b e;omega⟩
 have k2:∀b:Key,b.toNat<nx.toNat→UN≠some b→ag b h2=ag b h:=fun b hb ho=>F.g b hb ho;generalize hE:C2 E ⟨KN x,c55,o55⟩=E' at *;have k3:∀b:Key,b≠bm→ag b (au bm (some (.map (Cj E'))) h2)=ag b h2:=fun b hb=>aD _ _ _ _ hb;have br3:ag br (au bm (some (.map (Cj E'))) h2)=Qz [cC,cS,.map bm]:=by rw[k3 br R.bb.1,k2 br R.brn (fun e=>(anc br e).1 rfl)];exact R.wa
 have b33:ag b3 (au bm (some (.map (Cj E'))) h2)=Qz (eC x):=by rw[k3 b3 b3o.2.1,k2 b3 b3n (fun e=>by obtain⟨y,hy,_,ho⟩:=B.own b3 e;exact b3o.2.2.2 y hy ho)];exact hb3
 have bm3:ag bm (au bm (some (.map (Cj E'))) h2)=some (.map (Cj E')):=by simp
 have aMo:∀b:Key,oC=some b→ag b (au bm (some (.map (Cj E'))) h2)=ag b h:=fun b hb=>by have:=R.ow b (.inl hb);rw[k3 b this.2.1,k2 b (R.C.lt b hb) (fun e=>(anc b e).2.2 hb)]
 have G3:Gr 5 cC (ak eC l) l.length (au bm (some (.map (Cj E'))) h2) aZ oC:=R.C.keep n2 aMo;have ay8:Gr 1 c55 (ak eI (Vz l (KN x) ++ [(l.length:Int)])) (Vz l (KN x) ++ [(l.length:Int)]).length (au bm (some (.map (Cj E'))) h2) aZ o55:=G55.keep (gi _) fun b hb=>k3 b (ay7 b hb).2.1;have cZ:∀b:Key,b.toNat<nx.toNat→b≠bm→UN≠some b→ag b (au bm (some (.map (Cj E'))) h2)=ag b h:=fun b hb hm ho=>by rw[k3 b hm,k2 b hb ho]
 generalize au bm (some (.map (Cj E'))) h2=h3 at *;have e4:=E0 h3 aZ (.cells (eC x) .fix);obtain⟨c63,h5,zI,LX,ha,G5,F5⟩:=(G3.ext e4).Q9 xc (by decide) (by decide) (by omega) x;have F35:=(CZ.SS e4 oC).trans F5;have n5:=F35.n;have br5:ag br h5=Qz [cC,cS,.map bm]:=by rw[F35.g br (by have:=R.brn;omega) (fun e=>(R.ow br (.inl e)).1 rfl)];exact br3
 have kc:=G3.cell;have kc':=G5.cell;simp;simp[-appendTo,iK,p0,p3,br3,b33,DL,aek,S0,aCm,ayG,ha,br5,kc.1,kc.2,kc'.1,kc'.2,R.cs.1,R.cs.2];have ho5:∀b:Key,LX=some b→oC=some b∨aZ.toNat≤b.toNat:=fun b hb=>by
  rcases F35.o with e|⟨y,e,hy⟩
  ·rw[e]at hb;exact .inl hb
  ·rw[e]at hb;cases hb;exact .inr hy
 have brn:=R.brn;have bmn:=R.bmn;have aMq:LX≠some br:=fun e=>by
  rcases ho5 br e with h1|h1
  ·exact(R.ow br (.inl h1)).1 rfl
  ·omega
 have k6:∀b:Key,b.toNat<aZ.toNat→b≠br→oC≠some b→ag b (au br (Qz [c63,cS,.map bm]) h5)=ag b h3:=fun b hb h1 h2=>by rw[aD _ _ _ _ h1,F35.g b hb h2]
 have br6:ag br (au br (Qz [c63,cS,.map bm]) h5)=Qz [c63,cS,.map bm]:=by simp
 have G6:Gr 5 c63 (ak eC (l ++ [x])) (l ++ [x]).length (au br (Qz [c63,cS,.map bm]) h5) zI LX:=G5.keep (gi _) fun b hb=>aD _ _ _ _ (fun e=>aMq (by rw[hb,e]));generalize au br (Qz [c63,cS,.map bm]) h5=h6 at *;have hR6:=G6.rd;have ZV:(l ++ [x]).length=l.length+1:=by simp
 rw[ZV]at hR6;have hw1:bG .i64 (l.length:Int)=(l.length:Int):=aS (by omega) (by omega);simp[↓hR6.ln,gL,p0,br6,hw1];have Da:fH l x=l ++ [x]:=by unfold fH;rw[if_neg hxl]
 have IC:∀y:Bk,y∈E'↔y=⟨KN x,c55,o55⟩∨(y∈E∧y.g≠KN x):=fun y=>by rw[←hE];exact TN R.nd
 have oCn:∀b:Key,LX=some b→oC=some b∨nx.toNat≤b.toNat:=fun b hb=>by
  rcases ho5 b hb with h1|h1
  ·exact .inl h1
  ·exact .inr (by omega)
 have aD1:∀e∈E,e.g≠KN x→∀b,e.o=some b→ag b h6=ag b h:=fun e he hg b hb=>by have tM:=(R.B e he).lt b hb;have h1:=R.ow b (.inr ⟨e,he,hb⟩);have h2:=R.ajg e he b hb;rw[k6 b (by omega) h1.1 h2,cZ b tM h1.2.1 (fun e'=>by obtain⟨y,hy,hyg,hyo⟩:=B.own b e';exact R.sep e he y hy (by rw[hyg];exact hg) b hb hyo)]
 refine hR _ _ ⟨⟨l.length,c63,LX,E',by rw[Da];simp,rfl,?_,?_⟩,by omega,?_⟩
 ·rw[Da];refine⟨br6,?_,by omega,by omega,G6,?_,by rw[←hE];exact TO R.nd,?_,?_,?_,?_,R.cs,R.bb⟩
  ·rw[k6 bm (by omega) (Ne.symm R.bb.1) (fun e=>(R.ow bm (.inl e)).2.1 rfl)];exact bm3
  ·intro e he;rw[aoF];rcases (IC e).1 he with rfl|⟨he,hg⟩
   ·rw[if_pos rfl];refine ay8.keep n5 fun b hb=>?_;have h1:=ay7 b hb;have h2:b.toNat<aZ.toNat:=ay8.lt b hb;rw[k6 b h2 h1.1 h1.2.2]
   ·rw[if_neg (fun e'=>hg e'.symm),List.append_nil];exact(R.B e he).keep (by omega) (aD1 e he hg)
  ·intro c hc;rcases List.mem_append.1 hc with hc|hc
   ·obtain⟨e,he,h1⟩:=R.cov c hc;by_cases hg:e.g=KN x
    ·exact⟨_,(IC _).2 (.inl rfl),by show KN x=KN c;rw[←hg,h1]⟩
    ·exact⟨e,(IC e).2 (.inr ⟨he,hg⟩),h1⟩
   ·simp at hc;subst hc;exact⟨_,(IC _).2 (.inl rfl),rfl⟩
  ·intro e he b hb hC;rcases (IC e).1 he with rfl|⟨he,hg⟩
   ·rcases ho5 b hC with h1|h1
    ·exact(ay7 b hb).2.2 h1
    ·have:b.toNat<aZ.toNat:=ay8.lt b hb;omega
   ·have tM:=(R.B e he).lt b hb;rcases oCn b hC with h1|h1
    ·exact R.ajg e he b hb h1
    ·omega
  ·intro e he f hf cp b hb hfo;rcases (IC e).1 he with rfl|⟨he,hg⟩
   ·rcases (IC f).1 hf with rfl|⟨hf,hgf⟩
    ·exact cp rfl
    ·have tM:=(R.B f hf).lt b hfo;rcases apA b hb with h1|h1
     ·obtain⟨y,hy,hyg,hyo⟩:=B.own b h1;exact R.sep f hf y hy (by rw[hyg];exact hgf) b hfo hyo
     ·omega
   ·rcases (IC f).1 hf with rfl|⟨hf,hgf⟩
    ·have tM:=(R.B e he).lt b hb;rcases apA b hfo with h1|h1
     ·obtain⟨y,hy,hyg,hyo⟩:=B.own b h1;exact R.sep e he y hy (by rw[hyg];exact hg) b hb hyo
     ·omega
    ·exact R.sep e he f hf cp b hb hfo
  ·intro b hb;rcases hb with hb|⟨e,he,hb⟩
   ·rcases oCn b hb with h1|h1
    ·exact R.ow b (.inl h1)
    ·exact⟨fun e=>by rw[e]at h1;omega,fun e=>by rw[e]at h1;omega,by omega⟩
   ·rcases (IC e).1 he with rfl|⟨he,hg⟩
    ·rcases apA b hb with h1|h1
     ·obtain⟨y,hy,_,hyo⟩:=B.own b h1;exact R.ow b (.inr ⟨y,hy,hyo⟩)
     ·exact⟨fun e=>by rw[e]at h1;omega,fun e=>by rw[e]at h1;omega,by omega⟩
    ·exact R.ow b (.inr ⟨e,he,hb⟩)
 ·intro b hb;rcases hb with hb|⟨e,he,hb⟩
  ·rcases oCn b hb with h1|h1
   ·exact .inl (.inl h1)
   ·exact .inr h1
  ·rcases (IC e).1 he with rfl|⟨he,hg⟩
   ·rcases apA b hb with h1|h1
    ·obtain⟨y,hy,_,hyo⟩:=B.own b h1;exact .inl (.inr ⟨y,hy,hyo⟩)
    ·exact .inr h1
   ·exact .inl (.inr ⟨e,he,hb⟩)
 ·intro b hb h1 h2 h4 h5;rw[k6 b (by omega) h1 h4,cZ b hb h2 (fun e=>by obtain⟨y,hy,_,hyo⟩:=B.own b e;exact h5 y hy hyo)]
end Ln
namespace Ln
open Go.Sx Go
theorem O8.lift{n0:Key}{l:List (Cf St)}{x:Cf St}{br bm:Key}{cS:AV}{oC:Option Key}{E:List Bk}{h h1 h':T ai}{nx bW nx':Key}{o:Out}(e:Ext h nx h1 bW)(A:O8 n0 l x br bm cS oC E h1 bW o h' nx'):O8 n0 l x br bm cS oC E h nx o h' nx':=by
 have n:=e.n;obtain⟨⟨j,cC',LX,E',a1,a2,a3,a4⟩,a5,a6⟩:=A;refine⟨⟨j,cC',LX,E',a1,a2,a3,fun b hb=>?_⟩,by omega,fun b hb h1 h2 h3 h4=>by rw[a6 b (by omega) h1 h2 h3 h4,e.g b hb]⟩;rcases a4 b hb with h1|h1
 ·exact .inl h1
 ·exact .inr (by omega)
variable{C:bH}{X:Kn}(S:Std C X)(H:Na C)
include S H
theorem amW{n0:Key}{l:List (Cf St)}(hl:l.length≤10000)(UJ:∀y∈l,y.2.kids.length≤3){x:Cf St}(hx:x.2.kids.length≤3){br bm:Key}{cC cS:AV}{oC:Option Key}{E:List Bk}{h:T ai}{nx:Key}(ZX:n0.toNat≤nx.toNat)(R:Vq n0 l br bm cC cS oC E h nx) :
  aB C df [.ptr br 0,.agg (eC x)] h nx (O8 n0 l x br bm cS oC E h nx):=by
 have rH:=S.r pJ;have s1:=kTSu nx;refine S.vC.call ?_;simp[qp];simp[tB,S0,DL];have e1:=E0 h nx (.cells (eC x) .fix);have b1:ag nx (au nx (Qz (eC x)) h)=Qz (eC x):=by simp
 generalize au nx (Qz (eC x)) h=h1 at *;have ec0:(eC x)[0]?=some (I x.1):=rfl;have anf:(eC x).head?=some (I x.1):=rfl;have et:List.take 4 (eC x).tail=eS x.2:=rfl;have hcu:bG .u64 (x.1:Int)=((UI (x.1:Int):Nat):Int):=Ol _;have hbq:AV.beq (I x.1) (I x.1)=true:=beq_refl _ rfl;simp[tC,b1,ec0,anf,et,DL,hcu,rH,C4];refine(aru S H hx).mono ?_;rintro o h2 aZ ⟨rfl,e2⟩;have n2:=e2.n;have b2:ag nx h2=Qz (eC x):=by rw[e2.g nx (by omega)];exact b1
 have e12:=e1.trans e2;have R2:=R.ext e12;have hhk:KN x=PE (aaH x.2) (UI (x.1:Int)):=rfl;simp[b2,ec0,anf,hbq,↓asj (aaH x.2) (UI (x.1:Int))];rw[←hhk];obtain⟨UM,UN,B⟩:=R2.buk (KN x);have hfk:=TL C.orc (KN x) E;have asl:=B.gr.rd;have XT:=YN l (KN x);have main:∀cE:T AV,ag (K 0) cE=some (.ptr br 0)→ag (K 3) cE=some (.ptr nx 0)→ag (K 5) cE=some (mD (KN x))→ag (K 20) cE=some UM→ag (K 21) cE=some (I (Vz l (KN x)).length)→ag (K 22) cE=some (I 0)→
   W C (.loop iJ) (aP 0 (bO (mE C (.seq (.staged dH ⟨[K 38,K 39,K 40,K 41,K 42,K 43,K 44,K 45,K 46,K 47,K 48,K 49,K 50,K 51,K 52,K 53,K 54,K 55],[]⟩) (.seq (.staged iK ⟨[K 56,K 57,K 58,K 59,K 60,K 61,K 62,K 63,K 64,K 65],[]⟩) (.seq (.ops gL) .ret))) (gC [.tmp (K 4)] (O8 n0 l x br bm cS oC E h nx))) (gC [.tmp (K 4)] (O8 n0 l x br bm cS oC E h nx)))) cE h2 aZ:=by
  intro cE q0 q3 q5 q20 q21 q22;refine anW S H hl UJ hx (g:=KN x) R2 asl b2 (by omega) (m:=(OX l (KN x)).length) ⟨0,by simp,by omega,q0,q3,q5,q20,by rw[q21,XT],by simpa using q22,Ext.refl _ _,fun p _ hp=>absurd hp (by omega)⟩ ?_ ?_
  ·intro aA h' nx' j hj q4 e';have hxl:x∈l:=List.mem_of_getElem? hj;have Da:fH l x=l:=by unfold fH;rw[if_pos hxl]
   have e13:=e12.trans e';simp[q4];exact⟨⟨j,cC,oC,E,by rw[Da];exact hj,rfl,by rw[Da];exact R.ext e13,fun b hb=>.inl hb⟩,e13.n,fun b hb _ _ _ _=>e13.g b hb⟩
  ·intro aA h' nx' q0' q3' q5' e' BA;have hxl:x∉l:=fun hm=>by
    obtain⟨j,hj,e⟩:=List.getElem_of_mem hm;have hj2:l[j]?=some x:=by rw[zC hj,e]
    exact BA j (YM.2 ⟨x,hj2,rfl⟩) hj2
   have e13:=e12.trans e';have n13:=e13.n;have n':=e'.n;have R3:=R2.ext e';have hnb:∀b:Key,b.toNat<nx.toNat→b≠nx:=fun b hb e=>by rw[e]at hb;omega
   simp only[C6];refine atf (C:=C) hl hxl (b3:=nx) (by omega) R3 (B.ext e') (by rw[e'.g nx (by omega)];exact b2) (by omega) ⟨fun e=>hnb br R.brn e.symm,fun e=>hnb bm R.bmn e.symm,fun e=>hnb nx (R.C.lt nx e) rfl,fun y hy e=>hnb nx ((R.B y hy).lt nx e) rfl⟩ q0' q3' q5' (fun h4 mC A=>?_);exact O8.lift e13 A
 rcases B.m with⟨hm,rfl⟩|hm
 ·rw[hm]at hfk;have hl0:(Vz l (KN x)).length=0:=by
   rcases B.gr with⟨_,_,e,_⟩|⟨b,k,_,e,_⟩|⟨t,_,e,_⟩
   ·exact e
   ·cases e
   ·cases e
  rw[hl0]at main;simp[-findK,lJ,R2.wa,R2.map,hfk];refine main _ ?_ ?_ ?_ ?_ ?_ ?_<;>simp
 ·rw[hm]at hfk;simp[-findK,lJ,R2.wa,R2.map,hfk,↓asl.ln];refine main _ ?_ ?_ ?_ ?_ ?_ ?_<;>simp
end Ln
namespace Ln
open Go.Sx Go
variable{σ:Type}[DecidableEq σ]
theorem Ka:∀(a l b:List (Cf σ)),gG l (a++b)=match gG l a with|none=>none|some l'=>gG l' b
 | [],l,b=>rfl
 |c ::a,l,b=>by
  show(if (fH l c).length>1024 then none else gG (fH l c) (a++b))=(match (if (fH l c).length>1024 then none else gG (fH l c) a)with|none=>none|some l'=>gG l' b);by_cases h:(fH l c).length>1024
  ·rw[if_pos h,if_pos h]
  ·rw[if_neg h,if_neg h];exact Ka a (fH l c) b
theorem aeg(l:List (Cf σ))(c:Cf σ):gG l [c]=if (fH l c).length>1024 then none else some (fH l c):=rfl
def wC(S:Sys σ)(l:List (Cf σ))(c:Cf σ)(k:Nat):Option (List (Cf σ)):=gG l ((S.kD c k).map (·.2))
theorem aaE(S:Sys σ)(l:List (Cf σ))(c:Cf σ):wC S l c 0=some l:=rfl
theorem aaF{S:Sys σ}{l:List (Cf σ)}{c:Cf σ}{k:Nat}(h:S.step c k=none):wC S l c (k+1)=wC S l c k:=by unfold wC;rw[kF,h];simp
theorem OS{S:Sys σ}{l lk:List (Cf σ)}{c:Cf σ}{k:Nat}{x:Nat×Cf σ}(h:S.step c k=some x)(hk:wC S l c k=some lk):wC S l c (k+1)=if (fH lk x.2).length>1024 then none else some (fH lk x.2):=by unfold wC at *;rw[kF,h,List.map_append,Ka,hk];exact aeg lk x.2
theorem aaG{S:Sys σ}{l:List (Cf σ)}{c:Cf σ}{k:Nat}(hk:k≤S.n)(h:wC S l c k=none):gG l ((S.steps c).map (·.2))=none:=by obtain⟨t,e⟩:=Gi S c hk;rw[W6]at e;rw[e,List.map_append,Ka];unfold wC at h;rw[h]
theorem aeh{S:Sys σ}{l lk:List (Cf σ)}{c:Cf σ}{k:Nat}(h:wC S l c k=some lk):(∃t,lk=l++t)∧∀x∈S.kD c k,x.2∈lk:=by obtain⟨h1,h2,_⟩:=qC h;exact⟨h1,fun x hx=>h2 _ (M4.2 ⟨x,hx,rfl⟩)⟩
def An(S:Sys σ)(l:List (Cf σ))(c:Cf σ)(k:Nat):List (Nat×Nat):=(S.kD c k).map fun x=>(x.1,l.idxOf x.2)
theorem aje{S:Sys σ}{l t:List (Cf σ)}{c:Cf σ}{k:Nat}(h:∀x∈S.kD c k,x.2∈l):An S (l++t) c k=An S l c k:=by unfold An;refine List.map_congr_left fun x hx=>?_;rw[ahC (h x hx)]
theorem amQ(l:List (Cf σ))(x:Cf σ):∃t,fH l x=l++t:=by
 unfold fH;split
 ·exact⟨[],by simp⟩
 ·exact⟨[x],rfl⟩
theorem aei{S:Sys σ}{l:List (Cf σ)}{c:Cf σ}{k:Nat}{x:Nat×Cf σ}(h:S.step c k=some x)(hl:∀y∈S.kD c k,y.2∈l):An S (fH l x.2) c (k+1)=An S l c k ++ [(x.1,(fH l x.2).idxOf x.2)]:=by obtain⟨t,e⟩:=amQ l x.2;have:=aje (t:=t) hl;rw[←e]at this;rw[←this];unfold An;rw[kF,h,List.map_append];rfl
def eT(p:Nat×Nat):List AV:=[I (p.1:Int),I (p.2:Int)]
theorem iB:Flat 2 eT where
 len _:=rfl
 zD x y hy:=by
  simp[eT]at hy;rcases hy with rfl|rfl
  ·exact cX _ _
  ·exact cX _ _
 cell x y hy:=by simp[eT]at hy;rcases hy with rfl|rfl<;>rfl
 lits x:=by simp[eT,AV.dA,AV.lits,I]
end Ln
namespace Ln
open Go.Sx Go
structure Exp(n0:Key)(lk:List (Cf St))(st:List (Nat×Nat))(br bm b4 b6:Key)(cC cS c6:AV)(oC o6:Option Key)(E:List Bk)(h:T ai)(nx:Key):Prop where
 R:Vq n0 lk br bm cC cS oC E h nx
 v4:ag b4 h=Qz [.ptr br 0]
 v6:ag b6 h=Qz [c6]
 G6:Gr 2 c6 (ak eT st) st.length h nx o6
 lt:b4.toNat<nx.toNat∧b6.toNat<nx.toNat
 ne:b4≠br∧b4≠bm∧b4≠b6∧b6≠br∧b6≠bm
 ap:∀b,(oC=some b∨∃e∈E,e.o=some b)→b≠b4∧b≠b6∧o6≠some b
 o6:∀b,o6=some b→b≠br∧b≠bm∧b≠b4∧b≠b6∧n0.toNat≤b.toNat
 ge:n0.toNat≤b4.toNat∧n0.toNat≤b6.toNat
def kG(br bm b6:Key)(oC o6:Option Key)(E:List Bk)(b:Key):Prop:=b=br∨b=bm∨b=b6∨oC=some b∨(∃e∈E,e.o=some b)∨o6=some b
theorem Exp.ge'{n0:Key}{lk:List (Cf St)}{st:List (Nat×Nat)}{br bm b4 b6:Key}{cC cS c6:AV}{oC o6:Option Key}{E:List Bk}{h:T ai}{nx:Key}(A:Exp n0 lk st br bm b4 b6 cC cS c6 oC o6 E h nx){b:Key}(hb:kG br bm b6 oC o6 E b):n0.toNat≤b.toNat:=by
 rcases hb with rfl|rfl|rfl|hb|⟨e,he,hb⟩|hb
 ·exact A.R.bb.2.1
 ·exact A.R.bb.2.2
 ·exact A.ge.2
 ·exact(A.R.ow b (.inl hb)).2.2
 ·exact(A.R.ow b (.inr ⟨e,he,hb⟩)).2.2
 ·exact(A.o6 b hb).2.2.2.2
theorem Vq.keep{n0:Key}{l:List (Cf St)}{br bm:Key}{cC cS:AV}{oC:Option Key}{E:List Bk}{h h':T ai}{nx nx':Key}(R:Vq n0 l br bm cC cS oC E h nx)(hn:nx.toNat≤nx'.toNat)(hk:∀b,(b=br∨b=bm∨oC=some b∨∃e∈E,e.o=some b)→ag b h'=ag b h):Vq n0 l br bm cC cS oC E h' nx':=
 ⟨by rw[hk br (.inl rfl)];exact R.wa,by rw[hk bm (.inr (.inl rfl))];exact R.map,by have:=R.brn;omega,by have:=R.bmn;omega,R.C.keep hn fun b hb=>hk b (.inr (.inr (.inl hb))),fun x hx=>(R.B x hx).keep hn fun b hb=>hk b (.inr (.inr (.inr ⟨x,hx,hb⟩))),R.nd,R.cov,R.ajg,R.sep,R.ow,R.cs,R.bb⟩
theorem Vq.olt{n0:Key}{l:List (Cf St)}{br bm:Key}{cC cS:AV}{oC:Option Key}{E:List Bk}{h:T ai}{nx:Key}(R:Vq n0 l br bm cC cS oC E h nx){b:Key}(hb:oC=some b∨∃e∈E,e.o=some b):b.toNat<nx.toNat:=by
 rcases hb with hb|⟨e,he,hb⟩
 ·exact R.C.lt b hb
 ·exact(R.B e he).lt b hb
variable{C:bH}{X:Kn}(S:Std C X)(H:Na C)
include S H
theorem aCf{n0:Key}{lk:List (Cf St)}(hl:lk.length≤9000)(UJ:∀y∈lk,y.2.kids.length≤3){x:Cf St}(hx:x.2.kids.length≤3){st:List (Nat×Nat)}(fy:st.length≤1000){br bm b4 b6 b8:Key}{cC cS c6:AV}{oC o6:Option Key}{E:List Bk}{h:T ai}{nx:Key}(A:Exp n0 lk st br bm b4 b6 cC cS c6 oC o6 E h nx)(ZX:n0.toNat≤nx.toNat)(v8:ag b8 h=Qz (eC x))(b8n:b8.toNat<nx.toNat){k:Nat}{Q:cJ}{tm:T AV}(g4:ag (K 4) tm=some (.ptr b4 0))(g6:ag (K 6) tm=some (.ptr b6 0))(g7:ag (K 7) tm=some (I (k:Int)))(g8:ag (K 8) tm=some (.ptr b8 0))
  (hQ:∀aA h' nx' j cC' c6' LX o6' E',(fH lk x)[j]?=some x→Exp n0 (fH lk x) (st ++ [(k,j)]) br bm b4 b6 cC' cS c6' LX o6' E' h' nx'→nx.toNat≤nx'.toNat→(∀b:Key,b.toNat<nx.toNat→¬kG br bm b6 oC o6 E b→ag b h'=ag b h)→(∀b,kG br bm b6 LX o6' E' b→kG br bm b6 oC o6 E b∨nx.toNat≤b.toNat)→ag (K 4) aA=some (.ptr b4 0)→ag (K 2) aA=ag (K 2) tm→ag (K 3) aA=ag (K 3) tm→Q .norm aA h' nx') :
  mE C (.staged bY ⟨[K 38,K 39,K 40,K 41,K 42,K 43,K 44,K 45],[]⟩) Q tm h nx:=by
 have rA:=S.r df;have k6:=A.G6.cell;have b6q:AV.beq c6 c6=true:=A.G6.lits iB;simp[bY,g4,g6,g7,g8,A.v4,A.v6,v8,DL,aek,rA,SQ];refine(amW S H (by omega) UJ hx ZX A.R).mono ?_;rintro o h2 aZ ⟨⟨j,cC2,oC2,E2,hj,rfl,R2,how⟩,n2,k2⟩;have s2:=kTSu aZ;have nm:∀b:Key,b.toNat<nx.toNat→b≠br→b≠bm→oC≠some b→(∀e∈E,e.o≠some b)→ag b h2=ag b h:=k2;have v62:ag b6 h2=Qz [c6]:=by rw[nm b6 A.lt.2 A.ne.2.2.2.1 A.ne.2.2.2.2 (fun e=>(A.ap b6 (.inl e)).2.1 rfl) (fun e he ho=>(A.ap b6 (.inr ⟨e,he,ho⟩)).2.1 rfl)];exact A.v6
 have v42:ag b4 h2=Qz [.ptr br 0]:=by rw[nm b4 A.lt.1 A.ne.1 A.ne.2.1 (fun e=>(A.ap b4 (.inl e)).1 rfl) (fun e he ho=>(A.ap b4 (.inr ⟨e,he,ho⟩)).1 rfl)];exact A.v4
 have G62:Gr 2 c6 (ak eT st) st.length h2 aZ o6:=A.G6.keep n2 fun b hb=>by have h1:=A.o6 b hb;exact nm b (A.G6.lt b hb) h1.1 h1.2.1 (fun e=>(A.ap b (.inl e)).2.2 hb) (fun e he ho=>(A.ap b (.inr ⟨e,he,ho⟩)).2.2 hb)
 have hET:eT (k,j)=[I (k:Int),I (j:Int)]:=rfl;have e3:=E0 h2 aZ (.cells (eT (k,j)) .fix);obtain⟨c7,h4,mC,o7,ha,G7,F7⟩:=(G62.ext e3).Q9 iB (by decide) (by decide) (by omega) (k,j);have F27:=(CZ.SS e3 o6).trans F7;rw[hET]at ha;have n4:=F27.n;have k7:=G7.cell;have v64:ag b6 h4=Qz [c6]:=by rw[F27.g b6 (by have:=A.lt.2;omega) (fun e=>(A.o6 b6 e).2.2.2.1 rfl)];exact v62
 simp[-appendTo,g4,g6,g7,v62,v64,b6q,ha,k6.1,k6.2,k7.1,k7.2];have o7n:∀b:Key,o7=some b→o6=some b∨aZ.toNat≤b.toNat:=fun b hb=>by
  rcases F27.o with e|⟨y,e,hy⟩
  ·rw[e]at hb;exact .inl hb
  ·rw[e]at hb;cases hb;exact .inr hy
 have l4:=A.lt.1;have l6:=A.lt.2;have lr:=A.R.brn;have lm:=A.R.bmn;have ow2:∀b:Key,(oC2=some b∨∃e∈E2,e.o=some b)→b≠b4∧b≠b6∧o6≠some b:=fun b hb=>by
  rcases how b hb with h1|h1
  ·exact A.ap b h1
  ·exact⟨fun e=>by rw[e]at h1;omega,fun e=>by rw[e]at h1;omega,fun e=>by have:=A.G6.lt b e;omega⟩
 have aHv:o7≠some b6:=fun e=>by
  rcases o7n b6 e with h1|h1
  ·exact(A.o6 b6 h1).2.2.2.1 rfl
  ·omega
 have same:∀b:Key,b.toNat<aZ.toNat→b≠b6→o6≠some b→ag b (au b6 (Qz [c7]) h4)=ag b h2:=fun b hb h1 h2=>by rw[aD _ _ _ _ h1,F27.g b hb h2]
 refine hQ _ _ _ j cC2 c7 oC2 o7 E2 hj ⟨?_,?_,by simp,?_,by omega,A.ne,?_,?_,A.ge⟩ (by omega) ?_ ?_ (by simp[g4]) (by simp) (by simp)
 ·refine R2.keep n4 fun b hb=>?_;rcases hb with rfl|rfl|hb|hb
  ·exact same _ R2.brn (Ne.symm A.ne.2.2.2.1) (fun e=>(A.o6 _ e).1 rfl)
  ·exact same _ R2.bmn (Ne.symm A.ne.2.2.2.2) (fun e=>(A.o6 _ e).2.1 rfl)
  ·have h1:=ow2 b (.inl hb);exact same b (R2.olt (.inl hb)) h1.2.1 h1.2.2
  ·have h1:=ow2 b (.inr hb);exact same b (R2.olt (.inr hb)) h1.2.1 h1.2.2
 ·rw[same b4 (by omega) A.ne.2.2.1 (fun e=>(A.o6 b4 e).2.2.1 rfl)];exact v42
 ·exact G7.keep (gi _) fun b hb=>aD _ _ _ _ (fun e=>aHv (by rw[hb,e]))
 ·intro b hb;have h1:=ow2 b hb;refine⟨h1.1,h1.2.1,fun e=>?_⟩;rcases o7n b e with h2|h2
  ·exact h1.2.2 h2
  ·have:=R2.olt hb;omega
 ·intro b hb;rcases o7n b hb with h1|h1
  ·exact A.o6 b h1
  ·exact⟨fun e=>by rw[e]at h1;omega,fun e=>by rw[e]at h1;omega,fun e=>by rw[e]at h1;omega,fun e=>by rw[e]at h1;omega,by omega⟩
 ·intro b hb hm;unfold kG at hm;simp only[not_or]at hm;rw[same b (by omega) hm.2.2.1 hm.2.2.2.2.2,nm b hb hm.1 hm.2.1 hm.2.2.2.1 (fun e he ho=>hm.2.2.2.2.1 ⟨e,he,ho⟩)]
 ·rintro b (rfl|rfl|rfl|hb|⟨e,he,hb⟩|hb)
  ·exact .inl (.inl rfl)
  ·exact .inl (.inr (.inl rfl))
  ·exact .inl (.inr (.inr (.inl rfl)))
  ·rcases how b (.inl hb)with h1|h1
   ·exact .inl (by
     rcases h1 with h1|h1
     ·exact .inr (.inr (.inr (.inl h1)))
     ·exact .inr (.inr (.inr (.inr (.inl h1)))))
   ·exact .inr h1
  ·rcases how b (.inr ⟨e,he,hb⟩)with h1|h1
   ·exact .inl (by
     rcases h1 with h1|h1
     ·exact .inr (.inr (.inr (.inl h1)))
     ·exact .inr (.inr (.inr (.inr (.inl h1)))))
   ·exact .inr h1
  ·rcases o7n b hb with h1|h1
   ·exact .inl (.inr (.inr (.inr (.inr (.inr h1)))))
   ·exact .inr (by omega)
end Ln
namespace Ln
open Go.Sx Go
theorem _root_.Go.Sx.Gr.ct{z:Nat}{c:AV}{l:List AV}{len:Nat}{h:T ai}{nx:Key}{ob:Option Key}(g:Gr z c l len h nx ob){b:Key}(hb:ob=some b):(∃l k,ag b h=some (.cells l k))∨ag b h=some .tok:=by
 rcases g with⟨_,_,_,e⟩|⟨b',k,e,_,h1,_⟩|⟨t,e,_,h1,_⟩
 ·rw[e]at hb;cases hb
 ·rw[e]at hb;cases hb;exact .inl ⟨_,_,h1⟩
 ·rw[e]at hb;cases hb;exact .inr h1
theorem Exp.ct{n0:Key}{lk:List (Cf St)}{st:List (Nat×Nat)}{br bm b4 b6:Key}{cC cS c6:AV}{oC o6:Option Key}{E:List Bk}{h:T ai}{nx:Key}(A:Exp n0 lk st br bm b4 b6 cC cS c6 oC o6 E h nx){b:Key}(hb:kG br bm b6 oC o6 E b):b.toNat<nx.toNat∧((∃l k,ag b h=some (.cells l k))∨ag b h=some .tok∨∃l,ag b h=some (.map l)):=by
 rcases hb with rfl|rfl|rfl|hb|⟨e,he,hb⟩|hb
 ·exact⟨A.R.brn,.inl ⟨_,_,A.R.wa⟩⟩
 ·exact⟨A.R.bmn,.inr (.inr ⟨_,A.R.map⟩)⟩
 ·exact⟨A.lt.2,.inl ⟨_,_,A.v6⟩⟩
 ·refine⟨A.R.C.lt b hb,?_⟩;rcases A.R.C.ct hb with h1|h1
  ·exact .inl h1
  ·exact .inr (.inl h1)
 ·refine⟨(A.R.B e he).lt b hb,?_⟩;rcases (A.R.B e he).ct hb with h1|h1
  ·exact .inl h1
  ·exact .inr (.inl h1)
 ·refine⟨A.G6.lt b hb,?_⟩;rcases A.G6.ct hb with h1|h1
  ·exact .inl h1
  ·exact .inr (.inl h1)
theorem Exp.keep{n0:Key}{lk:List (Cf St)}{st:List (Nat×Nat)}{br bm b4 b6:Key}{cC cS c6:AV}{oC o6:Option Key}{E:List Bk}{h h':T ai}{nx nx':Key}(A:Exp n0 lk st br bm b4 b6 cC cS c6 oC o6 E h nx)(hn:nx.toNat≤nx'.toNat)(hk:∀b,(kG br bm b6 oC o6 E b∨b=b4)→ag b h'=ag b h):Exp n0 lk st br bm b4 b6 cC cS c6 oC o6 E h' nx':=
 ⟨A.R.keep hn fun b hb=>hk b (.inl (by
  rcases hb with h1|h1|h1|h1
  ·exact .inl h1
  ·exact .inr (.inl h1)
  ·exact .inr (.inr (.inr (.inl h1)))
  ·exact .inr (.inr (.inr (.inr (.inl h1)))))),by rw[hk b4 (.inr rfl)];exact A.v4,by rw[hk b6 (.inl (.inr (.inr (.inl rfl))))];exact A.v6,A.G6.keep hn fun b hb=>hk b (.inl (.inr (.inr (.inr (.inr (.inr hb)))))),by have:=A.lt;omega,A.ne,A.ap,A.o6,A.ge⟩
variable{C:bH}{X:Kn}(S:Std C X)(H:Na C)
include S H
theorem atd{n0:Key}{lk:List (Cf St)}(hl:lk.length≤9000)(UJ:∀y∈lk,y.2.kids.length≤3){x:Cf St}(hx:x.2.kids.length≤3){st:List (Nat×Nat)}(fy:st.length≤1000){br bm b4 b6 b8 r2 r3:Key}{cC cS c6:AV}{oC o6:Option Key}{E:List Bk}{h:T ai}{nx:Key}(A:Exp n0 lk st br bm b4 b6 cC cS c6 oC o6 E h nx)(ZX:n0.toNat≤nx.toNat)(v8:ag b8 h=Qz (eC x))(b8n:b8.toNat<nx.toNat){u2 u3:AV}(w2:ag r2 h=Qz [u2])(w3:ag r3 h=Qz [u3])(wn:r2.toNat<nx.toNat∧r3.toNat<nx.toNat)(wm:¬kG br bm b6 oC o6 E r2∧¬kG br bm b6 oC o6 E r3∧r2≠r3){k:Nat}{Q:cJ}{tm:T AV}(g2:ag (K 2) tm=some (.ptr r2 0))(g3:ag (K 3) tm=some (.ptr r3 0))(g4:ag (K 4) tm=some (.ptr b4 0))(g6:ag (K 6) tm=some (.ptr b6 0))(g7:ag (K 7) tm=some (I (k:Int)))(g8:ag (K 8) tm=some (.ptr b8 0))
  (apu:∀aA h' nx',1024<(fH lk x).length→ag r2 h'=Qz [.nilp]→ag r3 h'=Qz [I 4]→nx.toNat≤nx'.toNat→(∀b:Key,b.toNat<nx.toNat→¬kG br bm b6 oC o6 E b→b≠r2→b≠r3→ag b h'=ag b h)→Q .ret aA h' nx')
  (TK:∀aA h' nx' j cC' c6' LX o6' E',¬1024<(fH lk x).length→(fH lk x)[j]?=some x→Exp n0 (fH lk x) (st ++ [(k,j)]) br bm b4 b6 cC' cS c6' LX o6' E' h' nx'→nx.toNat≤nx'.toNat→(∀b:Key,b.toNat<nx.toNat→¬kG br bm b6 oC o6 E b→ag b h'=ag b h)→(∀b,kG br bm b6 LX o6' E' b→kG br bm b6 oC o6 E b∨nx.toNat≤b.toNat)→Q .norm aA h' nx') :
  mE C (.block 3 (.seq (.staged bY ⟨[K 38,K 39,K 40,K 41,K 42,K 43,K 44,K 45],[]⟩) (.seq (.ops bR) (.cond (.t (K 51)) (.seq (.ops cy) .ret) .skip)))) Q tm h nx:=by
 simp only[qA,ji];refine aCf S H hl UJ hx fy A ZX v8 b8n g4 g6 g7 g8 (fun cE h2 aZ j cC2 c62 oC2 o62 E2 hj A2 n2 k2 m2 p4 p2 p3=>?_);rw[g2]at p2;rw[g3]at p3;have hR2:=A2.R.C.rd;have w22:ag r2 h2=Qz [u2]:=by rw[k2 r2 wn.1 wm.1];exact w2
 have w32:ag r3 h2=Qz [u3]:=by rw[k2 r3 wn.2 wm.2.1];exact w3
 by_cases hov:1024<(fH lk x).length
 ·have ay5:(1024:Int)<(fH lk x).length:=by omega
  simp[↓hR2.ln,bR,p4,A2.v4,A2.R.wa,ay5];have w33:ag r3 (au r2 (Qz [.nilp]) h2)=Qz [u3]:=by rw[aD _ _ _ _ (Ne.symm wm.2.2)];exact w32
  simp[cy,p2,p3,w22,w33];refine apu _ _ _ hov ?_ (by simp) n2 (fun b hb hm h1 h3=>?_)
  ·rw[aD _ _ _ _ wm.2.2];simp
  ·rw[aD _ _ _ _ h3,aD _ _ _ _ h1];exact k2 b hb hm
 ·have ay5:¬(1024:Int)<(fH lk x).length:=by omega
  simp[↓hR2.ln,bR,p4,A2.v4,A2.R.wa,ay5];exact TK _ _ _ j cC2 c62 oC2 o62 E2 hov hj A2 n2 k2 m2
end Ln
namespace Ln
open Go.Sx Go
structure RnI(X:Kn)(i:Nat)(os:List Op)(c:Cf St)(n0:Key)(l0:List (Cf St))(br bm b4 b6 lk d:Key)(cS:AV)(M0:Key→Prop)(ds:List Key)(L:ai)(hA:T ai)(nxA:Key)(k:Nat)(h:T ai)(nx:Key):Prop where
 a:∃(lk:List (Cf St)) (cC c6:AV) (oC o6:Option Key) (E:List Bk),wC (ba X i os) l0 c k=some lk∧Exp n0 lk (An (ba X i os) lk c k) br bm b4 b6 cC cS c6 oC o6 E h nx∧(∀b,kG br bm b6 oC o6 E b→M0 b∨nxA.toNat≤b.toNat)
 n:nxA.toNat≤nx.toNat
 g:∀b:Key,b.toNat<nxA.toNat→¬M0 b→ag b h=ag b hA
theorem RnI.ext{X:Kn}{i:Nat}{os:List Op}{c:Cf St}{n0:Key}{l0:List (Cf St)}{br bm b4 b6 lk d:Key}{cS:AV}{M0:Key→Prop}{ds:List Key}{L:ai}{hA:T ai}{nxA:Key}{k:Nat}{h h':T ai}{nx nx':Key}(I:RnI X i os c n0 l0 br bm b4 b6 lk d cS M0 ds L hA nxA k h nx)(e:Ext h nx h' nx'):RnI X i os c n0 l0 br bm b4 b6 lk d cS M0 ds L hA nxA k h' nx':=by
 have n:=e.n;have nI:=I.n;obtain⟨l,cC,c6,oC,o6,E,h1,h2,h3⟩:=I.a;refine⟨⟨l,cC,c6,oC,o6,E,h1,h2.keep n fun b hb=>e.g b ?_,h3⟩,by omega,fun b hb hm=>by rw[e.g b (by omega)];exact I.g b hb hm⟩;rcases hb with hb|rfl
 ·exact(h2.ct hb).1
 ·exact h2.lt.1
variable{C:bH}{X:Kn}(S:Std C X)(H:Na C)
include S H
theorem apt{i:Nat}(hi:i<3){os:List Op}(C3:yv i os=0)(wc:∀o∈os,before o o=false)(ho:os.length≤16){cO:AV}(hcO:qf 10 eO cO os){n0:Key}{l0:List (Cf St)}(hl0:l0.length≤1024)(QD:l0.Nodup)(UJ:∀y∈l0,kx i y.2){c:Cf St}(hc:c∈l0)(dn:c.1<2^os.length){br bm b4 b6 bj b2 b3 r2 r3:Key}{cC cS:AV}{oC:Option Key}{E:List Bk}{u2 u3:AV}{h:T ai}{nx:Key}(A:Exp n0 l0 [] br bm b4 b6 cC cS .nils oC none E h nx)(ZX:n0.toNat≤nx.toNat)
  (vj:ag bj h=Qz (jB X i cO (aJ i) (jy os os.length))) (v2:ag b2 h=Qz [.ptr bj 0]) (v3:ag b3 h=Qz (eC c)) (w2:ag r2 h=Qz [u2]) (w3:ag r3 h=Qz [u3]) (lt:bj.toNat<nx.toNat∧b2.toNat<nx.toNat∧b3.toNat<nx.toNat∧r2.toNat<nx.toNat∧r3.toNat<nx.toNat) (nm:∀b,(b=bj∨b=b2∨b=b3∨b=r2∨b=r3)→¬kG br bm b6 oC none E b) (r23:r2≠r3) (rge:n0.toNat≤r2.toNat∧n0.toNat≤r3.toNat)
  {Q:qH} {ds:List Key} (D:mG n0 ds h nx) {tm:T AV} (PD:ag (K 35) tm=some (.fn bZ [] [.ptr b2 0,.ptr b3 0])) (g2:ag (K 2) tm=some (.ptr r2 0)) (g3:ag (K 3) tm=some (.ptr r3 0)) (g4:ag (K 4) tm=some (.ptr b4 0)) (g6:ag (K 6) tm=some (.ptr b6 0))
  (apu:∀d BB h' nx',BB=d ::ds→gG l0 (((ba X i os).steps c).map (·.2))=none→ag r2 h'=Qz [.nilp]→ag r3 h'=Qz [I 4]→mG n0 BB h' nx'→(∀b:Key,b.toNat<n0.toNat→ag b h'=ag b h)→nx.toNat≤nx'.toNat→Q .ret BB tm h' nx')
  (TK:∀d BB h' nx' l' cC' c6' LX o6' E',BB=d ::ds→gG l0 (((ba X i os).steps c).map (·.2))=some l'→Exp n0 l' (rowOf (ba X i os) l' c) br bm b4 b6 cC' cS c6' LX o6' E' h' nx'→(∀b,kG br bm b6 LX o6' E' b→kG br bm b6 oC none E b∨nx.toNat≤b.toNat)→mG n0 BB h' nx'→(∀b:Key,b.toNat<nx.toNat→¬kG br bm b6 oC none E b→ag b h'=ag b h)→nx.toNat≤nx'.toNat→Q .norm BB tm h' nx') :
  V C (.rangeF (.t (K 35)) [K 36,K 37] (.seq (.ops dQ) (.ops dR)) (.block 3 (.seq (.staged bY ⟨[K 38,K 39,K 40,K 41,K 42,K 43,K 44,K 45],[]⟩) (.seq (.ops bR) (.cond (.t (K 51)) (.seq (.ops cy) .ret) .skip))))) Q ds tm h nx:=by
 have hd:c.1<65536:=Ou dn (yJ ho);have hs:=UJ c hc;have s1:=kTSu nx;have s2:=kTSu nx.succ;refine V.rangeF (g:=bZ) (first:=[]) (cap:=[.ptr b2 0,.ptr b3 0]) PD S.jD.off ?_;intro fn res;have e1:=(E0 h nx (.dfs false)).trans (E0 _ nx.succ (.loop .ready none fn tm res [K 36,K 37] (.seq (.ops dQ) (.ops dR)) (.block 3 (.seq (.staged bY ⟨[K 38,K 39,K 40,K 41,K 42,K 43,K 44,K 45],[]⟩) (.seq (.ops bR) (.cond (.t (K 51)) (.seq (.ops cy) .ret) .skip)))) nx));generalize hba:(aK.seq (.ops dQ) (.ops dR))=ca at *;generalize aL8:(aK.block 3 (.seq (.staged bY ⟨[K 38,K 39,K 40,K 41,K 42,K 43,K 44,K 45],[]⟩) (.seq (.ops bR) (.cond (.t (K 51)) (.seq (.ops cy) .ret) .skip))))=body at *;have Mm:nx∉ds:=fun hm=>by have:=D.lt nx hm;omega
 have gd:ag nx (qI fn tm res [K 36,K 37] ca body h nx)=some (.dfs false):=by unfold qI;rw[aw (by omega)];simp
 have gl:ag nx.succ (qI fn tm res [K 36,K 37] ca body h nx)=some (.loop .ready none fn tm res [K 36,K 37] ca body nx):=by unfold qI;simp
 have Fk:Ext h nx (qI fn tm res [K 36,K 37] ca body h nx) nx.succ.succ:=e1;generalize qI fn tm res [K 36,K 37] ca body h nx=hA at *;have A1:=A.keep (h':=hA) (nx':=nx.succ.succ) Fk.n (fun b hb=>Fk.g b (by
  rcases hb with hb|rfl
  ·exact(A.ct hb).1
  ·exact A.lt.1))
 have D1:mG n0 (nx ::ds) hA nx.succ.succ:=(D.ext Fk).cons Mm gd ZX (by omega);have hM:∀b,kG br bm b6 oC none E b→b.toNat<nx.toNat:=fun b hb=>(A.ct hb).1;refine ajF S hi C3 wc ho hcO hd hs (bj:=bj) (b2:=b2) (b3:=b3) (lk:=nx.succ) (c:=c) (s0:=aJ i) (Inv:=fun k h' nx'=>RnI X i os c n0 l0 br bm b4 b6 nx.succ nx cS (kG br bm b6 oC none E) ds .tok hA nx.succ.succ k h' nx') ⟨?_,?_,?_,?_,?_⟩ ⟨⟨l0,cC,.nils,oC,none,E,aaE _ _ _,A1,fun b hb=>.inl hb⟩,gi _,fun _ _ _=>rfl⟩
 ·rintro k h1 bW h2 aZ I e;exact I.ext e
 ·rintro k h1 bW I;have n1:=I.n;refine⟨?_,?_,?_,by omega,by omega,by omega⟩
  ·rw[I.g bj (by omega) (nm bj (.inl rfl)),Fk.g bj lt.1];exact vj
  ·rw[I.g b2 (by omega) (nm b2 (.inr (.inl rfl))),Fk.g b2 lt.2.1];exact v2
  ·rw[I.g b3 (by omega) (nm b3 (.inr (.inr (.inl rfl)))),Fk.g b3 lt.2.2.1];exact v3
 ·rintro k h1 bW hk fy I;obtain⟨l,cC1,c61,oC1,o61,E1,qR,DF,Py⟩:=I.a;refine⟨⟨l,cC1,c61,oC1,o61,E1,by rw[aaF fy];exact qR,?_,Py⟩,I.n,I.g⟩;have:An (ba X i os) l c (k+1)=An (ba X i os) l c k:=by unfold An;rw[kF,fy];simp
  rw[this];exact DF
 ·rintro k x h1 bW hk fy J0;obtain⟨l,cC1,c61,oC1,o61,E1,hgr,A2,how⟩:=J0.a;have n1:=J0.n;have t1:=kTSu bW;have hsp:=qC hgr;have ZV:l.length≤1024:=hsp.2.2.2.1 hl0;have hxs:∀z∈(ba X i os).steps c,kx i z.2.2:=WK S hi C3 hs;have aL9:(k,x)∈(ba X i os).steps c:=by obtain⟨b,e⟩:=agB (ba X i os) c hk fy;rw[e];simp
  have hkl:∀y∈l,y.2.kids.length≤3:=fun y hy=>by
   rcases hsp.2.2.2.2 y hy with h1|h1
   ·exact aao (UJ y h1)
   ·obtain⟨z,hz,rfl⟩:=M4.1 h1;obtain⟨t,e⟩:=Gi (ba X i os) c (Nat.le_of_lt hk);have e':(ba X i os).steps c=(ba X i os).kD c k++t:=e;exact aao (hxs z (by rw[e'];exact List.mem_append_left _ hz))
  have hx3:=aao (hxs (k,x) aL9);have aMa:(An (ba X i os) l c k).length≤1000:=by unfold An Sys.kD;rw[List.length_map];have:=List.length_filterMap_le ((ba X i os).step c) (List.range k);rw[List.length_range]at this;have Ib:k<os.length:=hk;omega
  have flk:ag nx.succ h1=some (.loop .ready none fn tm res [K 36,K 37] ca body nx):=by rw[J0.g nx.succ (by omega) (fun hm=>by have:=hM _ hm;omega)];exact gl
  have lkM:¬kG br bm b6 oC1 o61 E1 nx.succ:=fun hm=>by rcases (A2.ct hm).2 with⟨_,_,e⟩|e|⟨_,e⟩<;>rw[flk]at e<;>cases e
  suffices hs2:∀R1:Out→T ai→Key→Prop,(∀h' nx',RnI X i os c n0 l0 br bm b4 b6 nx.succ nx cS (kG br bm b6 oC none E) ds .tok hA nx.succ.succ (k+1) h' nx'→R1 (.ret (.bool true)) h' nx')→(∀h' nx',aiC Q nx nx.succ fn tm res [K 36,K 37] ca body ds (.ret (.tuple [])) h' nx'→R1 (.ret (.bool false)) h' nx')→B0 C nx.succ [I k,.agg (eC x)] h1 bW R1 from
   hs2 _ (fun _ _ h=>.inl ⟨rfl,h⟩) (fun _ _ h=>.inr ⟨rfl,h⟩)
  intro R1 hT hF;refine B0.intro (fun cE h2 aZ=>aZ=bW.succ∧h2=au bW (Qz (eC x)) h1∧ag (K 7) cE=some (I k)∧ag (K 8) cE=some (.ptr bW 0)∧ag (K 2) cE=ag (K 2) tm∧ag (K 3) cE=ag (K 3) tm∧ag (K 4) cE=ag (K 4) tm∧ag (K 6) cE=ag (K 6) tm) flk rfl ?_ ?_
  ·rw[←hba];simp[dQ];simp[dR,S0,DL]
  ·rintro cE h2 aZ ⟨rfl,rfl,p7,p8,p2,p3,p4,p6⟩;rw[g2]at p2;rw[g3]at p3;rw[g4]at p4;rw[g6]at p6;have e2:=E0 h1 bW (.cells (eC x) .fix);have vx:ag bW (au bW (Qz (eC x)) h1)=Qz (eC x):=by simp
   have aMb:ag nx.succ (au bW (Qz (eC x)) h1)=some (.loop .ready none fn tm res [K 36,K 37] ca body nx):=by rw[e2.g _ (by omega)];exact flk
   have kk2:∀b:Key,b.toNat<bW.toNat→ag b (au bW (Qz (eC x)) h1)=ag b h1:=fun b hb=>e2.g b hb;generalize au bW (Qz (eC x)) h1=h2 at *;refine⟨aMb,?_⟩;have lk3:ag nx.succ (au nx.succ (some (.loop .busy none fn tm res [K 36,K 37] ca body nx)) h2)=some (.loop .busy none fn tm res [K 36,K 37] ca body nx):=by simp
   have kk3:∀b:Key,b≠nx.succ→ag b (au nx.succ (some (.loop .busy none fn tm res [K 36,K 37] ca body nx)) h2)=ag b h2:=fun b hb=>aD _ _ _ _ hb;generalize au nx.succ (some (.loop .busy none fn tm res [K 36,K 37] ca body nx)) h2=h3 at *;have cZ:∀b:Key,b.toNat<bW.toNat→b≠nx.succ→ag b h3=ag b h1:=fun b hb h1=>by rw[kk3 b h1,kk2 b hb]
   have A3:=A2.keep (h':=h3) (nx':=bW.succ) (by omega) (fun b hb=>by
    rcases hb with hb|rfl
    ·exact cZ b (A2.ct hb).1 (fun e=>lkM (by rw[←e];exact hb))
    ·exact cZ _ A2.lt.1 (fun e=>by have:=A.lt.1;rw[e]at this;omega))
   have notM:∀b,b.toNat<nx.succ.succ.toNat→¬kG br bm b6 oC none E b→¬kG br bm b6 oC1 o61 E1 b:=fun b hb hm h=>by
    rcases how b h with h1|h1
    ·exact hm h1
    ·omega
   have small:∀b:Key,b.toNat<nx.toNat→¬kG br bm b6 oC none E b→ag b h3=ag b h:=fun b hb hm=>by rw[cZ b (by omega) (fun e=>by rw[e]at hb;omega),J0.g b (by omega) hm,Fk.g b hb]
   have nr2:=nm r2 (.inr (.inr (.inr (.inl rfl))));have nr3:=nm r3 (.inr (.inr (.inr (.inr rfl))));generalize hrq:Kz R1 nx.succ fn tm res [K 36,K 37] ca body nx=RQ;rw[←aL8];refine atd S H (by omega) hkl hx3 aMa A3 (by omega) (b8:=bW) (r2:=r2) (r3:=r3) (u2:=u2) (u3:=u3) (by rw[kk3 bW (fun e=>by rw[e]at n1;omega)];exact vx) (by omega) (by rw[small r2 lt.2.2.2.1 nr2];exact w2) (by rw[small r3 lt.2.2.2.2 nr3];exact w3) (by omega) ⟨notM r2 (by omega) nr2,notM r3 (by omega) nr3,r23⟩ p2 p3 p4 p6 p7 p8 ?_ ?_
   ·intro aA h' nx' hov q2 q3 hn Ib;rw[←hrq];have aDT:nx.succ≠r2:=fun e=>by have:=lt.2.2.2.1;rw[←e]at this;omega
    have aDU:nx.succ≠r3:=fun e=>by have:=lt.2.2.2.2;rw[←e]at this;omega
    have lk5:ag nx.succ h'=some (.loop .busy none fn tm res [K 36,K 37] ca body nx):=by rw[Ib nx.succ (by omega) lkM aDT aDU];exact lk3
    have Da:gG l0 (((ba X i os).steps c).map (·.2))=none:=aaG (k:=k+1) hk (by rw[OS fy hgr,if_pos hov]);simp;refine⟨⟨none,lk5⟩,hF _ _ ⟨_,rfl,.done,some .ret,by simp,by simp,?_⟩⟩;rw[set_set];refine apu nx _ _ _ rfl Da (by rw[aD _ _ _ _ (Ne.symm aDT)];exact q2) (by rw[aD _ _ _ _ (Ne.symm aDU)];exact q3) (D1.keep (by omega) fun b hb hg=>?_) (fun b hb=>?_) (by omega)
    ·have Ny:b≠nx.succ:=by rintro rfl;rw[gl]at hg;cases hg
     have hM0:¬kG br bm b6 oC none E b:=fun hm=>by rcases (A1.ct hm).2 with⟨_,_,e⟩|e|⟨_,e⟩<;>rw[hg]at e<;>cases e
     have NA:b≠r2:=by rintro rfl;rw[Fk.g _ lt.2.2.2.1,w2]at hg;cases hg
     have hr3:b≠r3:=by rintro rfl;rw[Fk.g _ lt.2.2.2.2,w3]at hg;cases hg
     rw[aD _ _ _ _ Ny,Ib b (by omega) (notM b hb hM0) NA hr3,cZ b (by omega) Ny,J0.g b hb hM0];exact hg
    ·have hM0:¬kG br bm b6 oC none E b:=fun hm=>by have:=A.ge' hm;omega
     rw[aD _ _ _ _ (fun e=>by rw[e]at hb;omega),Ib b (by omega) (notM b (by omega) hM0) (fun e=>by have:=rge.1;rw[←e]at this;omega) (fun e=>by have:=rge.2;rw[←e]at this;omega)];exact small b (by omega) hM0
   ·intro aA h' nx' j cC' c6' LX o6' E' hov hj A4 hn Ib aMc;rw[←hrq];have lk5:ag nx.succ h'=some (.loop .busy none fn tm res [K 36,K 37] ca body nx):=by rw[Ib nx.succ (by omega) lkM];exact lk3
    have aMd:wC (ba X i os) l0 c (k+1)=some (fH l x):=by rw[OS fy hgr,if_neg hov]
    have aMe:(fH l x).Nodup:=J6 (hsp.2.2.1 QD) x;have PF:(fH l x).idxOf x=j:=ay1 aMe hj;have Nx:An (ba X i os) (fH l x) c (k+1)=An (ba X i os) l c k ++ [(k,j)]:=by have:=aei fy (l:=l) (aeh hgr).2;rw[this];show _ ++ [(k,(fH l x).idxOf x)]=_;rw[PF]
    have aMf:¬kG br bm b6 LX o6' E' nx.succ:=fun hm=>by rcases (A4.ct hm).2 with⟨_,_,e⟩|e|⟨_,e⟩<;>rw[lk5]at e<;>cases e
    simp;refine⟨⟨none,lk5⟩,hT _ _ ⟨⟨fH l x,cC',c6',LX,o6',E',aMd,?_,?_⟩,by omega,fun b hb hm=>?_⟩⟩
    ·rw[Nx];refine A4.keep (gi _) fun b hb=>aD _ _ _ _ (fun e=>?_);rcases hb with hb|rfl
     ·exact aMf (by rw[←e];exact hb)
     ·have:=A.lt.1;rw[e]at this;omega
    ·intro b hb;rcases aMc b hb with h1|h1
     ·exact how b h1
     ·exact .inr (by omega)
    ·by_cases e:b=nx.succ
     ·subst e;simp;exact gl.symm
     ·rw[aD _ _ _ _ e,Ib b (by omega) (notM b hb hm),cZ b (by omega) e,J0.g b hb hm]
 ·rintro h1 bW J0;obtain⟨l,cC1,c61,oC1,o61,E1,hgr,A2,how⟩:=J0.a;have n1:=J0.n;have flk:ag nx.succ h1=some (.loop .ready none fn tm res [K 36,K 37] ca body nx):=by rw[J0.g nx.succ (by omega) (fun hm=>by have:=hM _ hm;omega)];exact gl
  have lkM:¬kG br bm b6 oC1 o61 E1 nx.succ:=fun hm=>by rcases (A2.ct hm).2 with⟨_,_,e⟩|e|⟨_,e⟩<;>rw[flk]at e<;>cases e
  refine⟨_,rfl,.ready,none,flk,by simp,?_⟩;refine TK nx _ _ _ l cC1 c61 oC1 o61 E1 rfl hgr ?_ (fun b hb=>?_) (D1.keep (by omega) fun b hb hg=>?_) (fun b hb hm=>?_) (by omega)
  ·refine A2.keep (gi _) fun b hb=>aD _ _ _ _ (fun e=>?_);rcases hb with hb|rfl
   ·exact lkM (by rw[←e];exact hb)
   ·have:=A.lt.1;rw[e]at this;omega
  ·rcases how b hb with h1|h1
   ·exact .inl h1
   ·exact .inr (by omega)
  ·have Ny:b≠nx.succ:=by rintro rfl;rw[gl]at hg;cases hg
   have hM0:¬kG br bm b6 oC none E b:=fun hm=>by rcases (A1.ct hm).2 with⟨_,_,e⟩|e|⟨_,e⟩<;>rw[hg]at e<;>cases e
   rw[aD _ _ _ _ Ny,J0.g b hb hM0];exact hg
  ·rw[aD _ _ _ _ (fun e=>by rw[e]at hb;omega),J0.g b (by omega) hm,Fk.g b hb]
end Ln
