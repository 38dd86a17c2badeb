/- A part of the proof. No condition. -/
import Derived.Test.YtecbfpngkfdkoaaGreatP34
set_option linter.unusedSimpArgs false
set_option linter.unusedVariables false
set_option linter.unusedSectionVars false
namespace Ln
open Go.Sx Go
def fsU(s:Nat)(l:List Nat)(k:Nat):Nat:=(List.range k).foldl (fun s j=>Nb s (word l j)) s
theorem apn(s:Nat)(l:List Nat)(k:Nat):fsU s l (k+1)=Nb (fsU s l k) (word l k):=by unfold fsU;rw[List.range_succ,List.foldl_append,List.foldl_cons,List.foldl_nil]
structure SmI(c:AV)(b1 b5 n0 d lk:Key)(h0:T ah)(ds:List Key)(L:ah)(v:AV)(h:T ah)(nx:Key):Prop where
 fl:ag lk h=some L
 f1:ag b1 h=QZ [c]
 f5:ag b5 h=QZ [v]
 lt:lk.toNat<nx.toNat∧b1.toNat<nx.toNat∧b5.toNat<nx.toNat
 ds:lX n0 (d ::ds) h nx
 e:Ext h0 n0 h nx
variable{C:bP}{X:Kn}(S:Std C X)(H:O0 C)
include S H
theorem akD{c:AV}{l:List Nat}(hc:nW 1 eY c l)(hl:l.length≤1000000){b1 b5 n0:Key}{h0:T ah}{s:Nat}{Q:qo}{ds:List Key}{tm:T AV}{h:T ah}{nx:Key}(g11:ag (K 11) tm=some (.fn dw [] [.ptr b1 0]))(g5:ag (K 5) tm=some (.ptr b5 0))(v1:ag b1 h=QZ [c])(v5:ag b5 h=QZ [lU s])(lt:b1.toNat<nx.toNat∧b5.toNat<nx.toNat)(P9:n0.toNat≤b5.toNat)(aK9:b1≠b5)(D:lX n0 ds h nx)(e0:Ext h0 n0 h nx)
  (TF:∀Ce h' nx',ag b5 h'=QZ [lU (fsU s l (nw l))]→b5.toNat<nx'.toNat→lX n0 Ce h' nx'→Ext h0 n0 h' nx'→Q .norm Ce tm h' nx') :
  V C (.rangeF (.t (K 11)) [K 12] (.ops cy) (.block 1 (.ops wJ))) Q ds tm h nx:=by
 have rM:=S.r gp;have s1:=kTSu nx;have s2:=kTSu nx.succ;have n0x:=e0.n;refine V.rangeF (g:=dw) (first:=[]) (cap:=[.ptr b1 0]) g11 H.mM.off ?_;intro fn res;have e1:=(E0 h nx (.dfs false)).trans (E0 _ nx.succ (.loop .ready none fn tm res [K 12] (.ops cy) (.block 1 (.ops wJ)) nx));generalize hb5:(aK.block 1 (.ops wJ))=body at *;have MW:nx∉ds:=fun hm=>by have:=D.lt nx hm;omega
 have gd:ag nx (qp fn tm res [K 12] (.ops cy) body h nx)=some (.dfs false):=by unfold qp;rw[aA (by omega)];simp
 have gl:ag nx.succ (qp fn tm res [K 12] (.ops cy) body h nx)=some (.loop .ready none fn tm res [K 12] (.ops cy) body nx):=by unfold qp;simp
 have Gi:Ext h nx (qp fn tm res [K 12] (.ops cy) body h nx) nx.succ.succ:=e1;generalize qp fn tm res [K 12] (.ops cy) body h nx=hL at *;refine S9 H hc hl (b1:=b1) (lk:=nx.succ) (Inv:=fun k h' nx'=>SmI c b1 b5 n0 nx nx.succ h0 ds (.loop .ready none fn tm res [K 12] (.ops cy) body nx) (lU (fsU s l k)) h' nx') ⟨?_,?_,?_⟩ ⟨gl,by rw[Gi.g _ lt.1];exact v1,by rw[Gi.g _ lt.2];exact v5,by omega,(D.ext Gi).cons MW gd n0x (by omega),e0.trans Gi⟩
 ·rintro k h1 bw A;exact A.f1
 ·rintro k h1 bw hk A;refine CI.intro (fun tm2 h2 bu=>bu=bw∧h2=h1∧ag (K 6) tm2=some (lU (word l k))∧ag (K 5) tm2=some (.ptr b5 0)) A.fl rfl ?_ ?_
  ·simp[cy,g5]
  ·rintro tm2 h2 bu ⟨rfl,rfl,g6,g5'⟩;refine⟨A.fl,?_⟩;have hn5:nx.succ≠b5:=fun e=>by have:=congrArg Key.toNat e;omega
   have v53:ag b5 (aw nx.succ (some (.loop .busy none fn tm res [K 12] (.ops cy) body nx)) h2)=QZ [lU (fsU s l k)]:=by rw[aP _ _ _ _ (fun e=>hn5 e.symm)];exact A.f5
   have lk3:ag nx.succ (aw nx.succ (some (.loop .busy none fn tm res [K 12] (.ops cy) body nx)) h2)=some (.loop .busy none fn tm res [K 12] (.ops cy) body nx):=by simp
   have nc2:∀b:Key,b≠nx.succ→ag b (aw nx.succ (some (.loop .busy none fn tm res [K 12] (.ops cy) body nx)) h2)=ag b h2:=fun b hb=>aP _ _ _ _ hb;generalize aw nx.succ (some (.loop .busy none fn tm res [K 12] (.ops cy) body nx)) h2=h3 at *;generalize hrq:K9 _ nx.succ fn tm res [K 12] (.ops cy) body nx=RQ;rw[←hb5];simp;simp[wJ,g6,g5',v53,rM];refine(Zb S H _ _).mono ?_;rintro o h4 kK ⟨rfl,rfl,rfl⟩;simp[g5',v53];rw[←hrq];have bW:b5≠nx.succ:=fun e=>hn5 e.symm;refine⟨⟨none,by rw[aP _ _ _ _ hn5];exact lk3⟩,rfl,?_⟩;have gb:∀b:Key,b≠nx.succ→b≠b5→ag b (aw nx.succ (some (.loop .ready none fn tm res [K 12] (.ops cy) body nx)) (aw b5 (QZ [lU (Nb (fsU s l k) (word l k))]) h4))=ag b h2:=fun b h1 h2=>by rw[aP _ _ _ _ h1,aP _ _ _ _ h2,nc2 b h1]
   have lkc:=A.fl;refine⟨by simp,?_,?_,A.lt,?_,?_⟩
   ·rw[gb b1 (fun e=>by rw[e]at lt;omega) aK9];exact A.f1
   ·rw[aP _ _ _ _ bW,gTSm,apn]
   ·refine A.ds.cv (fE _) fun b _ hg=>?_;rw[gb b (by rintro rfl;rw[A.fl]at hg;cases hg) (by rintro rfl;rw[A.f5]at hg;cases hg)];exact hg
   ·refine⟨A.e.n,fun b hb=>?_⟩;rw[gb b (fun e=>by rw[e]at hb;omega) (fun e=>by rw[e]at hb;omega)];exact A.e.g b hb
 ·rintro h1 bw A;refine⟨_,rfl,.ready,none,A.fl,by simp,?_⟩;refine TF _ _ _ ?_ A.lt.2.2 ?_ ?_
  ·rw[aP _ _ _ _ (fun e=>by have:=congrArg Key.toNat e;omega)];exact A.f5
  ·refine A.ds.cv (fE _) fun b _ hg=>?_;rw[aP _ _ _ _ (by rintro rfl;rw[A.fl]at hg;cases hg)];exact hg
  ·exact A.e.put (by omega)
def Zt:List Nat:=[118,97,108,117,101]
def fsW(s:Nat)(ws:List Int):Nat:=ws.foldl (fun s w=>Nb s (UC w)) s
def ajr(ws:List Int):Nat:=Nb (fsW (Nb (Nb (fsU 0 Zt (nw Zt)) 5) (UC (ws.length:Int))) ws) 0
omit S H in
theorem apo{s:Nat}{ws:List Int}{j:Nat}(hj:j<ws.length):fsW s (ws.take (j+1))=Nb (fsW s (ws.take j)) (UC ws[j]):=by unfold fsW;rw[zqu hj,List.foldl_append,List.foldl_cons,List.foldl_nil]
def aC8(c1:AV)(ws:List Int)(b5 n0:Key)(s:Nat)(h0:T ah)(ds:List Key)(m:Nat)(aD:T AV)(h':T ah)(nx':Key):Prop:=∃j:Nat,m=ws.length-j∧j≤ws.length∧ag (K 26) aD=some c1∧ag (K 27) aD=some (I ws.length)∧ag (K 28) aD=some (I j)∧ag (K 5) aD=some (.ptr b5 0)∧ag b5 h'=QZ [lU (fsW s (ws.take j))]∧b5.toNat<nx'.toNat∧Ext h0 n0 h' nx'∧lX n0 ds h' nx'
theorem agS{c1:AV}{ws:List Int}(hw:nW 1 eI c1 ws)(hl:ws.length≤1000000){b5 n0:Key}{s:Nat}{h0:T ah}{ds:List Key}(P9:n0.toNat≤b5.toNat){Q:cH}{m:Nat}{tm:T AV}{h:T ah}{nx:Key}(A:aC8 c1 ws b5 n0 s h0 ds m tm h nx)
  (gJ:∀aD h' nx',ag (K 5) aD=some (.ptr b5 0)→ag b5 h'=QZ [lU (fsW s ws)]→Ext h0 n0 h' nx'→lX n0 ds h' nx'→Q .norm aD h' nx') :
  W C (.loop H0) (aG 2 Q) tm h nx:=by
 have rM:=S.r gp;refine W.fh (aC8 c1 ws b5 n0 s h0 ds) A ?_;rintro m dc h1 bw ⟨j,rfl,hj,g26,g27,g28,g5,v5,lt5,e1,D1⟩;refine W.of ?_;simp[H0];by_cases da:j<ws.length
 ·have L1:(j:Int)<ws.length:=by omega
  have SZ:c1=.sl (aq eI ws) ws.length 1 .any:=by
   rcases hw with⟨_,e⟩|e
   ·rw[e]at da;simp at da
   ·exact e
  have hx:=ur da;have Is:1≤(aq eI ws).length-j:=by rw[fC];omega
  have fj:=apo (s:=s) da;have hcu:bD .u64 ws[j]=((UC ws[j]:Nat):Int):=OY _;simp[HZ,g27,g28,L1];simp[P5,g26,g28,SZ,da,hx,Is];simp[Nl,g5,v5,hcu,rM];refine(Zb S H _ _).mono ?_;rintro o h2 bu ⟨rfl,rfl,rfl⟩;simp[g5,v5];simp[Nn,g28];rw[aO (by omega) (by omega)];exact⟨ws.length-(j+1),by omega,j+1,rfl,by omega,by simp[g26,SZ],by simp[g27],by simp,by simp[g5],by rw[fj];simp,lt5,e1.put P9,D1.cv (fE _) fun b _ hg=>by rw[aP _ _ _ _ (by rintro rfl;rw[v5]at hg;cases hg)];exact hg⟩
 ·have Jk:j=ws.length:=by omega
  subst Jk;rw[List.take_length]at v5;simp[HZ,g27,g28];exact gJ _ _ _ (by simp[g5]) v5 e1 D1
theorem aiB(s w:Nat)(z:Int)(hz:z=(w:Int)){h:T ah}{nx:Key}:aJ C gp [lU s,.int .u64 (.lit z)] h nx (fun o h' nx'=>o=.ret (lU (Nb s w))∧h'=h∧nx'=nx):=by subst hz;exact Zb S H s w
theorem awu{c1:AV}{ws:List Int}(hw:nW 1 eI c1 ws)(hl:ws.length≤1000000){h:T ah}{nx:Key} :
  aJ C zM [.str 5 435761734006,c1] h nx (fun o h' nx'=>o=.ret (lU (ajr ws))∧Ext h nx h' nx'):=by
 have rM:=S.r gp;have rG:=S.r iZ;have s1:=kTSu nx;have hcL:nW 1 eY (.sl (aq eY Zt) 5 1 .any) Zt:=.inr rfl;have hbL:bytesOf 5 435761734006=aq eY Zt:=rfl;have hz:∀H,aS 9999 (.sl (aq eY Zt) 5 1 .any) H=(.sl (aq eY Zt) 5 1 .any,H):=fun H=>hcL.wU _ _;refine H.Tl.callV ?_;simp[Tm];simp[PZ];simp[P0];have e1:=E0 h nx (.cells [lU 0] .fix);have v5:ag nx (aw nx (QZ [lU 0]) h)=QZ [lU 0]:=by simp
 have hu0:(AV.int .u64 (.lit 0))=lU 0:=rfl;simp only[hu0];generalize aw nx (QZ [lU 0]) h=h1 at *;simp[P1,hbL,rG,hz];refine(WL H hcL).mono ?_;rintro o h2 bu ⟨rfl,v1,rfl,e2⟩;have s2:=kTSu nx.succ;simp;have v52:ag nx h2=QZ [lU 0]:=by rw[e2.g nx (by omega)];exact v5
 refine akD S H hcL (by decide) (b1:=nx.succ) (b5:=nx) (n0:=nx) (h0:=h) (s:=0) ?_ ?_ v1 v52 (by omega) (fE _) (fun e=>by have:=congrArg Key.toNat e;omega) (lX.nil _ _ _) (e1.trans e2) ?_
 ·simp
 ·simp
 intro ds h3 dZ v53 lt3 D3 e3;have hw5:bD .u64 5=((5:Nat):Int):=by decide
 generalize hs0:fsU 0 Zt (nw Zt)=s0 at *;simp;simp[P2,v53,hw5,rM];refine(aiB S H s0 5 5 (by omega)).mono ?_;rintro o h4 kK ⟨rfl,rfl,rfl⟩;have hwl:bD .u64 (ws.length:Int)=((UC (ws.length:Int):Nat):Int):=OY _;generalize hs1:Nb s0 5=s1' at *;simp[v53];have e4:Ext h nx (aw nx (QZ [lU s1']) h4) kK:=e3.put (fE _);have v54:ag nx (aw nx (QZ [lU s1']) h4)=QZ [lU s1']:=by simp
 have D4:lX nx ds (aw nx (QZ [lU s1']) h4) kK:=D3.cv (fE _) fun b _ hg=>by rw[aP _ _ _ _ (by rintro rfl;rw[v53]at hg;cases hg)];exact hg
 generalize aw nx (QZ [lU s1']) h4=h5 at *;have hR:=hw.rd h5 kK;simp[↓hR.ln,P3,v54,hwl,rM];refine(Zb S H s1' (UC (ws.length:Int))).mono ?_;rintro o h6 Dx ⟨rfl,rfl,rfl⟩;generalize hs2:Nb s1' (UC (ws.length:Int))=s2' at *;simp[v54];have e6:Ext h nx (aw nx (QZ [lU s2']) h6) Dx:=e4.put (fE _);have v56:ag nx (aw nx (QZ [lU s2']) h6)=QZ [lU s2']:=by simp
 have D6:lX nx ds (aw nx (QZ [lU s2']) h6) Dx:=D4.cv (fE _) fun b _ hg=>by rw[aP _ _ _ _ (by rintro rfl;rw[v54]at hg;cases hg)];exact hg
 generalize aw nx (QZ [lU s2']) h6=h7 at *;have hR7:=hw.rd h7 Dx;simp[↓hR7.ln,P4];have hz0:fsW s2' (ws.take 0)=s2':=by rw[List.take_zero];unfold fsW;rw[List.foldl_nil]
 refine V.aCB (agS S H hw hl (b5:=nx) (n0:=nx) (s:=s2') (h0:=h) (ds:=ds) (m:=ws.length) (fE _) ⟨0,by simp,by omega,by simp,by simp,by simp,by simp,by rw[hz0];exact v56,by omega,e6,D6⟩ ?_);have adI:ajr ws=Nb (fsW s2' ws) 0:=by unfold ajr;rw[hs0,hs1,hs2]
 rw[adI];generalize fsW s2' ws=fw;intro aD h8 nx8 g5 v8 e8 D8;simp;simp[No,g5,v8,rM];refine(aiB S H fw 0 0 (by omega)).mono ?_;rintro o h9 nx9 ⟨rfl,rfl,rfl⟩;generalize Nb fw 0=fz;simp;refine⟨D8.nodup,D8.get,fun h10 h11=>?_⟩;refine⟨[lU fz],by simp,rfl,e8.n,fun b hb=>?_⟩;have:b∉ds:=fun hm=>by have:=D8.ge b hm;omega
 simp;rw[h11 b this];exact e8.g b hb
end Ln
namespace Ln
open Go.Sx Go
theorem aaT{bb:Key}{ws:List Int}{rest:List AV}{h:T ah}{nx:Key}(hb:ag bb h=QZ (aq eI ws++rest))(hr:0<rest.length)(hl:ws.length+1≤1048576)(x:Int) :
  appendTo 1 (.slice bb 0 ws.length 1) [I x] 1 h nx=.val (.slice bb 0 (ws.length+1) 1) (aw bb (QZ (aq eI (ws ++ [x])++rest.drop 1)) h) nx:=by
 have hlen:=fC ws;have h1:ws.length+1≤ws.length+rest.length:=by omega
 have ht:List.take ws.length (aq eI ws++rest)=aq eI ws:=by rw[List.take_append_of_le_length (by omega),Lm (by omega)]
 have hd:List.drop (ws.length+1) (aq eI ws++rest)=rest.drop 1:=by rw[zqq,List.drop_eq_nil_of_le (by omega),hlen,List.nil_append];congr 1;omega
 have hra:aq eI (ws ++ [x])=aq eI ws ++ [I x]:=by rw[ju,iC];rfl
 simp[hb,hl,hlen,h1,ht,hd,hra]
theorem amI{n:Nat}{b:Key}{len:Nat}{l:List AV}{H:T ah}(hg:ag b H=QZ l)(hl:len≤l.length)(hs:∀x∈l.take len,KD x):aS (n+1) (.slice b 0 len 1) H=(.sl (l.take len) len 1 .any,aw b (some (.cells l .ro)) H):=by simp only[aS,JC,hg,List.drop_zero];rw[if_pos (by omega),Nat.mul_one,bF hs]
theorem amH(n:Nat)(x:AV):(KI n [x] []).length=n:=by rw[repL_eq,List.append_nil];simp
def Of(l:List Nat)(k:Nat):List Int:=(List.range k).map fun j=>bD .i64 (word l j:Int)
theorem Tg(l:List Nat)(k:Nat):(Of l k).length=k:=by simp[Of]
theorem ajU(l:List Nat)(k:Nat):Of l (k+1)=Of l k ++ [bD .i64 (word l k:Int)]:=by unfold Of;rw[List.range_succ,List.map_append,ZC,List.map_nil]
def aaz(l:List Nat):Nat:=ajr (Of l (nw l) ++ [(l.length:Int)])
structure ByI(c:AV)(l:List Nat)(b1 b5 bb n0 d lk:Key)(h0:T ah)(ds:List Key)(L:ah)(cap:Nat)(k:Nat)(h:T ah)(nx:Key):Prop where
 fl:ag lk h=some L
 f1:ag b1 h=QZ [c]
 f5:ag b5 h=QZ [.slice bb 0 k 1]
 fb:∃rest,ag bb h=QZ (aq eI (Of l k)++rest)∧k+rest.length=cap
 ds:lX n0 (d ::ds) h nx
 e:Ext h0 n0 h nx
variable{C:bP}{X:Kn}(S:Std C X)(H:O0 C)
include S H
theorem aaS{c:AV}{l:List Nat}(hc:nW 1 eY c l)(hl:l.length≤1000000){b1 b5 bb n0:Key}{h0:T ah}{cap:Nat}(BT:nw l+1≤cap){Q:qo}{ds:List Key}{tm:T AV}{h:T ah}{nx:Key}(g13:ag (K 13) tm=some (.fn dw [] [.ptr b1 0]))(g5:ag (K 5) tm=some (.ptr b5 0))(v1:ag b1 h=QZ [c])(v5:ag b5 h=QZ [.slice bb 0 0 1])(vb:∃rest,ag bb h=QZ rest∧rest.length=cap)(o1:bb.toNat<b5.toNat)(o2:b5.toNat<b1.toNat)(o3:b1.toNat<nx.toNat)(P9:n0.toNat≤bb.toNat)(D:lX n0 ds h nx)(e0:Ext h0 n0 h nx)
  (TF:∀Ce h' nx' rest,ag b5 h'=QZ [.slice bb 0 (nw l) 1]→ag bb h'=QZ (aq eI (Of l (nw l))++rest)→nw l+rest.length=cap→nx.toNat≤nx'.toNat→lX n0 Ce h' nx'→Ext h0 n0 h' nx'→Q .norm Ce tm h' nx') :
  V C (.rangeF (.t (K 13)) [K 14] (.ops bS) (.block 1 (.ops oy))) Q ds tm h nx:=by
 have s1:=kTSu nx;have s2:=kTSu nx.succ;have n0x:=e0.n;refine V.rangeF (g:=dw) (first:=[]) (cap:=[.ptr b1 0]) g13 H.mM.off ?_;intro fn res;have e1:=(E0 h nx (.dfs false)).trans (E0 _ nx.succ (.loop .ready none fn tm res [K 14] (.ops bS) (.block 1 (.ops oy)) nx));generalize hb5:(aK.block 1 (.ops oy))=body at *;have MW:nx∉ds:=fun hm=>by have:=D.lt nx hm;omega
 have gd:ag nx (qp fn tm res [K 14] (.ops bS) body h nx)=some (.dfs false):=by unfold qp;rw[aA (by omega)];simp
 have gl:ag nx.succ (qp fn tm res [K 14] (.ops bS) body h nx)=some (.loop .ready none fn tm res [K 14] (.ops bS) body nx):=by unfold qp;simp
 have Gi:Ext h nx (qp fn tm res [K 14] (.ops bS) body h nx) nx.succ.succ:=e1;generalize qp fn tm res [K 14] (.ops bS) body h nx=hL at *;obtain⟨rest,vb1,vb2⟩:=vb;refine S9 H hc hl (b1:=b1) (lk:=nx.succ) (Inv:=fun k h' nx'=>ByI c l b1 b5 bb n0 nx nx.succ h0 ds (.loop .ready none fn tm res [K 14] (.ops bS) body nx) cap k h' nx'∧nx.succ.succ.toNat≤nx'.toNat) ⟨?_,?_,?_⟩ ⟨⟨gl,by rw[Gi.g _ o3];exact v1,by rw[Gi.g _ (by omega)];exact v5,⟨rest,by rw[Gi.g _ (by omega)];exact vb1,by omega⟩,(D.ext Gi).cons MW gd n0x (by omega),e0.trans Gi⟩,fE _⟩
 ·rintro k h1 bw ⟨A,_⟩;exact A.f1
 ·rintro k h1 bw hk ⟨A,hn1⟩;refine CI.intro (fun tm2 h2 bu=>bu=bw∧h2=h1∧ag (K 6) tm2=some (lU (word l k))∧ag (K 5) tm2=some (.ptr b5 0)) A.fl rfl ?_ ?_
  ·simp[bS,g5]
  ·rintro tm2 h2 bu ⟨rfl,rfl,g6,g5'⟩;refine⟨A.fl,?_⟩;obtain⟨rs,fb,hrs⟩:=A.fb;have t2:=kTSu bu;have n5:b5≠nx.succ:=fun e=>by rw[e]at o2;omega
   have nb:bb≠nx.succ:=fun e=>by rw[e]at o1;omega
   have n1:b1≠nx.succ:=fun e=>by rw[e]at o3;omega
   have n15:b1≠b5:=fun e=>by rw[e]at o2;omega
   have n1b:b1≠bb:=fun e=>by rw[e]at o2;omega
   have n5b:b5≠bb:=fun e=>by rw[e]at o1;omega
   have v53:ag b5 (aw nx.succ (some (.loop .busy none fn tm res [K 14] (.ops bS) body nx)) h2)=QZ [.slice bb 0 k 1]:=by rw[aP _ _ _ _ n5];exact A.f5
   have lk3:ag nx.succ (aw nx.succ (some (.loop .busy none fn tm res [K 14] (.ops bS) body nx)) h2)=some (.loop .busy none fn tm res [K 14] (.ops bS) body nx):=by simp
   have nc2:∀b:Key,b≠nx.succ→ag b (aw nx.succ (some (.loop .busy none fn tm res [K 14] (.ops bS) body nx)) h2)=ag b h2:=fun b hb=>aP _ _ _ _ hb;generalize aw nx.succ (some (.loop .busy none fn tm res [K 14] (.ops bS) body nx)) h2=h3 at *;generalize hrq:K9 _ nx.succ fn tm res [K 14] (.ops bS) body nx=RQ;rw[←hb5];have hsu:=ajU l k;generalize hwz:bD .i64 (word l k:Int)=wz at *;have ap:=aaT (bb:=bb) (ws:=Of l k) (rest:=rs) (h:=aw bu (QZ [I wz]) h3) (nx:=bu.succ) (by rw[aA (by omega),nc2 bb nb];exact fb) (by omega) (by rw[Tg];unfold nw at hk;omega) wz;rw[Tg]at ap;have v54:∀B,ag b5 (aw bb B (aw bu (QZ [I wz]) h3))=QZ [.slice bb 0 k 1]:=fun B=>by rw[aP _ _ _ _ n5b,aA (by omega)];exact v53
   simp;simp[-appendTo,oy,g6,g5',v53,hwz,ap,v54];rw[←hrq];have gq:∀b:Key,b.toNat<bu.toNat→b≠b5→b≠bb→b≠nx.succ→∀B1 B2 B3 B4,ag b (aw nx.succ B4 (aw b5 B3 (aw bb B2 (aw bu B1 h3))))=ag b h2:=fun b h0 h1 h2 h3 B1 B2 B3 B4=>by rw[aP _ _ _ _ h3,aP _ _ _ _ h1,aP _ _ _ _ h2,aA h0,nc2 b h3]
   refine⟨⟨none,by rw[aP _ _ _ _ (Ne.symm n5),aP _ _ _ _ (Ne.symm nb),aA (by omega)];exact lk3⟩,rfl,⟨by simp,?_,?_,?_,?_,?_⟩,by omega⟩
   ·rw[gq b1 (by omega) n15 n1b n1];exact A.f1
   ·rw[aP _ _ _ _ n5,gTSm]
   ·refine⟨rs.tail,?_,?_⟩
    ·rw[aP _ _ _ _ nb,aP _ _ _ _ (Ne.symm n5b),gTSm,hsu]
    ·rw[List.length_tail];omega
   ·refine A.ds.cv (by omega) fun b hb hg=>?_;rw[gq b hb (by rintro rfl;rw[A.f5]at hg;cases hg) (by rintro rfl;rw[fb]at hg;cases hg) (by rintro rfl;rw[A.fl]at hg;cases hg)];exact hg
   ·have nA:=A.e.n;refine⟨by omega,fun b hb=>?_⟩;rw[gq b (by omega) (fun e=>by rw[e]at hb;omega) (fun e=>by rw[e]at hb;omega) (fun e=>by rw[e]at hb;omega)];exact A.e.g b hb
 ·rintro h1 bw ⟨A,hn1⟩;obtain⟨rs,fb,hrs⟩:=A.fb;refine⟨_,rfl,.ready,none,A.fl,by simp,?_⟩;refine TF _ _ _ rs ?_ ?_ hrs (by omega) ?_ ?_
  ·rw[aP _ _ _ _ (fun e=>by rw[e]at o2;omega)];exact A.f5
  ·rw[aP _ _ _ _ (fun e=>by rw[e]at o1;omega)];exact fb
  ·refine A.ds.cv (fE _) fun b _ hg=>?_;rw[aP _ _ _ _ (by rintro rfl;rw[A.fl]at hg;cases hg)];exact hg
  ·exact A.e.put (by omega)
end Ln
namespace Ln
open Go.Sx Go
variable{C:bP}{X:Kn}(S:Std C X)(H:O0 C)
include S H
theorem amb{c:AV}{l:List Nat}(hc:nW 1 eY c l)(hl:l.length≤1000000){h:T ah}{nx:Key} :
  aJ C qS [.str 5 435761734006,c] h nx (fun o h' nx'=>o=.ret (lU (aaz l))∧Ext h nx h' nx'):=by
 have rG:=S.r iZ;have rS:=S.r zM;have s1:=kTSu nx;have s2:=kTSu nx.succ;have s3:=kTSu nx.succ.succ;have hcz:∀H,aS 9999 c H=(c,H):=fun H=>hc.wU _ _;have hR:=hc.rd h nx;obtain⟨q,hqd⟩:∃q,q=l.length / 8:=⟨_,rfl⟩;obtain⟨cap,hcd⟩:∃cap,cap=q+2:=⟨_,rfl⟩;have hq:bD .i64 ((l.length:Int) / 8)=(q:Int):=by
  have:(l.length:Int) / 8=(q:Int):=by omega
  rw[this];exact aO (by omega) (by omega)
 have hq2:bD .i64 ((q:Int)+2)=(cap:Int):=by
  have:(q:Int)+2=(cap:Int):=by omega
  rw[this];exact aO (by omega) (by omega)
 have BT:nw l+1≤cap:=by unfold nw;omega
 have SZ:cap≤1048576:=by omega
 have aHG:qL (AV.int .i64 (.lit (cap:Int)))=some cap:=rfl;refine H.MF.callV ?_;simp[KR];simp[Jw];have hrl:=amH cap (I 0);simp[↓hR.ln,Jx,hq,hq2,SZ,aHG,-repL_eq]
 try simp only[show(AV.int IntKind.i64 (SI.lit 0))=I 0 from rfl]
 have e2:=(E0 h nx (.cells (KI cap [I 0] []) .fix)).trans (E0 _ nx.succ (.cells [.slice nx 0 0 1] .fix));have bb2:ag nx (aw nx.succ (QZ [.slice nx 0 0 1]) (aw nx (QZ (KI cap [I 0] [])) h))=QZ (KI cap [I 0] []):=by rw[aA (by omega)];simp
 have b52:ag nx.succ (aw nx.succ (QZ [.slice nx 0 0 1]) (aw nx (QZ (KI cap [I 0] [])) h))=QZ [.slice nx 0 0 1]:=by simp
 generalize KI cap [I 0] []=R0 at *;generalize aw nx.succ (QZ [.slice nx 0 0 1]) (aw nx (QZ R0) h)=h2 at *;simp[Jy,rG,hcz];refine(WL H hc).mono ?_;rintro o h3 dZ ⟨rfl,v1,rfl,e3⟩;simp;have b53:ag nx.succ h3=QZ [.slice nx 0 0 1]:=by rw[e3.g _ (by omega)];exact b52
 have bb3:ag nx h3=QZ R0:=by rw[e3.g _ (by omega)];exact bb2
 refine aaS S H hc hl (b1:=nx.succ.succ) (b5:=nx.succ) (bb:=nx) (n0:=nx) (h0:=h) (cap:=cap) BT ?_ ?_ v1 b53 ⟨R0,bb3,hrl⟩ (by omega) (by omega) (by omega) (fE _) (lX.nil _ _ _) (e2.trans e3) ?_
 ·simp
 ·simp
 intro ds h4 kK rest v54 vb4 aNB hn4 D4 e4;have s4:=kTSu kK;have hwl:=Tg l (nw l);have ap:=aaT (bb:=nx) (ws:=Of l (nw l)) (rest:=rest) (h:=aw kK (QZ [I (l.length:Int)]) h4) (nx:=kK.succ) (by rw[aA (by omega)];exact vb4) (by omega) (by omega) (l.length:Int);have hlw:(Of l (nw l) ++ [(l.length:Int)]).length=nw l+1:=by rw[DG,hwl];rfl
 have hhu:aaz l=ajr (Of l (nw l) ++ [(l.length:Int)]):=rfl;rw[hhu];rw[hwl]at ap;generalize hwz:Of l (nw l) ++ [(l.length:Int)]=ws at *;have n5b:nx.succ≠nx:=fun e=>by have:=congrArg Key.toNat e;omega
 have v55:∀B,ag nx.succ (aw nx B (aw kK (QZ [I (l.length:Int)]) h4))=QZ [.slice nx 0 (nw l) 1]:=fun B=>by rw[aP _ _ _ _ n5b,aA (by omega)];exact v54
 have v56:ag nx.succ (aw kK (QZ [I (l.length:Int)]) h4)=QZ [.slice nx 0 (nw l) 1]:=by rw[aA (by omega)];exact v54
 have hR4:=hc.rd h4 kK;simp;simp[-appendTo,↓hR4.ln,Jz,v54,v55,v56,ap];have e5:Ext h nx (aw nx.succ (QZ [.slice nx 0 (nw l+1) 1]) (aw nx (QZ (aq eI ws++rest.tail)) (aw kK (QZ [I (l.length:Int)]) h4))) kK.succ:=((((e4.trans (E0 h4 kK _)).put (fE _)).put (by omega)));have w5:ag nx.succ (aw nx.succ (QZ [.slice nx 0 (nw l+1) 1]) (aw nx (QZ (aq eI ws++rest.tail)) (aw kK (QZ [I (l.length:Int)]) h4)))=QZ [.slice nx 0 (nw l+1) 1]:=by simp
 have wb:ag nx (aw nx.succ (QZ [.slice nx 0 (nw l+1) 1]) (aw nx (QZ (aq eI ws++rest.tail)) (aw kK (QZ [I (l.length:Int)]) h4)))=QZ (aq eI ws++rest.tail):=by rw[aP _ _ _ _ (Ne.symm n5b),gTSm]
 have D5:lX nx ds (aw nx.succ (QZ [.slice nx 0 (nw l+1) 1]) (aw nx (QZ (aq eI ws++rest.tail)) (aw kK (QZ [I (l.length:Int)]) h4))) kK.succ:=D4.cv (by omega) fun b hb hg=>by rw[aP _ _ _ _ (by rintro rfl;rw[v54]at hg;cases hg),aP _ _ _ _ (by rintro rfl;rw[vb4]at hg;cases hg),aA hb];exact hg
 generalize aw nx.succ (QZ [.slice nx 0 (nw l+1) 1]) (aw nx (QZ (aq eI ws++rest.tail)) (aw kK (QZ [I (l.length:Int)]) h4))=h5 at *;have aQ9:(aq eI ws).length=nw l+1:=by rw[fC,hlw]
 have Nu:List.take (nw l+1) (aq eI ws++rest.tail)=aq eI ws:=by rw[List.take_append_of_le_length (by omega),Lm (by omega)]
 have hz:=amI (n:=9998) (b:=nx) (len:=nw l+1) (H:=h5) wb (by rw[DG];omega) (by rw[Nu];exact L0.FM ws);rw[Nu]at hz;have hw:nW 1 eI (.sl (aq eI ws) (nw l+1) 1 .any) ws:=.inr (by rw[hlw]);have e6:Ext h nx (aw nx (some (.cells (aq eI ws++rest.tail) .ro)) h5) kK.succ:=e5.put (fE _);have D6:lX nx ds (aw nx (some (.cells (aq eI ws++rest.tail) .ro)) h5) kK.succ:=D5.cv (fE _) fun b _ hg=>by rw[aP _ _ _ _ (by rintro rfl;rw[wb]at hg;cases hg)];exact hg
 simp[JA,w5,rS,hz];refine(awu S H hw (by omega)).mono ?_;rintro o h7 nx7 ⟨rfl,e7⟩;have e67:=e6.trans e7;have D7:=D6.ext e7;generalize ajr ws=fz at *;simp;refine⟨D7.nodup,D7.get,fun h10 h11=>?_⟩;refine⟨[lU fz],by simp,rfl,e67.n,fun b hb=>?_⟩;have:b∉ds:=fun hm=>by have:=D7.ge b hm;omega
 simp;rw[h11 b this];exact e67.g b hb
end Ln
namespace Ln
open Go.Sx Go
def avm:Int→Int
 |.ofNat a=>.ofNat (Nat.div a (Nat.pow 2 63))
 |.negSucc a=>.negSucc (Nat.div a (Nat.pow 2 63))
section
variable{C:bP}{Q:cH}{L:List aC}{tm:T AV}{h:T ah}{nx d x y:Key}
theorem als(a:Nat)(h1:ag x tm=some (lU a)):qy C Q (⟨some d,.bin .shl (.t x) (.v (.int .u64 (.lit 1))),none⟩ ::L) tm h nx=qy C Q L (aw d (some (lU (adP a 1))) tm) h nx:=
 tU (by simp only[lightOp,at_t,at_v,h1];show some (AV.int .u64 (.lit (bD .u64 (Int.mul (a:Int) (.ofNat (Nat.pow 2 1))))))=_;rw[OY];rfl)
theorem aiL(n:Int)(h1:ag x tm=some (I n)):qy C Q (⟨some d,.bin .shr (.t x) (.v (.int .u64 (.lit 63))),none⟩ ::L) tm h nx=qy C Q L (aw d (some (I (avm n))) tm) h nx:=
 tU (by simp only[lightOp,at_t,at_v,h1];cases n<;>rfl)
end
def zzE(n:Int):Nat:=Qg (adP (UC n) 1) (UC (avm n))
theorem avn(n:Int):zzE n<18446744073709551616:=Nat.mod_lt _ (by decide)
def OZ(n:Int):List Nat:=vu (zzE n)
theorem ag4:∀(k n:Nat),(vuF k n).length≤k+1
 |0,_=>by simp[vuF]
 |k+1,n=>by
  rw[vuF];split
  ·simp
  ·rw[ZW];have:=ag4 k (n / 128);omega
theorem AQ(n:Int):(OZ n).length≤11:=ag4 10 _
variable{C:bP}{X:Kn}(S:Std C X)(H:O0 C)
include S H
theorem adQ{w:Key}{c:AV}{bs:List Nat}{h:T ah}{nx n0:Key}(Ws:WS w c bs h nx n0)(hl:bs.length≤100000)(n:Int) :
  aJ C cZ [.ptr w 0,I n] h nx (jr w (bs++OZ n) h nx n0):=by
 have rU:=S.r fG;have hcu:∀n,bD .u64 n=((UC n:Nat):Int):=OY;refine H.AR.call ?_;simp[wS];simp[zb,hcu,↓als (UC n),↓aiL n,↓Xz (adP (UC n) 1) (UC (avm n)),rU];refine(alu H.zd Ws (avn n) hl).mono ?_;rintro o h3 dZ ⟨rfl,hW⟩;simp;exact⟨rfl,hW⟩
theorem aql{w:Key}{c:AV}{bs:List Nat}{h:T ah}{nx n0:Key}(Ws:WS w c bs h nx n0)(hl:bs.length≤100000)(b:Bool) :
  aJ C gY [.ptr w 0,.bool b] h nx (jr w (bs ++ [if b=true then 1 else 0]) h nx n0):=by
 have s1:=kTSu nx;refine H.ze.call ?_;simp[tV];have key:∀y:Nat,∃c' h' nx',appendTo 1 c [.int .u8 (.lit (y:Int))] 1 (aw nx (QZ [.int .u8 (.lit (y:Int))]) h) nx.succ=.val c' h' nx'∧c'.aM=true∧c'.cells=[c']∧ag w h'=QZ [c]∧WS w c' (bs ++ [y]) (aw w (QZ [c']) h') nx' n0∧nx.toNat≤nx'.toNat∧(∀b:Key,b.toNat<n0.toNat→ag b (aw w (QZ [c']) h')=ag b h)∧XA w h nx (aw w (QZ [c']) h'):=by intro y;obtain⟨c2,h2,bu,g,x1,x2,x3,W2,x5,x6,x7⟩:=(Ws.ext (E0 h nx (.cells [.int .u8 (.lit (y:Int))] .fix))).add [y] (by simp;omega);have GL:aq eY [y]=[.int .u8 (.lit (y:Int))]:=iC _ _;rw[GL]at g;exact⟨c2,h2,bu,g,x1,x2,x3,W2,by omega,fun b hb=>by rw[x6 b hb,aA (by have:=Ws.n;omega)],(XA.new w h nx _).trans (by omega) x7⟩
 cases b with
 |true=>obtain⟨c2,h2,bu,g,x1,x2,x3,W2,x5,x6,x7⟩:=key 1;simp[-appendTo]at g;simp[nL];simp[-appendTo,xB,Ws.at_,g,x1,x2,x3];exact⟨rfl,c2,W2,x5,x6,x7⟩
 |false=>obtain⟨c2,h2,bu,g,x1,x2,x3,W2,x5,x6,x7⟩:=key 0;simp[-appendTo]at g;simp[nL];simp[-appendTo,xC,Ws.at_,g,x1,x2,x3];exact⟨rfl,c2,W2,x5,x6,x7⟩
end Ln
namespace Ln
open Go.Sx Go
theorem jr.lift{w n0:Key}{bs:List Nat}{h h1 h':T ah}{nx bw nx':Key}{o:Out}(e:Ext h nx h1 bw)(hn:n0.toNat≤nx.toNat)(W:jr w bs h1 bw n0 o h' nx'):jr w bs h nx n0 o h' nx':=by obtain⟨ho,c',W,hx,hf,hk⟩:=W;have n:=e.n;exact⟨ho,c',W,by omega,fun b hb=>by rw[hf b hb,e.g b (by omega)],(Ext.kp e w).trans (by omega) hk⟩
def stU(u:U):St:=⟨u.k,u.n,[]⟩
theorem axa(u:U):eS (stU u)=eU u:=rfl
variable{C:bP}{X:Kn}(S:Std C X)(H:O0 C)
include S H
theorem arx{w:Key}{c:AV}{bs:List Nat}{h:T ah}{nx n0:Key}(Ws:WS w c bs h nx n0)(hl:bs.length≤100000)(s:St) :
  aJ C dF [.ptr w 0,.agg (eS s)] h nx (jr w (bs++OZ s.n) h nx n0):=by
 have rI:=S.r cZ;have s1:=kTSu nx;refine H.tu.call ?_;simp[nS];simp[rY,CB,lenS];have e1:=E0 h nx (.cells (eS s) .fix);have b1:ag nx (aw nx (QZ (eS s)) h)=QZ (eS s):=by simp
 have W1:=Ws.ext e1;generalize aw nx (QZ (eS s)) h=h1 at *;have es1:(eS s)[1]?=some (I s.n):=rfl;simp[rZ,b1,es1,rI];refine(adQ S H W1 hl s.n).mono ?_;rintro o h2 bu W2;have W3:=jr.lift e1 Ws.n W2;obtain⟨rfl,hW⟩:=W2;simp;exact W3
theorem ary{w:Key}{c:AV}{bs:List Nat}{h:T ah}{nx n0:Key}(Ws:WS w c bs h nx n0)(hl:bs.length≤100000)(s:St) :
  aJ C dW [.ptr w 0,.agg (eS s)] h nx (jr w (bs ++ [if s.n=1 then 1 else 0]) h nx n0):=by
 have rI:=S.r gY;have s1:=kTSu nx;refine H.wc.call ?_;simp[pI];simp[tC,CB,lenS];have e1:=E0 h nx (.cells (eS s) .fix);have b1:ag nx (aw nx (QZ (eS s)) h)=QZ (eS s):=by simp
 have W1:=Ws.ext e1;generalize aw nx (QZ (eS s)) h=h1 at *;have es1:(eS s)[1]?=some (I s.n):=rfl;simp[tD,b1,es1,rI];have hb:=aql S H W1 hl (decide (s.n=1));simp at hb;refine hb.mono ?_;rintro o h2 bu W2;have W3:=jr.lift e1 Ws.n W2;obtain⟨rfl,hW⟩:=W2;simp;exact W3
theorem arz{w:Key}{h:T ah}{nx:Key}:aJ C fW [.ptr w 0] h nx (fun o h' nx'=>o=.ret (.agg [.fn dF [.ptr w 0] [],.fn dW [.ptr w 0] [],.fn dx [.ptr w 0] [],.fn yn [.ptr w 0] []])∧Ext h nx h' nx'):=by have s1:=kTSu nx;refine H.wa.call ?_;simp[pH];simp[tE];simp[tF];exact(E0 h nx _)
end Ln
namespace Ln
open Go.Sx Go
variable{C:bP}{X:Kn}(S:Std C X)(H:O0 C)
include S H
theorem abk{w:Key}{c:AV}{bs:List Nat}{h:T ah}{nx n0:Key}(Ws:WS w c bs h nx n0)(hl:bs.length≤90000){s:St}{en:List Nat}
  (hk:(s.k=0∧en=OZ s.n)∨(s.k=1∧en=[if s.n=1 then 1 else 0])∨(s.k=2∧∀{c':AV} {bs':List Nat} {h':T ah} {nx':Key},WS w c' bs' h' nx' n0→bs'.length≤bs.length+11→aJ C dx [.ptr w 0,.agg (eS s)] h' nx' (jr w (bs'++en) h' nx' n0))) :
  aJ C bH [.ptr w 0,.agg (eS s)] h nx (jr w (bs++OZ s.k++en) h nx n0):=by
 have rI:=S.r cZ;have rK:=S.r fW;have r0:=S.r dF;have r1:=S.r dW;have r2:=S.r dx;have s1:=kTSu nx;refine H.v7.call ?_;simp[pG];simp[tG,CB,lenS];have e1:=E0 h nx (.cells (eS s) .fix);have b1:ag nx (aw nx (QZ (eS s)) h)=QZ (eS s):=by simp
 have W1:=Ws.ext e1;generalize aw nx (QZ (eS s)) h=h1 at *;have es0:(eS s)[0]?=some (I s.k):=rfl;have abl:(eS s).head?=some (I s.k):=rfl;simp[tH,b1,es0,abl,rI];refine(adQ S H W1 (by omega) s.k).mono ?_;rintro o h2 bu ⟨rfl,c2,W2,hn2,hf2,ZF⟩;have b2:ag nx h2=QZ (eS s):=by have hw:=Ws.hi;rw[ZF nx (by omega) (fun e=>by rw[e]at hw;omega) (fun B hB=>by rw[b1]at hB;cases hB;exact⟨by simp,by simp⟩)];exact b1
 have ahL:=AQ s.k;have fin:∀{o h' nx'},jr w (bs++OZ s.k++en) h2 bu n0 o h' nx'→jr w (bs++OZ s.k++en) h nx n0 o h' nx':=by rintro o h' nx' ⟨ho,c',W',hx,hf,Jn⟩;exact jr.lift e1 Ws.n ⟨ho,c',W',by omega,fun b hb=>by rw[hf b hb,hf2 b hb],ZF.trans hn2 Jn⟩
 simp;simp[tI,b2,es0,abl,lenS,zv,rK];refine(arz S H).mono ?_;rintro o h3 dZ ⟨rfl,e3⟩;have n3:=e3.n;have W3:=W2.ext e3;have b3:ag nx h3=QZ (eS s):=by rw[e3.g nx (by omega)];exact b2
 have bq:AV.beq (.agg (eS s)) (.agg (eS s))=true:=awa s;have bk:AV.beq (I s.k) (I s.k)=true:=beq_refl _ rfl;have aBL:∀{o h' nx'},jr w (bs++OZ s.k++en) h3 dZ n0 o h' nx'→jr w (bs++OZ s.k++en) h nx n0 o h' nx':=fun W=>fin (jr.lift e3 W2.n W);have XG:(bs++OZ s.k).length≤100000:=by rw[DG];omega
 have aJy:(bs++OZ s.k).length≤bs.length+11:=by rw[DG];omega
 have ha:bs++OZ s.k++en=bs++(OZ s.k++en):=List.append_assoc _ _ _;rw[ha]at aBL;have axq:∀{o h' nx'},jr w (bs++OZ s.k++en) h3 dZ n0 o h' nx'→o=.ret (.tuple [])∧jr w (bs++(OZ s.k++en)) h nx n0 (.ret (.tuple [])) h' nx':=fun W=>by rw[ha]at W;have W':=aBL W;obtain⟨rfl,_⟩:=W;exact⟨rfl,W'⟩
 generalize FQ:OZ s.k=ek at *;rcases hk with⟨k0,rfl⟩|⟨k0,rfl⟩|⟨k0,hL⟩
 ·rw[k0]at es0 abl bk;simp[b3,es0,abl,lenS,zv,bq,bk,r0,Cx,k0];refine(arx S H W3 XG s).mono ?_;rintro o h4 kK W4;obtain⟨rfl,W5⟩:=axq W4;simp;exact W5
 ·rw[k0]at es0 abl bk;simp[b3,es0,abl,lenS,zv,bq,bk,r1,Cx,k0];refine(ary S H W3 XG s).mono ?_;rintro o h4 kK W4;obtain⟨rfl,W5⟩:=axq W4;simp;exact W5
 ·rw[k0]at es0 abl bk;simp[b3,es0,abl,lenS,zv,bq,bk,r2,Cx,k0];refine(hL W3 aJy).mono ?_;rintro o h4 kK W4;obtain⟨rfl,W5⟩:=axq W4;simp;exact W5
end Ln
namespace Ln
open Go.Sx Go
theorem OC(l:List U):nW 4 eU (aV l) l:=by
 cases l with
 |nil=>exact .inl ⟨rfl,rfl⟩
 |cons a l=>exact .inr rfl
def HT(u:U):List Nat:=OZ u.k++(if u.k=0 then OZ u.n else if u.k=1 then [if u.n=1 then 1 else 0]else OZ 0)
theorem aoS(u:U):(HT u).length≤22:=by
 unfold HT;have h1:=AQ u.k;have h2:=AQ u.n;have h3:=AQ 0;rw[DG];split
 ·omega
 ·split
  ·simp;omega
  ·omega
theorem WC(l:List U):(l.flatMap HT).length≤22*l.length:=by
 induction l with
 |nil=>simp
 |cons a l ih=>rw[List.flatMap_cons,DG,ZW];have:=aoS a;omega
def CvI(w:Key)(kids:List U)(bs:List Nat)(h:T ah)(nx n0:Key)(m:Nat)(aD:T AV)(h':T ah)(nx':Key):Prop:=∃(j:Nat) (c':AV),m=kids.length-j∧j≤kids.length∧ag (K 0) aD=some (.ptr w 0)∧ag (K 14) aD=some (aV kids)∧ag (K 15) aD=some (I kids.length)∧ag (K 16) aD=some (I j)∧WS w c' (bs++(kids.take j).flatMap HT) h' nx' n0∧nx.toNat≤nx'.toNat∧(∀b:Key,b.toNat<n0.toNat→ag b h'=ag b h)∧XA w h nx h'
theorem _root_.Go.Sx.Rd.lnS{z:Nat}{c:AV}{l:List AV}{len:Nat}{h:T ah}{nx:Key}(g:Rd z c l len h nx){C:bP}{Q:cH}{ds:List Key}{av:List (Nat×Key×ah)}{L:List aN}{tm:T AV}{h2:T ah}{n2 k1 d1:Key}{a:Nat}(h1:ag k1 tm=some c) :
  wpS C Q ⟨ds,[]⟩ (.L a ⟨some d1,.lenL (.t k1),none⟩ ::L) av tm h2 n2=wpS C Q ⟨ds,[]⟩ L av (aw d1 (some (I len)) tm) h2 n2:=by
 rcases g with⟨rfl,_,rfl⟩|⟨f,rfl⟩|⟨b,k,rfl,_⟩<;>simp[h1]
variable{C:bP}{X:Kn}(S:Std C X)(H:O0 C)
include S H
theorem agA{B:Nat}{w n0:Key}{kids:List U}(hk:kids.length≤3)(hv:∀u∈kids,∀{c:AV} {bs:List Nat} {h:T ah} {nx:Key},WS w c bs h nx n0→bs.length≤B+80→aJ C bH [.ptr w 0,.agg (eU u)] h nx (jr w (bs++HT u) h nx n0)){bs:List Nat}(hl:bs.length≤B+11){h:T ah}{nx:Key}{Q:cH}{m:Nat}{tm:T AV}{h1:T ah}{bw:Key}(A:CvI w kids bs h nx n0 m tm h1 bw)
  (gJ:∀aD h' nx',jr w (bs++kids.flatMap HT) h nx n0 (.ret (.tuple [])) h' nx'→Q .norm aD h' nx') :
  W C (.loop my) (aG 0 Q) tm h1 bw:=by
 have rV:=S.r bH;refine W.fh (CvI w kids bs h nx n0) A ?_;rintro m dc h2 bu ⟨j,c',rfl,hj,g0,g14,g15,g16,Ws,hn,hf,hkp⟩;refine W.of ?_;simp[my];by_cases da:j<kids.length
 ·have L1:(j:Int)<kids.length:=by omega
  have hR:=(OC kids).rd h2 bu;have s2:=kTSu bu;have hlen:=WC (kids.take j);rw[UD]at hlen;have hcU:(eU kids[j]).all AV.aM=true:=sF.2 (Cu.cell _);have hlU:(eU kids[j]).length=4:=rfl;have htU:List.take 4 (eU kids[j])=eU kids[j]:=rfl;have hdU:List.drop 4 [AV.int .i64 (.lit 0),.int .i64 (.lit 0),.str 0 0,.nils]=[]:=rfl;have hfl:(kids.take (j+1)).flatMap HT=(kids.take j).flatMap HT++HT kids[j]:=by rw[zqu da,List.flatMap_append,List.flatMap_cons,List.flatMap_nil,List.append_nil]
  have IS:=LA da;simp[mz,g15,g16,L1];simp only[wh,sM,xK,xL,sN,xM,sO,xN,xO,sP,sQ,xP,xQ,xR,xS];simp[↓hR.ix Cu da,g14,g16,hcU,hlU];simp[wi,g0,hlU,htU,rV,aIH];have WA:(bs++(kids.take j).flatMap HT).length≤B+80:=by rw[DG];omega
  have e1:=E0 h2 bu (.cells (eU kids[j]) .fix);have W1:=Ws.ext e1;refine(hv _ IS W1 WA).mono ?_;rintro o h3 dZ ⟨rfl,c3,W3,hn3,hf3,hk3⟩;simp;simp[wj,g16];rw[aO (by omega) (by omega)];refine⟨kids.length-(j+1),by omega,j+1,c3,rfl,by omega,by simp[g0],by simp[g14],by simp[g15],by simp,?_,by omega,fun b hb=>?_,?_⟩
  ·rw[hfl,←List.append_assoc];exact W3
  ·have:=Ws.n;rw[hf3 b hb,aA (by omega)];exact hf b hb
  ·exact hkp.trans hn (((Ext.kp e1 w).trans (by omega) hk3))
 ·have Jk:j=kids.length:=by omega
  subst Jk;rw[List.take_length]at Ws;simp[mz,g15,g16];exact gJ _ _ _ ⟨rfl,c',Ws,hn,hf,hkp⟩
theorem acN{B:Nat}(hB:B≤99000){w n0:Key}{s:St}(hk:s.kids.length≤3)(hv:∀u∈s.kids,∀{c:AV} {bs:List Nat} {h:T ah} {nx:Key},WS w c bs h nx n0→bs.length≤B+80→aJ C bH [.ptr w 0,.agg (eU u)] h nx (jr w (bs++HT u) h nx n0)){c:AV}{bs:List Nat}(hl:bs.length≤B){h:T ah}{nx:Key}(Ws:WS w c bs h nx n0) :
  aJ C dx [.ptr w 0,.agg (eS s)] h nx (jr w (bs++(OZ s.kids.length++s.kids.flatMap HT)) h nx n0):=by
 have rI:=S.r cZ;have s1:=kTSu nx;refine H.ya.call ?_;simp[rJ];simp[wk,CB,lenS];have e1:=E0 h nx (.cells (eS s) .fix);have b1:ag nx (aw nx (QZ (eS s)) h)=QZ (eS s):=by simp
 have W1:=Ws.ext e1;generalize aw nx (QZ (eS s)) h=h1 at *;have es3:(eS s)[3]?=some (aV s.kids):=rfl;have hR:=(OC s.kids).rd h1 nx.succ;have ac:=du s.kids;simp[wo,b1,es3,↓hR.lnS,rI];refine(adQ S H W1 (by omega) (s.kids.length:Int)).mono ?_;rintro o h2 bu ⟨rfl,c2,W2,hn2,hf2,ZF⟩;have b2:ag nx h2=QZ (eS s):=by have hw:=Ws.hi;rw[ZF nx (by omega) (fun e=>by rw[e]at hw;omega) (fun B hB=>by rw[b1]at hB;cases hB;exact⟨by simp,by simp⟩)];exact b1
 have ahL:=AQ (s.kids.length:Int);have ha:bs++OZ (s.kids.length:Int)++s.kids.flatMap HT=bs++(OZ (s.kids.length:Int)++s.kids.flatMap HT):=List.append_assoc _ _ _;have hR2:=(OC s.kids).rd h2 bu;simp;simp[↓hR2.ln,wq,b2,es3];refine agA S H hk hv (bs:=bs++OZ (s.kids.length:Int)) (by rw[DG];omega) (h:=h2) (nx:=bu) (m:=s.kids.length) ⟨0,c2,by simp,by omega,by simp,by simp,by simp,by simp,by simpa using W2,fE _,fun _ _=>rfl,XA.refl _ _ _⟩ ?_;intro aD h' nx' W;rw[ha]at W;obtain⟨ho,c',W',hx,hf,Jn⟩:=W;simp;exact jr.lift e1 Ws.n ⟨rfl,c',W',by omega,fun b hb=>by rw[hf b hb,hf2 b hb],ZF.trans hn2 Jn⟩
theorem axU{w n0:Key}{u:U}(hu:u.k=0∨u.k=1∨u.k=2){c:AV}{bs:List Nat}(hl:bs.length≤90000){h:T ah}{nx:Key}(Ws:WS w c bs h nx n0) :
  aJ C bH [.ptr w 0,.agg (eU u)] h nx (jr w (bs++HT u) h nx n0):=by
 have key:=fun en hk=>abk S H Ws (by omega) (s:=stU u) (en:=en) hk;rw[←axa];unfold HT;rw[←List.append_assoc];rcases hu with e|e|e
 ·rw[if_pos e];exact key _ (.inl ⟨e,rfl⟩)
 ·rw[if_neg (by omega),if_pos e];exact key _ (.inr (.inl ⟨e,rfl⟩))
 ·rw[if_neg (by omega),if_neg (by omega)];refine key _ (.inr (.inr ⟨e,fun {c' bs' h' nx'} W' RK=>?_⟩));have:=acN S H (B:=95000) (by omega) (w:=w) (n0:=n0) (s:=stU u) (Nat.zero_le _) (fun u hu=>by cases hu) (by omega) W';simpa[stU]using this
def aaA(s:St):List Nat:=OZ s.k++(if s.k=0 then OZ s.n else if s.k=1 then [if s.n=1 then 1 else 0]else OZ s.kids.length++s.kids.flatMap HT)
theorem avW{w n0:Key}{s:St}(hs:s.k=0∨s.k=1∨s.k=2)(hk:s.kids.length≤3)(FQ:∀u∈s.kids,u.k=0∨u.k=1∨u.k=2){c:AV}{bs:List Nat}(hl:bs.length≤10000){h:T ah}{nx:Key}(Ws:WS w c bs h nx n0) :
  aJ C bH [.ptr w 0,.agg (eS s)] h nx (jr w (bs++aaA s) h nx n0):=by
 have key:=fun en hk=>abk S H Ws (by omega) (s:=s) (en:=en) hk;unfold aaA;rw[←List.append_assoc];rcases hs with e|e|e
 ·rw[if_pos e];exact key _ (.inl ⟨e,rfl⟩)
 ·rw[if_neg (by omega),if_pos e];exact key _ (.inr (.inl ⟨e,rfl⟩))
 ·rw[if_neg (by omega),if_neg (by omega)];refine key _ (.inr (.inr ⟨e,fun {c' bs' h' nx'} W' RK=>?_⟩));exact acN S H (B:=50000) (by omega) hk (fun u hu=>fun {c2 bs2 h2 bu} W2 WA=>axU S H (FQ u hu) (by omega) W2) (by omega) W'
end Ln
namespace Ln
open Go.Sx Go
theorem aAJ{s:St}(h:ZG s=true):(s.k=0∨s.k=1∨s.k=2)∧∀u∈s.kids,u.k=0∨u.k=1∨u.k=2:=by
 unfold ZG at h;rw[decide_eq_true_eq]at h;rcases h with(⟨h1,h2⟩|⟨h1,_,h2⟩)|⟨h1,_,h2⟩
 ·exact⟨.inl h1,by rw[h2];simp⟩
 ·exact⟨.inr (.inl h1),by rw[h2];simp⟩
 ·refine⟨.inr (.inr h1),fun u hu=>?_⟩;have:=sF.1 h2 u hu;unfold sH at this;rw[decide_eq_true_eq]at this;omega
def aay(s:St):Nat:=if ZG s=true then aaz (aaA s)else 0
theorem aaB{s:St}(hk:s.kids.length≤3):(aaA s).length≤100:=by
 unfold aaA;have h1:=AQ s.k;have h2:=AQ s.n;have h3:=AQ (s.kids.length:Int);have h4:=WC s.kids;rw[DG];split
 ·omega
 ·split
  ·simp;omega
  ·rw[DG];omega
variable{C:bP}{X:Kn}(S:Std C X)(H:O0 C)
include S H
theorem ai8{s:St}(hk:s.kids.length≤3){h:T ah}{nx:Key}:aJ C ku [.agg (eS s)] h nx (fun o h' nx'=>((ZG s=true∧∃c',o=.ret (.tuple [c',I 0])∧nW 1 eY c' (aaA s))∨(ZG s=false∧o=.ret (.tuple [.nils,I 1])))∧Ext h nx h' nx'):=by
 have rV:=S.r cP;have rc:=S.r bH;have rD:=S.r fH;have s1:=kTSu nx;have s2:=kTSu nx.succ;refine H.EB.call ?_;simp[BU];simp[CA,CB,lenS];have e1:=E0 h nx (.cells (eS s) .fix);have b1:ag nx (aw nx (QZ (eS s)) h)=QZ (eS s):=by simp
 generalize aw nx (QZ (eS s)) h=h1 at *;simp[CC,b1,lenS,zv,rV,Cx];refine aJ.known (H.aaC s hk _ _) ?_;cases pB:ZG s with
 |false=>simp;simp[ua];simp[CD];exact e1
 |true=>
  obtain⟨k1,k2⟩:=aAJ pB;simp;simp[ua];simp[CE];have e2:=e1.trans (E0 h1 nx.succ (.cells [.nils] .fix));have Ws:WS nx.succ .nils [] (aw nx.succ (QZ [.nils]) h1) nx.succ.succ nx:=⟨by omega,by omega,by omega,by simp,App.nil 1⟩;have b2:ag nx (aw nx.succ (QZ [.nils]) h1)=QZ (eS s):=by rw[aA (by omega)];exact b1
  generalize aw nx.succ (QZ [.nils]) h1=h2 at *;simp[CG,b2,lenS,zv,rc,Cx];refine(avW S H k1 hk k2 (by simp) Ws).mono ?_;rintro o h3 dZ ⟨rfl,c3,W3,hn3,hf3,hk3⟩;rw[List.nil_append]at W3;have e3:Ext h nx h3 dZ:=⟨by omega,fun b hb=>by rw[hf3 b hb];exact e2.g b hb⟩;simp;simp[CH,rD];have hel:=aaB hk;refine(alW H.zw W3 (by omega)).mono ?_;rintro o h4 kK ⟨⟨c4,rfl,h4'⟩,e4⟩;have hz:∀H,aS 9999 c4 H=(c4,H):=fun H=>h4'.wU _ _;have hz8:∀H,aS 8 c4 H=(c4,H):=fun H=>h4'.wU _ _;simp[hz];exact⟨h4',e3.trans e4⟩
theorem aqS{s:St}(hk:s.kids.length≤3){h:T ah}{nx:Key}:aJ C od [.agg (eS s)] h nx (fun o h' nx'=>o=.ret (lU (aay s))∧Ext h nx h' nx'):=by
 have rE:=S.r ku;have rB:=S.r qS;have s1:=kTSu nx;refine H.Jm.call ?_;simp[Hb];simp[Hc,CB,lenS];have e1:=E0 h nx (.cells (eS s) .fix);have b1:ag nx (aw nx (QZ (eS s)) h)=QZ (eS s):=by simp
 generalize aw nx (QZ (eS s)) h=h1 at *;simp[Hd,b1,lenS,zv,rE,Cx];refine(ai8 S H hk).mono ?_;rintro o h2 bu ⟨⟨ho,c,rfl,hc⟩|⟨ho,rfl⟩,e2⟩
 ·have hz:∀H,aS 9999 c H=(c,H):=fun H=>hc.wU _ _;have hh:aay s=aaz (aaA s):=by unfold aay;rw[if_pos ho]
  have hel:=aaB hk;rw[hh];simp;simp[zx];simp[He,rB,hz];refine(amb S H hc (by omega)).mono ?_;rintro o h3 dZ ⟨rfl,e3⟩;generalize aaz (aaA s)=z;simp;exact(e1.trans e2).trans e3
 ·have hh:aay s=0:=by unfold aay;rw[if_neg (by rw[ho];simp)]
  rw[hh];simp;simp[zx];simp[Hf];exact e1.trans e2
end Ln
namespace Ln
open Go.Sx Go
structure Bk where
 g:Nat
 c:AV
 o:Option Key
def CU(E:List Bk):List (AV×AV):=E.map fun e=>(lU e.g,e.c)
def Ts(E:List Bk)(g:Nat):Option Bk:=E.find? fun e=>e.g==g
def M8:List Bk→Bk→List Bk
 | [],x=>[x]
 |e ::E,x=>if e.g=x.g then x ::E else e ::M8 E x
theorem aia(orc:iV)(a b:Nat):keyEq orc false (lU a) (lU b)=some (Nat.beq a b):=rfl
theorem TG(orc:iV)(g:Nat):∀E:List Bk,findK orc false (lU g) (CU E)=some ((Ts E g).map (·.c))
 | []=>rfl
 |e ::E=>by
  show(match keyEq orc false (lU g) (lU e.g)with|some true=>some (some e.c)|some false=>findK orc false (lU g) (CU E)|none=>none)=_;rw[aia];unfold Ts;rw[List.find?_cons];by_cases h:e.g=g
  ·have h1:Nat.beq g e.g=true:=by rw[h];exact Nat.beq_refl g
   have h2:(e.g==g)=true:=by simpa using h
   rw[h1,h2];rfl
  ·have h1:Nat.beq g e.g=false:=by
    cases hb:Nat.beq g e.g with
    |false=>rfl
    |true=>exact absurd (o5 hb).symm h
   have h2:(e.g==g)=false:=by simpa using h
   rw[h1,h2];exact TG orc g E
theorem aib(orc:iV)(x:Bk):∀E:List Bk,setK orc false (lU x.g) x.c (CU E)=some (CU (M8 E x))
 | []=>rfl
 |e ::E=>by
  show(match keyEq orc false (lU x.g) (lU e.g)with|some true=>some ((lU x.g,x.c) ::CU E)|some false=>(match setK orc false (lU x.g) x.c (CU E)with|some r=>some ((lU e.g,e.c) ::r)|none=>none)|none=>none)=_;rw[aia];by_cases h:e.g=x.g
  ·have h1:Nat.beq x.g e.g=true:=by rw[h];exact Nat.beq_refl _
   rw[h1];unfold M8;rw[if_pos h];rfl
  ·have h1:Nat.beq x.g e.g=false:=by
    cases hb:Nat.beq x.g e.g with
    |false=>rfl
    |true=>exact absurd (o5 hb).symm h
   rw[h1];unfold M8;rw[if_neg h,aib orc x E];rfl
theorem an5{E:List Bk}{g:Nat}{e:Bk}(h:Ts E g=some e):e∈E∧e.g=g:=by unfold Ts at h;exact⟨List.mem_of_find?_eq_some h,by simpa using List.find?_some h⟩
theorem ajE{E:List Bk}{g:Nat}(h:Ts E g=none):∀e∈E,e.g≠g:=by unfold Ts at h;rw[List.find?_eq_none]at h;intro e he hg;exact h e he (by simpa using hg)
theorem TH{x y:Bk}:∀{E:List Bk},(E.map (·.g)).Nodup→(y∈M8 E x↔y=x∨(y∈E∧y.g≠x.g))
 | [],_=>by simp[M8]
 |e ::E,hn=>by
  rw[ZC,List.nodup_cons]at hn;unfold M8;by_cases h:e.g=x.g
  ·rw[if_pos h,GP,GP];constructor
   ·rintro(r|r)
    ·exact .inl r
    ·exact .inr ⟨.inr r,fun hg=>hn.1 (NI.2 ⟨y,r,by rw[hg,h]⟩)⟩
   ·rintro(r|⟨r|r,hg⟩)
    ·exact .inl r
    ·exact absurd (by rw[r];exact h) hg
    ·exact .inr r
  ·rw[if_neg h,GP,GP,TH hn.2];constructor
   ·rintro(r|r|⟨r,hg⟩)
    ·exact .inr ⟨.inl r,by rw[r];exact h⟩
    ·exact .inl r
    ·exact .inr ⟨.inr r,hg⟩
   ·rintro(r|⟨r|r,hg⟩)
    ·exact .inr (.inl r)
    ·exact .inl r
    ·exact .inr (.inr ⟨r,hg⟩)
theorem TJ{x:Bk}:∀{E:List Bk},(E.map (·.g)).Nodup→((M8 E x).map (·.g)).Nodup
 | [],_=>by simp[M8]
 |e ::E,hn=>by
  have hn':=hn;rw[ZC,List.nodup_cons]at hn;unfold M8;by_cases h:e.g=x.g
  ·rw[if_pos h,ZC,List.nodup_cons,←h];exact hn
  ·rw[if_neg h,ZC,List.nodup_cons];refine⟨fun hm=>?_,TJ hn.2⟩;obtain⟨y,hy,hg⟩:=NI.1 hm;rcases (TH hn.2).1 hy with rfl|⟨hy,_⟩
   ·exact h hg.symm
   ·exact hn.1 (NI.2 ⟨y,hy,hg⟩)
def Lp(c:Cf St):Nat:=Qg (aay c.2) (UC (c.1:Int))
def Pz(l:List (Cf St))(g:Nat):List Nat:=(List.range l.length).filter fun j=>(l[j]?.map Lp)==some g
def Vp(l:List (Cf St))(g:Nat):List Int:=(Pz l g).map fun j:Nat=>(j:Int)
theorem Ys{l:List (Cf St)}{g j:Nat}:j∈Pz l g↔∃c,l[j]?=some c∧Lp c=g:=by
 unfold Pz;rw[List.mem_filter,List.mem_range];constructor
 ·rintro⟨h1,h2⟩;rw[pY h1]at h2;exact⟨_,pY h1,by simpa using h2⟩
 ·rintro⟨c,h1,h2⟩;obtain⟨h3,h4⟩:=List.getElem?_eq_some_iff.1 h1;refine⟨h3,?_⟩;rw[h1];simp[h2]
theorem an6(l:List (Cf St))(x:Cf St)(g:Nat):Pz (l ++ [x]) g=Pz l g++(if Lp x=g then [l.length]else []):=by
 unfold Pz;rw[DG,List.length_singleton,List.range_succ,List.filter_append];congr 1
 ·refine List.filter_congr fun j hj=>?_;rw[List.getElem?_append_left (List.mem_range.1 hj)]
 ·by_cases h:Lp x=g
  ·simp[h]
  ·simp[h]
theorem an7(l:List (Cf St))(x:Cf St)(g:Nat):Vp (l ++ [x]) g=Vp l g++(if Lp x=g then [(l.length:Int)]else []):=by unfold Vp;rw[an6,List.map_append];split<;>simp
theorem am8(l:List (Cf St))(g:Nat):(Pz l g).length≤l.length:=by unfold Pz;refine Nat.le_trans (List.length_filter_le _ _) ?_;rw[List.length_range];exact fE _
theorem Yt(l:List (Cf St))(g:Nat):(Vp l g).length=(Pz l g).length:=List.length_map ..
structure RgA(X:Kn)(i:Nat)(os:List Op)(cO c3:AV)(bj n0:Key)(h0:T ah)(tm:T AV)(h:T ah)(nx:Key):Prop where
 k3:ag (K 3) tm=some c3
 dd:ag (K 11) tm=some (.ptr bj 0)
 vj:ag bj h=QZ (wB X i cO (bJ i))
 lt:bj.toNat<nx.toNat
 e:Ext h0 n0 h nx
theorem RgA.ext{X:Kn}{i:Nat}{os:List Op}{cO c3:AV}{bj n0:Key}{h0:T ah}{tm aD:T AV}{h h':T ah}{nx nx':Key}(A:RgA X i os cO c3 bj n0 h0 tm h nx)(e:Ext h nx h' nx')(h3:ag (K 3) aD=ag (K 3) tm)(h11:ag (K 11) aD=ag (K 11) tm):RgA X i os cO c3 bj n0 h0 aD h' nx':=
 ⟨h3.trans A.k3,h11.trans A.dd,by rw[e.g bj A.lt];exact A.vj,by have:=e.n;have:=A.lt;omega,A.e.trans e⟩
variable{C:bP}{X:Kn}(S:Std C X)
include S
end Ln
namespace Ln
open Go.Sx Go
variable{C:bP}{X:Kn}(S:Std C X)
include S
end Ln
namespace Ln
open Go.Sx Go
variable{C:bP}{X:Kn}(S:Std C X)
include S
end Ln
namespace Go.Sx
variable{C:bP}{Q:cH}{ds:List Key}{av:List (Nat×Key×ah)}{L:List aN}{tm:T AV}{h:T ah}{nx d x y:Key}{n:Nat}
theorem Rd.aAO{z:Nat}{c:AV}{α:Type}{enc:α→List AV}{us:List α}{nx' k1 k2 d1 d2:Key}{a b:Nat}(F:Flat z enc)(g:Rd z c (aq enc us) us.length h nx'){i:Nat}(hi:i<us.length)(h1:ag k1 tm=some c)(h2:ag k2 tm=some (I i)) :
  wpS C Q ⟨ds,[]⟩ (.L a ⟨some d1,.indexL z (.t k1) (.t k2),none⟩ ::.L b ⟨some d2,.load true z (.t d1),none⟩ ::L) av tm h nx=wpS C Q ⟨ds,[]⟩ L av (aw d2 (some (.agg (enc us[i]))) (aw d1 (some (IN z i c)) tm)) h nx:=g.ixS F hi h1 h2 rfl rfl
theorem ajD{o:BinOp}{a b:PX}{v:AV}(hl:lightOp C.orc (.bin o a b) tm h=some v):wpS C Q ⟨ds,[]⟩ (.L n ⟨some d,.bin o a b,none⟩ ::L) av tm h nx=wpS C Q ⟨ds,[]⟩ L av (aw d (some v) tm) h nx:=by simp[hl,-lightOp]
end Go.Sx
namespace Ln
open Go.Sx Go
theorem _root_.Go.Sx.Rd.ixI{c:AV}{us:List Int}{h:T ah}{nx:Key}(g:Rd 1 c (aq eI us) us.length h nx){i:Nat}(hi:i<us.length){C:bP}{Q:cH}{L:List aC}{tm:T AV}{n2 k1 k2 d1 d2:Key}(h1:ag k1 tm=some c)(h2:ag k2 tm=some (I i)) :
  qy C Q (⟨some d1,.indexL 1 (.t k1) (.t k2),none⟩ ::⟨some d2,.load false 1 (.t d1),none⟩ ::L) tm h n2=qy C Q L (aw d2 (some (I us[i])) (aw d1 (some (IN 1 i c)) tm)) h n2:=by
 have hrl:(aq eI us).length=us.length:=fC _;have hd:=ur hi;have tl:1≤us.length-i:=by omega
 rcases g with⟨_,_,e⟩|⟨f,rfl⟩|⟨b,k,rfl,hb,_,_⟩
 ·omega
 ·simp[h1,h2,hi,hrl,hd,tl,IN]
 ·simp[h1,h2,hi,hrl,IN,hb]
theorem _root_.Go.Sx.Gr.cell{z:Nat}{c:AV}{l:List AV}{len:Nat}{h:T ah}{nx:Key}{ob:Option Key}(g:Gr z c l len h nx ob):c.aM=true∧c.cells=[c]:=by rcases g with⟨rfl,_⟩|⟨b,k,_,rfl,_⟩|⟨t,_,rfl,_⟩<;>exact⟨rfl,rfl⟩
theorem _root_.Go.Sx.Gr.lits{z:Nat}{α:Type}{enc:α→List AV}(F:Flat z enc){c:AV}{us:List α}{len:Nat}{h:T ah}{nx:Key}{ob:Option Key}(g:Gr z c (aq enc us) len h nx ob):AV.beq c c=true:=by
 rcases g with⟨rfl,_⟩|⟨b,k,_,rfl,_⟩|⟨t,_,rfl,_⟩
 ·exact beq_refl _ rfl
 ·exact beq_refl _ rfl
 ·exact beq_refl _ (by simp only[AV.lits];exact F.atr _)
theorem art{C:bP}{Q:cH}{ds:List Key}{av:List (Nat×Key×ah)}{L:List aN}{tm:T AV}{h:T ah}{nx d x y:Key}{n:Nat}(a b:Nat)(h1:ag x tm=some (lU a))(h2:ag y tm=some (lU b)):wpS C Q ⟨ds,[]⟩ (.L n ⟨some d,.bin .xor (.t x) (.t y),none⟩ ::L) av tm h nx=wpS C Q ⟨ds,[]⟩ L av (aw d (some (lU (Qg a b))) tm) h nx:=
 ajD (by simp only[lightOp,at_t,h1,h2];rfl)
structure Vg(n0:Key)(l:List (Cf St))(br bm:Key)(cC cS:AV)(oC:Option Key)(E:List Bk)(h:T ah)(nx:Key):Prop where
 BO:ag br h=QZ [cC,cS,.map bm]
 map:ag bm h=some (.map (CU E))
 brn:br.toNat<nx.toNat
 bmn:bm.toNat<nx.toNat
 C:Gr 5 cC (aq eC l) l.length h nx oC
 B:∀e∈E,Gr 1 e.c (aq eI (Vp l e.g)) (Vp l e.g).length h nx e.o
 nd:(E.map (·.g)).Nodup
 cov:∀c∈l,∃e∈E,e.g=Lp c
 ai9:∀e∈E,∀b,e.o=some b→oC≠some b
 sep:∀e∈E,∀f∈E,e.g≠f.g→∀b,e.o=some b→f.o≠some b
 ow:∀b,(oC=some b∨∃e∈E,e.o=some b)→b≠br∧b≠bm∧n0.toNat≤b.toNat
 cs:cS.aM=true∧cS.cells=[cS]
 bb:br≠bm∧n0.toNat≤br.toNat∧n0.toNat≤bm.toNat
theorem Vg.ext{n0:Key}{l:List (Cf St)}{br bm:Key}{cC cS:AV}{oC:Option Key}{E:List Bk}{h h':T ah}{nx nx':Key}(R:Vg n0 l br bm cC cS oC E h nx)(e:Ext h nx h' nx'):Vg n0 l br bm cC cS oC E h' nx':=
 ⟨by rw[e.g _ R.brn];exact R.BO,by rw[e.g _ R.bmn];exact R.map,by have:=R.brn;have:=e.n;omega,by have:=R.bmn;have:=e.n;omega,R.C.ext e,fun x hx=>(R.B x hx).ext e,R.nd,R.cov,R.ai9,R.sep,R.ow,R.cs,R.bb⟩
theorem am6{n0:Key}{l:List (Cf St)}{br bm:Key}{cC cS:AV}{oC:Option Key}{E:List Bk}{h:T ah}{nx:Key}(R:Vg n0 l br bm cC cS oC E h nx){g:Nat}(hg:Ts E g=none):Pz l g=[]:=by refine List.eq_nil_iff_forall_not_mem.2 fun j hj=>?_;obtain⟨c,h1,h2⟩:=Ys.1 hj;obtain⟨e,he,h3⟩:=R.cov c (List.mem_of_getElem? h1);exact ajE hg e he (by rw[h3,h2])
def AdI(l:List (Cf St))(x:Cf St)(g:Nat)(UF:AV)(br b3:Key)(h:T ah)(nx:Key)(m:Nat)(aD:T AV)(h':T ah)(nx':Key):Prop:=∃q:Nat,m=(Pz l g).length-q∧q≤(Pz l g).length∧ag (K 0) aD=some (.ptr br 0)∧ag (K 3) aD=some (.ptr b3 0)∧ag (K 5) aD=some (lU g)∧ag (K 20) aD=some UF∧ag (K 21) aD=some (I (Pz l g).length)∧ag (K 22) aD=some (I q)∧Ext h nx h' nx'∧(∀p (hp:p<(Pz l g).length),p<q→l[(Pz l g)[p]]?≠some x)
variable{C:bP}{X:Kn}(S:Std C X)(H:O0 C)
include S H
theorem am7{n0:Key}{l:List (Cf St)}(hl:l.length≤10000)(NP:∀y∈l,y.2.kids.length≤3){x:Cf St}(hx:x.2.kids.length≤3){g:Nat}{br bm b3:Key}{cC cS UF:AV}{oC:Option Key}{E:List Bk}{h:T ah}{nx:Key}(R:Vg n0 l br bm cC cS oC E h nx)(h20:Rd 1 UF (aq eI (Vp l g)) (Vp l g).length h nx)(hb3:ag b3 h=QZ (eC x))(b3n:b3.toNat<nx.toNat){Q:cH}{m:Nat}{tm:T AV}{h1:T ah}{bw:Key}(A:AdI l x g UF br b3 h nx m tm h1 bw)
  (aw7:∀aD h' nx' j,l[j]?=some x→ag (K 4) aD=some (I (j:Nat))→Ext h nx h' nx'→Q .ret aD h' nx')
  (IP:∀aD h' nx',ag (K 0) aD=some (.ptr br 0)→ag (K 3) aD=some (.ptr b3 0)→ag (K 5) aD=some (lU g)→Ext h nx h' nx'→(∀j∈Pz l g,l[j]?≠some x)→Q .norm aD h' nx') :
  W C (.loop ij) (aG 0 Q) tm h1 bw:=by
 have rC:=S.r fJ;have RJ:=Yt l g;have hle:=am8 l g;refine W.fh (AdI l x g UF br b3 h nx) A ?_;rintro m dc h2 bu ⟨q,rfl,hq,g0,g3,g5,g20,g21,g22,e2,AB⟩;have R2:=R.ext e2;have aru:=h20.ext e2;have aI0:ag b3 h2=QZ (eC x):=by rw[e2.g _ b3n];exact hb3
 refine W.of ?_;simp[ij];by_cases hql:q<(Pz l g).length
 ·have hqi:(q:Int)<(Pz l g).length:=by omega
  have hqs:q<(Vp l g).length:=by omega
  have Ol:(Vp l g)[q]=((Pz l g)[q]:Nat):=by simp[Vp]
  obtain⟨cj,hcj,hgj⟩:=Ys.1 (LA hql);obtain⟨da,aI1⟩:=List.getElem?_eq_some_iff.1 hcj;have hRC:=R2.C.rd;have aI2:l[(Pz l g)[q]]?≠some x→∀p (hp:p<(Pz l g).length),p<q+1→l[(Pz l g)[p]]?≠some x:=fun h p hp hpq=>by
   by_cases e:p=q
   ·subst e;exact h
   ·exact AB p hp (by omega)
  simp[kT,g21,g22,hqi];simp only[tw,sM,xK,xL,sN,xM,sO,xN,xO,sP,sQ,xP,xQ,xR,xS];simp[↓aru.ixI hqs,g20,g22];rw[Ol];generalize hj:(Pz l g)[q]=j at *;have hkj:=NP cj (List.mem_of_getElem? hcj);have Kw:=Tt S (a:=ofC cj) (b:=ofC x) hkj hx h2 bu;rw[alH,alH]at Kw;simp[↓hRC.aAO xU da,tz,g0,g3,R2.BO,aI0,ED,ael,rC,S7,aI1];refine Kw.mono ?_;rintro o h3 dZ ⟨rfl,e3⟩;simp;by_cases hz:aa8 (ofC cj) (ofC x)=0
  ·have hcx:cj=x:=by
    have:=congrArg toC (ahE.1 hz)
    rwa [aha,aha]at this
   subst hcx;simp[hz];simp[tA];exact aw7 _ _ _ j hcj (by simp) (e2.trans e3)
  ·have hcx:cj≠x:=fun e=>hz (ahE.2 (by rw[e]));simp[hz];simp[tB,g22];rw[aO (by omega) (by omega)];exact⟨(Pz l g).length-(q+1),by omega,q+1,rfl,by omega,by simp[g0],by simp[g3],by simp[g5],by simp[g20],by simp[g21],by simp,e2.trans e3,aI2 (by rw[hcj];exact fun e=>hcx (Option.some.inj e))⟩
 ·have hqe:q=(Pz l g).length:=by omega
  subst hqe;simp[kT,g21,g22];refine IP _ _ _ (by simp[g0]) (by simp[g3]) (by simp[g5]) e2 ?_;intro j hj;obtain⟨p,hp,rfl⟩:=List.getElem_of_mem hj;exact AB p hp hp
end Ln
namespace Ln
open Go.Sx Go
structure Buk(l:List (Cf St))(E:List Bk)(g:Nat)(m:Option AV)(UF:AV)(UG:Option Key)(h:T ah)(nx:Key):Prop where
 m:(m=none∧UF=.nils)∨m=some UF
 gr:Gr 1 UF (aq eI (Vp l g)) (Vp l g).length h nx UG
 own:∀b,UG=some b→∃e∈E,e.g=g∧e.o=some b
theorem Vg.buk{n0:Key}{l:List (Cf St)}{br bm:Key}{cC cS:AV}{oC:Option Key}{E:List Bk}{h:T ah}{nx:Key}(R:Vg n0 l br bm cC cS oC E h nx)(g:Nat):∃UF UG,Buk l E g ((Ts E g).map (·.c)) UF UG h nx:=by
 cases hg:Ts E g with
 |none=>
  refine⟨.nils,none,.inl ⟨rfl,rfl⟩,?_,by simp⟩;have:Vp l g=[]:=by unfold Vp;rw[am6 R hg];rfl
  rw[this];exact Gr.nil _ _ _
 |some e=>obtain⟨h1,h2⟩:=an5 hg;refine⟨e.c,e.o,.inr rfl,by have:=R.B e h1;rw[h2]at this;exact this,fun b hb=>⟨e,h1,h2,hb⟩⟩
theorem Buk.ext{l:List (Cf St)}{E:List Bk}{g:Nat}{m:Option AV}{UF:AV}{UG:Option Key}{h h':T ah}{nx nx':Key}(B:Buk l E g m UF UG h nx)(e:Ext h nx h' nx'):Buk l E g m UF UG h' nx':=⟨B.m,B.gr.ext e,B.own⟩
variable{C:bP}{X:Kn}(S:Std C X)(H:O0 C)
theorem axL{n0:Key}{l:List (Cf St)}(hl:l.length≤10000){g:Nat}{br bm:Key}{cC cS UF:AV}{oC UG:Option Key}{E:List Bk}{h:T ah}{nx:Key}(R:Vg n0 l br bm cC cS oC E h nx)(B:Buk l E g ((Ts E g).map (·.c)) UF UG h nx){Q:cH}{tm:T AV}(g0:ag (K 0) tm=some (.ptr br 0))(g5:ag (K 5) tm=some (lU g))
  (hQ:∀aD c55 o55 h2 bu,ag (K 0) aD=ag (K 0) tm→ag (K 3) aD=ag (K 3) tm→Gr 1 c55 (aq eI (Vp l g ++ [(l.length:Int)])) (Vp l g ++ [(l.length:Int)]).length h2 bu o55→Qs h nx UG h2 bu o55→Q .norm aD (aw bm (some (.map (CU (M8 E ⟨g,c55,o55⟩)))) h2) bu) :
  iT C (.staged dG ⟨[K 38,K 39,K 40,K 41,K 42,K 43,K 44,K 45,K 46,K 47,K 48,K 49,K 50,K 51,K 52,K 53,K 54,K 55],[]⟩) Q tm h nx:=by
 have s1:=kTSu nx;have hfk:=TG C.orc g E;have e1:=E0 h nx (.cells [I (l.length:Int)] .fix);have RJ:=Yt l g;have hle:=am8 l g;obtain⟨c55,h2,bu,o55,ha,G55,F⟩:=(B.gr.ext e1).Z7 L0 (by decide) (by decide) (by omega) (l.length:Int);have F15:=(Qs.ahp e1 UG).trans F;have hej:eI (l.length:Int)=[I (l.length:Int)]:=rfl;rw[hej]at ha;have hR:=R.C.rd;have ob:∀b:Key,b.toNat<nx.toNat→(∀e∈E,e.o≠some b)→ag b h2=ag b h:=fun b hb ho=>F15.g b hb (fun e=>by obtain⟨x,hx,_,hxo⟩:=B.own b e;exact ho x hx hxo);have br2:ag br h2=QZ [cC,cS,.map bm]:=by rw[ob br R.brn (fun e he ho=>(R.ow br (.inr ⟨e,he,ho⟩)).1 rfl)];exact R.BO
 have bm2:ag bm h2=some (.map (CU E)):=by rw[ob bm R.bmn (fun e he ho=>(R.ow bm (.inr ⟨e,he,ho⟩)).2.1 rfl)];exact R.map
 have kc:=G55.cell;have Rk:=aib C.orc ⟨g,c55,o55⟩ E;simp only at Rk;have fin:∀aD,ag (K 0) aD=ag (K 0) tm→ag (K 3) aD=ag (K 3) tm→Q .norm aD (aw bm (some (.map (CU (M8 E ⟨g,c55,o55⟩)))) h2) bu:=fun aD a b=>hQ aD c55 o55 h2 bu a b G55 F15;have BO:=R.BO;have mp:=R.map;have kbq:AV.beq (.map bm) (.map bm)=true:=beq_refl _ rfl;rcases B.m with⟨hm,rfl⟩|hm
 ·rw[hm]at hfk;simp[-appendTo,-findK,-setK,dG,g0,g5,BO,mp,hfk,↓hR.lnS,ha,br2,bm2,Rk];exact⟨kbq,fin _ (by simp) (by simp)⟩
 ·rw[hm]at hfk;simp[-appendTo,-findK,-setK,dG,g0,g5,BO,mp,hfk,↓hR.lnS,ha,br2,bm2,Rk];exact⟨kbq,fin _ (by simp) (by simp)⟩
structure PI(n0:Key)(l:List (Cf St))(x:Cf St)(br bm:Key)(cS:AV)(oC:Option Key)(E:List Bk)(h:T ah)(nx:Key)(o:Out)(h':T ah)(nx':Key):Prop where
 r:∃(j:Nat) (cC':AV) (MA:Option Key) (E':List Bk),(fu l x)[j]?=some x∧o=.ret (I (j:Nat))∧Vg n0 (fu l x) br bm cC' cS MA E' h' nx'∧(∀b,(MA=some b∨∃e∈E',e.o=some b)→(oC=some b∨∃e∈E,e.o=some b)∨nx.toNat≤b.toNat)
 n:nx.toNat≤nx'.toNat
 g:∀b:Key,b.toNat<nx.toNat→b≠br→b≠bm→oC≠some b→(∀e∈E,e.o≠some b)→ag b h'=ag b h
end Ln
namespace Ln
open Go.Sx Go
variable{C:bP}{X:Kn}(S:Std C X)(H:O0 C)
theorem asD{n0:Key}{l:List (Cf St)}(hl:l.length≤10000){x:Cf St}(Tk:x∉l){br bm b3:Key}{cC cS UF:AV}{oC UG:Option Key}{E:List Bk}{h:T ah}{nx:Key}(hn0:n0.toNat≤nx.toNat)(R:Vg n0 l br bm cC cS oC E h nx)(B:Buk l E (Lp x) ((Ts E (Lp x)).map (·.c)) UF UG h nx)(hb3:ag b3 h=QZ (eC x))(b3n:b3.toNat<nx.toNat)(b3o:b3≠br∧b3≠bm∧oC≠some b3∧∀e∈E,e.o≠some b3){R':Out→T ah→Key→Prop}{tm:T AV}(g0:ag (K 0) tm=some (.ptr br 0))(g3:ag (K 3) tm=some (.ptr b3 0))(g5:ag (K 5) tm=some (lU (Lp x)))
  (hR:∀h' nx',PI n0 l x br bm cS oC E h nx (.ret (I l.length)) h' nx'→R' (.ret (I l.length)) h' nx') :
  iT C (.seq (.staged dG ⟨[K 38,K 39,K 40,K 41,K 42,K 43,K 44,K 45,K 46,K 47,K 48,K 49,K 50,K 51,K 52,K 53,K 54,K 55],[]⟩) (.seq (.staged ik ⟨[K 56,K 57,K 58,K 59,K 60,K 61,K 62,K 63,K 64,K 65],[]⟩) (.seq (.ops gI) .ret))) (fQ [.tmp (K 4)] R') tm h nx:=by
 simp only[dO];refine axL (C:=C) hl R B g0 g5 (fun tm2 c55 o55 h2 bu p0 p3 G55 F=>?_);rw[g0]at p0;rw[g3]at p3;have n2:=F.n;have s2:=kTSu bu;have aS8:∀b:Key,UG=some b→b.toNat<nx.toNat:=fun b hb=>B.gr.lt b hb;have ao0:∀b:Key,o55=some b→UG=some b∨nx.toNat≤b.toNat:=fun b hb=>by
  rcases F.o with e|⟨y,e,hy⟩
  ·rw[e]at hb;exact .inl hb
  ·rw[e]at hb;cases hb;exact .inr hy
 have amv:∀b:Key,UG=some b→b≠br∧b≠bm∧oC≠some b:=fun b hb=>by obtain⟨e,he,_,ho⟩:=B.own b hb;have:=R.ow b (.inr ⟨e,he,ho⟩);exact⟨this.1,this.2.1,R.ai9 e he b ho⟩
 have ax0:∀b:Key,o55=some b→b≠br∧b≠bm∧oC≠some b:=fun b hb=>by
  rcases ao0 b hb with h1|h1
  ·exact amv b h1
  ·have h2:=R.brn;have h3:=R.bmn;exact⟨fun e=>by rw[e]at h1;omega,fun e=>by rw[e]at h1;omega,fun e=>by have:=R.C.lt b e;omega⟩
 have k2:∀b:Key,b.toNat<nx.toNat→UG≠some b→ag b h2=ag b h:=fun b hb ho=>F.g b hb ho;generalize hE:M8 E ⟨Lp x,c55,o55⟩=E' at *;have k3:∀b:Key,b≠bm→ag b (aw bm (some (.map (CU E'))) h2)=ag b h2:=fun b hb=>aP _ _ _ _ hb;have br3:ag br (aw bm (some (.map (CU E'))) h2)=QZ [cC,cS,.map bm]:=by rw[k3 br R.bb.1,k2 br R.brn (fun e=>(amv br e).1 rfl)];exact R.BO
 have b33:ag b3 (aw bm (some (.map (CU E'))) h2)=QZ (eC x):=by rw[k3 b3 b3o.2.1,k2 b3 b3n (fun e=>by obtain⟨y,hy,_,ho⟩:=B.own b3 e;exact b3o.2.2.2 y hy ho)];exact hb3
 have bm3:ag bm (aw bm (some (.map (CU E'))) h2)=some (.map (CU E')):=by simp
 have aKH:∀b:Key,oC=some b→ag b (aw bm (some (.map (CU E'))) h2)=ag b h:=fun b hb=>by have:=R.ow b (.inl hb);rw[k3 b this.2.1,k2 b (R.C.lt b hb) (fun e=>(amv b e).2.2 hb)]
 have G3:Gr 5 cC (aq eC l) l.length (aw bm (some (.map (CU E'))) h2) bu oC:=R.C.cv n2 aKH;have ax1:Gr 1 c55 (aq eI (Vp l (Lp x) ++ [(l.length:Int)])) (Vp l (Lp x) ++ [(l.length:Int)]).length (aw bm (some (.map (CU E'))) h2) bu o55:=G55.cv (fE _) fun b hb=>k3 b (ax0 b hb).2.1;have dz:∀b:Key,b.toNat<nx.toNat→b≠bm→UG≠some b→ag b (aw bm (some (.map (CU E'))) h2)=ag b h:=fun b hb hm ho=>by rw[k3 b hm,k2 b hb ho]
 generalize aw bm (some (.map (CU E'))) h2=h3 at *;have e4:=E0 h3 bu (.cells (eC x) .fix);obtain⟨c63,h5,Z8,MA,ha,G5,F5⟩:=(G3.ext e4).Z7 xU (by decide) (by decide) (by omega) x;have F35:=(Qs.ahp e4 oC).trans F5;have n5:=F35.n;have br5:ag br h5=QZ [cC,cS,.map bm]:=by rw[F35.g br (by have:=R.brn;omega) (fun e=>(R.ow br (.inl e)).1 rfl)];exact br3
 have kc:=G3.cell;have kc':=G5.cell;simp;simp[-appendTo,ik,p0,p3,br3,b33,ED,ael,Te,aA0,axv,ha,br5,kc.1,kc.2,kc'.1,kc'.2,R.cs.1,R.cs.2];have ho5:∀b:Key,MA=some b→oC=some b∨bu.toNat≤b.toNat:=fun b hb=>by
  rcases F35.o with e|⟨y,e,hy⟩
  ·rw[e]at hb;exact .inl hb
  ·rw[e]at hb;cases hb;exact .inr hy
 have brn:=R.brn;have bmn:=R.bmn;have aKJ:MA≠some br:=fun e=>by
  rcases ho5 br e with h1|h1
  ·exact(R.ow br (.inl h1)).1 rfl
  ·omega
 have k6:∀b:Key,b.toNat<bu.toNat→b≠br→oC≠some b→ag b (aw br (QZ [c63,cS,.map bm]) h5)=ag b h3:=fun b hb h1 h2=>by rw[aP _ _ _ _ h1,F35.g b hb h2]
 have br6:ag br (aw br (QZ [c63,cS,.map bm]) h5)=QZ [c63,cS,.map bm]:=by simp
 have G6:Gr 5 c63 (aq eC (l ++ [x])) (l ++ [x]).length (aw br (QZ [c63,cS,.map bm]) h5) Z8 MA:=G5.cv (fE _) fun b hb=>aP _ _ _ _ (fun e=>aKJ (by rw[hb,e]));generalize aw br (QZ [c63,cS,.map bm]) h5=h6 at *;have hR6:=G6.rd;have hll:(l ++ [x]).length=l.length+1:=by simp
 rw[hll]at hR6;have OW:bD .i64 (l.length:Int)=(l.length:Int):=aO (by omega) (by omega);simp[↓hR6.ln,gI,p0,br6,OW];have DN:fu l x=l ++ [x]:=by unfold fu;rw[if_neg Tk]
 have IP:∀y:Bk,y∈E'↔y=⟨Lp x,c55,o55⟩∨(y∈E∧y.g≠Lp x):=fun y=>by rw[←hE];exact TH R.nd
 have oCn:∀b:Key,MA=some b→oC=some b∨nx.toNat≤b.toNat:=fun b hb=>by
  rcases ho5 b hb with h1|h1
  ·exact .inl h1
  ·exact .inr (by omega)
 have aCJ:∀e∈E,e.g≠Lp x→∀b,e.o=some b→ag b h6=ag b h:=fun e he hg b hb=>by have FL:=(R.B e he).lt b hb;have h1:=R.ow b (.inr ⟨e,he,hb⟩);have h2:=R.ai9 e he b hb;rw[k6 b (by omega) h1.1 h2,dz b FL h1.2.1 (fun e'=>by obtain⟨y,hy,hyg,hyo⟩:=B.own b e';exact R.sep e he y hy (by rw[hyg];exact hg) b hb hyo)]
 refine hR _ _ ⟨⟨l.length,c63,MA,E',by rw[DN];simp,rfl,?_,?_⟩,by omega,?_⟩
 ·rw[DN];refine⟨br6,?_,by omega,by omega,G6,?_,by rw[←hE];exact TJ R.nd,?_,?_,?_,?_,R.cs,R.bb⟩
  ·rw[k6 bm (by omega) (Ne.symm R.bb.1) (fun e=>(R.ow bm (.inl e)).2.1 rfl)];exact bm3
  ·intro e he;rw[an7];rcases (IP e).1 he with rfl|⟨he,hg⟩
   ·rw[if_pos rfl];refine ax1.cv n5 fun b hb=>?_;have h1:=ax0 b hb;have h2:b.toNat<bu.toNat:=ax1.lt b hb;rw[k6 b h2 h1.1 h1.2.2]
   ·rw[if_neg (fun e'=>hg e'.symm),List.append_nil];exact(R.B e he).cv (by omega) (aCJ e he hg)
  ·intro c hc;rcases List.mem_append.1 hc with hc|hc
   ·obtain⟨e,he,h1⟩:=R.cov c hc;by_cases hg:e.g=Lp x
    ·exact⟨_,(IP _).2 (.inl rfl),by show Lp x=Lp c;rw[←hg,h1]⟩
    ·exact⟨e,(IP e).2 (.inr ⟨he,hg⟩),h1⟩
   ·simp at hc;subst hc;exact⟨_,(IP _).2 (.inl rfl),rfl⟩
  ·intro e he b hb hC;rcases (IP e).1 he with rfl|⟨he,hg⟩
   ·rcases ho5 b hC with h1|h1
    ·exact(ax0 b hb).2.2 h1
    ·have:b.toNat<bu.toNat:=ax1.lt b hb;omega
   ·have FL:=(R.B e he).lt b hb;rcases oCn b hC with h1|h1
    ·exact R.ai9 e he b hb h1
    ·omega
  ·intro e he f hf bW b hb hfo;rcases (IP e).1 he with rfl|⟨he,hg⟩
   ·rcases (IP f).1 hf with rfl|⟨hf,hgf⟩
    ·exact bW rfl
    ·have FL:=(R.B f hf).lt b hfo;rcases ao0 b hb with h1|h1
     ·obtain⟨y,hy,hyg,hyo⟩:=B.own b h1;exact R.sep f hf y hy (by rw[hyg];exact hgf) b hfo hyo
     ·omega
   ·rcases (IP f).1 hf with rfl|⟨hf,hgf⟩
    ·have FL:=(R.B e he).lt b hb;rcases ao0 b hfo with h1|h1
     ·obtain⟨y,hy,hyg,hyo⟩:=B.own b h1;exact R.sep e he y hy (by rw[hyg];exact hg) b hb hyo
     ·omega
    ·exact R.sep e he f hf bW b hb hfo
  ·intro b hb;rcases hb with hb|⟨e,he,hb⟩
   ·rcases oCn b hb with h1|h1
    ·exact R.ow b (.inl h1)
    ·exact⟨fun e=>by rw[e]at h1;omega,fun e=>by rw[e]at h1;omega,by omega⟩
   ·rcases (IP e).1 he with rfl|⟨he,hg⟩
    ·rcases ao0 b hb with h1|h1
     ·obtain⟨y,hy,_,hyo⟩:=B.own b h1;exact R.ow b (.inr ⟨y,hy,hyo⟩)
     ·exact⟨fun e=>by rw[e]at h1;omega,fun e=>by rw[e]at h1;omega,by omega⟩
    ·exact R.ow b (.inr ⟨e,he,hb⟩)
 ·intro b hb;rcases hb with hb|⟨e,he,hb⟩
  ·rcases oCn b hb with h1|h1
   ·exact .inl (.inl h1)
   ·exact .inr h1
  ·rcases (IP e).1 he with rfl|⟨he,hg⟩
   ·rcases ao0 b hb with h1|h1
    ·obtain⟨y,hy,_,hyo⟩:=B.own b h1;exact .inl (.inr ⟨y,hy,hyo⟩)
    ·exact .inr h1
   ·exact .inl (.inr ⟨e,he,hb⟩)
 ·intro b hb h1 h2 h4 h5;rw[k6 b (by omega) h1 h4,dz b hb h2 (fun e=>by obtain⟨y,hy,_,hyo⟩:=B.own b e;exact h5 y hy hyo)]
end Ln
namespace Ln
open Go.Sx Go
theorem PI.lift{n0:Key}{l:List (Cf St)}{x:Cf St}{br bm:Key}{cS:AV}{oC:Option Key}{E:List Bk}{h h1 h':T ah}{nx bw nx':Key}{o:Out}(e:Ext h nx h1 bw)(A:PI n0 l x br bm cS oC E h1 bw o h' nx'):PI n0 l x br bm cS oC E h nx o h' nx':=by
 have n:=e.n;obtain⟨⟨j,cC',MA,E',a1,a2,a3,a4⟩,a5,a6⟩:=A;refine⟨⟨j,cC',MA,E',a1,a2,a3,fun b hb=>?_⟩,by omega,fun b hb h1 h2 h3 h4=>by rw[a6 b (by omega) h1 h2 h3 h4,e.g b hb]⟩;rcases a4 b hb with h1|h1
 ·exact .inl h1
 ·exact .inr (by omega)
variable{C:bP}{X:Kn}(S:Std C X)(H:O0 C)
include S H
theorem amg{n0:Key}{l:List (Cf St)}(hl:l.length≤10000)(NP:∀y∈l,y.2.kids.length≤3){x:Cf St}(hx:x.2.kids.length≤3){br bm:Key}{cC cS:AV}{oC:Option Key}{E:List Bk}{h:T ah}{nx:Key}(hn0:n0.toNat≤nx.toNat)(R:Vg n0 l br bm cC cS oC E h nx) :
  aJ C di [.ptr br 0,.agg (eC x)] h nx (PI n0 l x br bm cS oC E h nx):=by
 have rH:=S.r od;have s1:=kTSu nx;refine S.we.call ?_;simp[pL];simp[tJ,Te,ED];have e1:=E0 h nx (.cells (eC x) .fix);have b1:ag nx (aw nx (QZ (eC x)) h)=QZ (eC x):=by simp
 generalize aw nx (QZ (eC x)) h=h1 at *;have ec0:(eC x)[0]?=some (I x.1):=rfl;have amy:(eC x).head?=some (I x.1):=rfl;have et:List.take 4 (eC x).tail=eS x.2:=rfl;have hcu:bD .u64 (x.1:Int)=((UC (x.1:Int):Nat):Int):=OY _;have hbq:AV.beq (I x.1) (I x.1)=true:=beq_refl _ rfl;simp[tK,b1,ec0,amy,et,ED,hcu,rH,Cx];refine(aqS S H hx).mono ?_;rintro o h2 bu ⟨rfl,e2⟩;have n2:=e2.n;have b2:ag nx h2=QZ (eC x):=by rw[e2.g nx (by omega)];exact b1
 have e12:=e1.trans e2;have R2:=R.ext e12;have hhk:Lp x=Qg (aay x.2) (UC (x.1:Int)):=rfl;simp[b2,ec0,amy,hbq,↓art (aay x.2) (UC (x.1:Int))];rw[←hhk];obtain⟨UF,UG,B⟩:=R2.buk (Lp x);have hfk:=TG C.orc (Lp x) E;have aru:=B.gr.rd;have RJ:=Yt l (Lp x);have main:∀tm2:T AV,ag (K 0) tm2=some (.ptr br 0)→ag (K 3) tm2=some (.ptr nx 0)→ag (K 5) tm2=some (lU (Lp x))→ag (K 20) tm2=some UF→ag (K 21) tm2=some (I (Vp l (Lp x)).length)→ag (K 22) tm2=some (I 0)→
   W C (.loop ij) (aG 0 (aW (iT C (.seq (.staged dG ⟨[K 38,K 39,K 40,K 41,K 42,K 43,K 44,K 45,K 46,K 47,K 48,K 49,K 50,K 51,K 52,K 53,K 54,K 55],[]⟩) (.seq (.staged ik ⟨[K 56,K 57,K 58,K 59,K 60,K 61,K 62,K 63,K 64,K 65],[]⟩) (.seq (.ops gI) .ret))) (fQ [.tmp (K 4)] (PI n0 l x br bm cS oC E h nx))) (fQ [.tmp (K 4)] (PI n0 l x br bm cS oC E h nx)))) tm2 h2 bu:=by
  intro tm2 q0 q3 q5 q20 q21 q22;refine am7 S H hl NP hx (g:=Lp x) R2 aru b2 (by omega) (m:=(Pz l (Lp x)).length) ⟨0,by simp,by omega,q0,q3,q5,q20,by rw[q21,RJ],by simpa using q22,Ext.refl _ _,fun p _ hp=>absurd hp (by omega)⟩ ?_ ?_
  ·intro aD h' nx' j hj q4 e';have Tk:x∈l:=List.mem_of_getElem? hj;have DN:fu l x=l:=by unfold fu;rw[if_pos Tk]
   have e13:=e12.trans e';simp[q4];exact⟨⟨j,cC,oC,E,by rw[DN];exact hj,rfl,by rw[DN];exact R.ext e13,fun b hb=>.inl hb⟩,e13.n,fun b hb _ _ _ _=>e13.g b hb⟩
  ·intro aD h' nx' q0' q3' q5' e' AB;have Tk:x∉l:=fun hm=>by
    obtain⟨j,hj,e⟩:=List.getElem_of_mem hm;have hj2:l[j]?=some x:=by rw[pY hj,e]
    exact AB j (Ys.2 ⟨x,hj2,rfl⟩) hj2
   have e13:=e12.trans e';have n13:=e13.n;have n':=e'.n;have R3:=R2.ext e';have OV:∀b:Key,b.toNat<nx.toNat→b≠nx:=fun b hb e=>by rw[e]at hb;omega
   simp only[qD];refine asD (C:=C) hl Tk (b3:=nx) (by omega) R3 (B.ext e') (by rw[e'.g nx (by omega)];exact b2) (by omega) ⟨fun e=>OV br R.brn e.symm,fun e=>OV bm R.bmn e.symm,fun e=>OV nx (R.C.lt nx e) rfl,fun y hy e=>OV nx ((R.B y hy).lt nx e) rfl⟩ q0' q3' q5' (fun h4 kK A=>?_);exact PI.lift e13 A
 rcases B.m with⟨hm,rfl⟩|hm
 ·rw[hm]at hfk;have hl0:(Vp l (Lp x)).length=0:=by
   rcases B.gr with⟨_,_,e,_⟩|⟨b,k,_,e,_⟩|⟨t,_,e,_⟩
   ·exact e
   ·cases e
   ·cases e
  rw[hl0]at main;simp[-findK,kW,R2.BO,R2.map,hfk];refine main _ ?_ ?_ ?_ ?_ ?_ ?_<;>simp
 ·rw[hm]at hfk;simp[-findK,kW,R2.BO,R2.map,hfk,↓aru.ln];refine main _ ?_ ?_ ?_ ?_ ?_ ?_<;>simp
end Ln
namespace Ln
open Go.Sx Go
variable{σ:Type}[DecidableEq σ]
theorem KM:∀(a l b:List (Cf σ)),gB l (a++b)=match gB l a with|none=>none|some l'=>gB l' b
 | [],l,b=>rfl
 |c ::a,l,b=>by
  show(if (fu l c).length>1024 then none else gB (fu l c) (a++b))=(match (if (fu l c).length>1024 then none else gB (fu l c) a)with|none=>none|some l'=>gB l' b);by_cases h:(fu l c).length>1024
  ·rw[if_pos h,if_pos h]
  ·rw[if_neg h,if_neg h];exact KM a (fu l c) b
theorem aei(l:List (Cf σ))(c:Cf σ):gB l [c]=if (fu l c).length>1024 then none else some (fu l c):=rfl
def w7(S:Sys σ)(l:List (Cf σ))(c:Cf σ)(k:Nat):Option (List (Cf σ)):=gB l ((S.j6 c k).map (·.2))
theorem aav(S:Sys σ)(l:List (Cf σ))(c:Cf σ):w7 S l c 0=some l:=rfl
theorem aaw{S:Sys σ}{l:List (Cf σ)}{c:Cf σ}{k:Nat}(h:S.step c k=none):w7 S l c (k+1)=w7 S l c k:=by unfold w7;rw[j7,h];simp
theorem Pu{S:Sys σ}{l lk:List (Cf σ)}{c:Cf σ}{k:Nat}{x:Nat×Cf σ}(h:S.step c k=some x)(hk:w7 S l c k=some lk):w7 S l c (k+1)=if (fu lk x.2).length>1024 then none else some (fu lk x.2):=by unfold w7 at *;rw[j7,h,List.map_append,KM,hk];exact aei lk x.2
theorem aax{S:Sys σ}{l:List (Cf σ)}{c:Cf σ}{k:Nat}(hk:k≤S.n)(h:w7 S l c k=none):gB l ((S.steps c).map (·.2))=none:=by obtain⟨t,e⟩:=Ha S c hk;rw[WB]at e;rw[e,List.map_append,KM];unfold w7 at h;rw[h]
theorem aej{S:Sys σ}{l lk:List (Cf σ)}{c:Cf σ}{k:Nat}(h:w7 S l c k=some lk):(∃t,lk=l++t)∧∀x∈S.j6 c k,x.2∈lk:=by obtain⟨h1,h2,_⟩:=qd h;exact⟨h1,fun x hx=>h2 _ (NI.2 ⟨x,hx,rfl⟩)⟩
def A6(S:Sys σ)(l:List (Cf σ))(c:Cf σ)(k:Nat):List (Nat×Nat):=(S.j6 c k).map fun x=>(x.1,l.idxOf x.2)
theorem ai7{S:Sys σ}{l t:List (Cf σ)}{c:Cf σ}{k:Nat}(h:∀x∈S.j6 c k,x.2∈l):A6 S (l++t) c k=A6 S l c k:=by unfold A6;refine List.map_congr_left fun x hx=>?_;rw[ahl (h x hx)]
theorem ama(l:List (Cf σ))(x:Cf σ):∃t,fu l x=l++t:=by
 unfold fu;split
 ·exact⟨[],by simp⟩
 ·exact⟨[x],rfl⟩
theorem aek{S:Sys σ}{l:List (Cf σ)}{c:Cf σ}{k:Nat}{x:Nat×Cf σ}(h:S.step c k=some x)(hl:∀y∈S.j6 c k,y.2∈l):A6 S (fu l x.2) c (k+1)=A6 S l c k ++ [(x.1,(fu l x.2).idxOf x.2)]:=by obtain⟨t,e⟩:=ama l x.2;have:=ai7 (t:=t) hl;rw[←e]at this;rw[←this];unfold A6;rw[j7,h,List.map_append];rfl
def eT(p:Nat×Nat):List AV:=[I (p.1:Int),I (p.2:Int)]
theorem hJ:Flat 2 eT where
 len _:=rfl
 wU x y hy:=by
  simp[eT]at hy;rcases hy with rfl|rfl
  ·exact c5 _ _
  ·exact c5 _ _
 cell x y hy:=by simp[eT]at hy;rcases hy with rfl|rfl<;>rfl
 lits x:=by simp[eT,AV.dU,AV.lits,I]
end Ln
namespace Ln
open Go.Sx Go
structure Exp(n0:Key)(lk:List (Cf St))(st:List (Nat×Nat))(br bm b4 b6:Key)(cC cS c6:AV)(oC o6:Option Key)(E:List Bk)(h:T ah)(nx:Key):Prop where
 R:Vg n0 lk br bm cC cS oC E h nx
 v4:ag b4 h=QZ [.ptr br 0]
 v6:ag b6 h=QZ [c6]
 G6:Gr 2 c6 (aq eT st) st.length h nx o6
 lt:b4.toNat<nx.toNat∧b6.toNat<nx.toNat
 ne:b4≠br∧b4≠bm∧b4≠b6∧b6≠br∧b6≠bm
 ap:∀b,(oC=some b∨∃e∈E,e.o=some b)→b≠b4∧b≠b6∧o6≠some b
 o6:∀b,o6=some b→b≠br∧b≠bm∧b≠b4∧b≠b6∧n0.toNat≤b.toNat
 ge:n0.toNat≤b4.toNat∧n0.toNat≤b6.toNat
def j8(br bm b6:Key)(oC o6:Option Key)(E:List Bk)(b:Key):Prop:=b=br∨b=bm∨b=b6∨oC=some b∨(∃e∈E,e.o=some b)∨o6=some b
theorem Exp.ge'{n0:Key}{lk:List (Cf St)}{st:List (Nat×Nat)}{br bm b4 b6:Key}{cC cS c6:AV}{oC o6:Option Key}{E:List Bk}{h:T ah}{nx:Key}(A:Exp n0 lk st br bm b4 b6 cC cS c6 oC o6 E h nx){b:Key}(hb:j8 br bm b6 oC o6 E b):n0.toNat≤b.toNat:=by
 rcases hb with rfl|rfl|rfl|hb|⟨e,he,hb⟩|hb
 ·exact A.R.bb.2.1
 ·exact A.R.bb.2.2
 ·exact A.ge.2
 ·exact(A.R.ow b (.inl hb)).2.2
 ·exact(A.R.ow b (.inr ⟨e,he,hb⟩)).2.2
 ·exact(A.o6 b hb).2.2.2.2
theorem Vg.cv{n0:Key}{l:List (Cf St)}{br bm:Key}{cC cS:AV}{oC:Option Key}{E:List Bk}{h h':T ah}{nx nx':Key}(R:Vg n0 l br bm cC cS oC E h nx)(hn:nx.toNat≤nx'.toNat)(hk:∀b,(b=br∨b=bm∨oC=some b∨∃e∈E,e.o=some b)→ag b h'=ag b h):Vg n0 l br bm cC cS oC E h' nx':=
 ⟨by rw[hk br (.inl rfl)];exact R.BO,by rw[hk bm (.inr (.inl rfl))];exact R.map,by have:=R.brn;omega,by have:=R.bmn;omega,R.C.cv hn fun b hb=>hk b (.inr (.inr (.inl hb))),fun x hx=>(R.B x hx).cv hn fun b hb=>hk b (.inr (.inr (.inr ⟨x,hx,hb⟩))),R.nd,R.cov,R.ai9,R.sep,R.ow,R.cs,R.bb⟩
theorem Vg.olt{n0:Key}{l:List (Cf St)}{br bm:Key}{cC cS:AV}{oC:Option Key}{E:List Bk}{h:T ah}{nx:Key}(R:Vg n0 l br bm cC cS oC E h nx){b:Key}(hb:oC=some b∨∃e∈E,e.o=some b):b.toNat<nx.toNat:=by
 rcases hb with hb|⟨e,he,hb⟩
 ·exact R.C.lt b hb
 ·exact(R.B e he).lt b hb
variable{C:bP}{X:Kn}(S:Std C X)(H:O0 C)
include S H
theorem aAM{n0:Key}{lk:List (Cf St)}(hl:lk.length≤9000)(NP:∀y∈lk,y.2.kids.length≤3){x:Cf St}(hx:x.2.kids.length≤3){st:List (Nat×Nat)}(fj:st.length≤1000){br bm b4 b6 b8:Key}{cC cS c6:AV}{oC o6:Option Key}{E:List Bk}{h:T ah}{nx:Key}(A:Exp n0 lk st br bm b4 b6 cC cS c6 oC o6 E h nx)(hn0:n0.toNat≤nx.toNat)(v8:ag b8 h=QZ (eC x))(b8n:b8.toNat<nx.toNat){k:Nat}{Q:cH}{tm:T AV}(g4:ag (K 4) tm=some (.ptr b4 0))(g6:ag (K 6) tm=some (.ptr b6 0))(g7:ag (K 7) tm=some (I (k:Int)))(g8:ag (K 8) tm=some (.ptr b8 0))
  (hQ:∀aD h' nx' j cC' c6' MA o6' E',(fu lk x)[j]?=some x→Exp n0 (fu lk x) (st ++ [(k,j)]) br bm b4 b6 cC' cS c6' MA o6' E' h' nx'→nx.toNat≤nx'.toNat→(∀b:Key,b.toNat<nx.toNat→¬j8 br bm b6 oC o6 E b→ag b h'=ag b h)→(∀b,j8 br bm b6 MA o6' E' b→j8 br bm b6 oC o6 E b∨nx.toNat≤b.toNat)→ag (K 4) aD=some (.ptr b4 0)→ag (K 2) aD=ag (K 2) tm→ag (K 3) aD=ag (K 3) tm→Q .norm aD h' nx') :
  iT C (.staged bY ⟨[K 38,K 39,K 40,K 41,K 42,K 43,K 44,K 45],[]⟩) Q tm h nx:=by
 have rA:=S.r di;have k6:=A.G6.cell;have b6q:AV.beq c6 c6=true:=A.G6.lits hJ;simp[bY,g4,g6,g7,g8,A.v4,A.v6,v8,ED,ael,rA,S7];refine(amg S H (by omega) NP hx hn0 A.R).mono ?_;rintro o h2 bu ⟨⟨j,cC2,oC2,E2,hj,rfl,R2,how⟩,n2,k2⟩;have s2:=kTSu bu;have nm:∀b:Key,b.toNat<nx.toNat→b≠br→b≠bm→oC≠some b→(∀e∈E,e.o≠some b)→ag b h2=ag b h:=k2;have v62:ag b6 h2=QZ [c6]:=by rw[nm b6 A.lt.2 A.ne.2.2.2.1 A.ne.2.2.2.2 (fun e=>(A.ap b6 (.inl e)).2.1 rfl) (fun e he ho=>(A.ap b6 (.inr ⟨e,he,ho⟩)).2.1 rfl)];exact A.v6
 have v42:ag b4 h2=QZ [.ptr br 0]:=by rw[nm b4 A.lt.1 A.ne.1 A.ne.2.1 (fun e=>(A.ap b4 (.inl e)).1 rfl) (fun e he ho=>(A.ap b4 (.inr ⟨e,he,ho⟩)).1 rfl)];exact A.v4
 have G62:Gr 2 c6 (aq eT st) st.length h2 bu o6:=A.G6.cv n2 fun b hb=>by have h1:=A.o6 b hb;exact nm b (A.G6.lt b hb) h1.1 h1.2.1 (fun e=>(A.ap b (.inl e)).2.2 hb) (fun e he ho=>(A.ap b (.inr ⟨e,he,ho⟩)).2.2 hb)
 have hET:eT (k,j)=[I (k:Int),I (j:Int)]:=rfl;have e3:=E0 h2 bu (.cells (eT (k,j)) .fix);obtain⟨c7,h4,kK,o7,ha,G7,F7⟩:=(G62.ext e3).Z7 hJ (by decide) (by decide) (by omega) (k,j);have F27:=(Qs.ahp e3 o6).trans F7;rw[hET]at ha;have n4:=F27.n;have k7:=G7.cell;have v64:ag b6 h4=QZ [c6]:=by rw[F27.g b6 (by have:=A.lt.2;omega) (fun e=>(A.o6 b6 e).2.2.2.1 rfl)];exact v62
 simp[-appendTo,g4,g6,g7,v62,v64,b6q,ha,k6.1,k6.2,k7.1,k7.2];have o7n:∀b:Key,o7=some b→o6=some b∨bu.toNat≤b.toNat:=fun b hb=>by
  rcases F27.o with e|⟨y,e,hy⟩
  ·rw[e]at hb;exact .inl hb
  ·rw[e]at hb;cases hb;exact .inr hy
 have l4:=A.lt.1;have l6:=A.lt.2;have lr:=A.R.brn;have lm:=A.R.bmn;have ow2:∀b:Key,(oC2=some b∨∃e∈E2,e.o=some b)→b≠b4∧b≠b6∧o6≠some b:=fun b hb=>by
  rcases how b hb with h1|h1
  ·exact A.ap b h1
  ·exact⟨fun e=>by rw[e]at h1;omega,fun e=>by rw[e]at h1;omega,fun e=>by have:=A.G6.lt b e;omega⟩
 have aF6:o7≠some b6:=fun e=>by
  rcases o7n b6 e with h1|h1
  ·exact(A.o6 b6 h1).2.2.2.1 rfl
  ·omega
 have same:∀b:Key,b.toNat<bu.toNat→b≠b6→o6≠some b→ag b (aw b6 (QZ [c7]) h4)=ag b h2:=fun b hb h1 h2=>by rw[aP _ _ _ _ h1,F27.g b hb h2]
 refine hQ _ _ _ j cC2 c7 oC2 o7 E2 hj ⟨?_,?_,by simp,?_,by omega,A.ne,?_,?_,A.ge⟩ (by omega) ?_ ?_ (by simp[g4]) (by simp) (by simp)
 ·refine R2.cv n4 fun b hb=>?_;rcases hb with rfl|rfl|hb|hb
  ·exact same _ R2.brn (Ne.symm A.ne.2.2.2.1) (fun e=>(A.o6 _ e).1 rfl)
  ·exact same _ R2.bmn (Ne.symm A.ne.2.2.2.2) (fun e=>(A.o6 _ e).2.1 rfl)
  ·have h1:=ow2 b (.inl hb);exact same b (R2.olt (.inl hb)) h1.2.1 h1.2.2
  ·have h1:=ow2 b (.inr hb);exact same b (R2.olt (.inr hb)) h1.2.1 h1.2.2
 ·rw[same b4 (by omega) A.ne.2.2.1 (fun e=>(A.o6 b4 e).2.2.1 rfl)];exact v42
 ·exact G7.cv (fE _) fun b hb=>aP _ _ _ _ (fun e=>aF6 (by rw[hb,e]))
 ·intro b hb;have h1:=ow2 b hb;refine⟨h1.1,h1.2.1,fun e=>?_⟩;rcases o7n b e with h2|h2
  ·exact h1.2.2 h2
  ·have:=R2.olt hb;omega
 ·intro b hb;rcases o7n b hb with h1|h1
  ·exact A.o6 b h1
  ·exact⟨fun e=>by rw[e]at h1;omega,fun e=>by rw[e]at h1;omega,fun e=>by rw[e]at h1;omega,fun e=>by rw[e]at h1;omega,by omega⟩
 ·intro b hb hm;unfold j8 at hm;simp only[not_or]at hm;rw[same b (by omega) hm.2.2.1 hm.2.2.2.2.2,nm b hb hm.1 hm.2.1 hm.2.2.2.1 (fun e he ho=>hm.2.2.2.2.1 ⟨e,he,ho⟩)]
 ·rintro b (rfl|rfl|rfl|hb|⟨e,he,hb⟩|hb)
  ·exact .inl (.inl rfl)
  ·exact .inl (.inr (.inl rfl))
  ·exact .inl (.inr (.inr (.inl rfl)))
  ·rcases how b (.inl hb)with h1|h1
   ·exact .inl (by
     rcases h1 with h1|h1
     ·exact .inr (.inr (.inr (.inl h1)))
     ·exact .inr (.inr (.inr (.inr (.inl h1)))))
   ·exact .inr h1
  ·rcases how b (.inr ⟨e,he,hb⟩)with h1|h1
   ·exact .inl (by
     rcases h1 with h1|h1
     ·exact .inr (.inr (.inr (.inl h1)))
     ·exact .inr (.inr (.inr (.inr (.inl h1)))))
   ·exact .inr h1
  ·rcases o7n b hb with h1|h1
   ·exact .inl (.inr (.inr (.inr (.inr (.inr h1)))))
   ·exact .inr (by omega)
end Ln
namespace Ln
open Go.Sx Go
theorem _root_.Go.Sx.Gr.ct{z:Nat}{c:AV}{l:List AV}{len:Nat}{h:T ah}{nx:Key}{ob:Option Key}(g:Gr z c l len h nx ob){b:Key}(hb:ob=some b):(∃l k,ag b h=some (.cells l k))∨ag b h=some .tok:=by
 rcases g with⟨_,_,_,e⟩|⟨b',k,e,_,h1,_⟩|⟨t,e,_,h1,_⟩
 ·rw[e]at hb;cases hb
 ·rw[e]at hb;cases hb;exact .inl ⟨_,_,h1⟩
 ·rw[e]at hb;cases hb;exact .inr h1
theorem Exp.ct{n0:Key}{lk:List (Cf St)}{st:List (Nat×Nat)}{br bm b4 b6:Key}{cC cS c6:AV}{oC o6:Option Key}{E:List Bk}{h:T ah}{nx:Key}(A:Exp n0 lk st br bm b4 b6 cC cS c6 oC o6 E h nx){b:Key}(hb:j8 br bm b6 oC o6 E b):b.toNat<nx.toNat∧((∃l k,ag b h=some (.cells l k))∨ag b h=some .tok∨∃l,ag b h=some (.map l)):=by
 rcases hb with rfl|rfl|rfl|hb|⟨e,he,hb⟩|hb
 ·exact⟨A.R.brn,.inl ⟨_,_,A.R.BO⟩⟩
 ·exact⟨A.R.bmn,.inr (.inr ⟨_,A.R.map⟩)⟩
 ·exact⟨A.lt.2,.inl ⟨_,_,A.v6⟩⟩
 ·refine⟨A.R.C.lt b hb,?_⟩;rcases A.R.C.ct hb with h1|h1
  ·exact .inl h1
  ·exact .inr (.inl h1)
 ·refine⟨(A.R.B e he).lt b hb,?_⟩;rcases (A.R.B e he).ct hb with h1|h1
  ·exact .inl h1
  ·exact .inr (.inl h1)
 ·refine⟨A.G6.lt b hb,?_⟩;rcases A.G6.ct hb with h1|h1
  ·exact .inl h1
  ·exact .inr (.inl h1)
theorem Exp.cv{n0:Key}{lk:List (Cf St)}{st:List (Nat×Nat)}{br bm b4 b6:Key}{cC cS c6:AV}{oC o6:Option Key}{E:List Bk}{h h':T ah}{nx nx':Key}(A:Exp n0 lk st br bm b4 b6 cC cS c6 oC o6 E h nx)(hn:nx.toNat≤nx'.toNat)(hk:∀b,(j8 br bm b6 oC o6 E b∨b=b4)→ag b h'=ag b h):Exp n0 lk st br bm b4 b6 cC cS c6 oC o6 E h' nx':=
 ⟨A.R.cv hn fun b hb=>hk b (.inl (by
  rcases hb with h1|h1|h1|h1
  ·exact .inl h1
  ·exact .inr (.inl h1)
  ·exact .inr (.inr (.inr (.inl h1)))
  ·exact .inr (.inr (.inr (.inr (.inl h1)))))),by rw[hk b4 (.inr rfl)];exact A.v4,by rw[hk b6 (.inl (.inr (.inr (.inl rfl))))];exact A.v6,A.G6.cv hn fun b hb=>hk b (.inl (.inr (.inr (.inr (.inr (.inr hb)))))),by have:=A.lt;omega,A.ne,A.ap,A.o6,A.ge⟩
variable{C:bP}{X:Kn}(S:Std C X)(H:O0 C)
include S H
theorem asA{n0:Key}{lk:List (Cf St)}(hl:lk.length≤9000)(NP:∀y∈lk,y.2.kids.length≤3){x:Cf St}(hx:x.2.kids.length≤3){st:List (Nat×Nat)}(fj:st.length≤1000){br bm b4 b6 b8 r2 r3:Key}{cC cS c6:AV}{oC o6:Option Key}{E:List Bk}{h:T ah}{nx:Key}(A:Exp n0 lk st br bm b4 b6 cC cS c6 oC o6 E h nx)(hn0:n0.toNat≤nx.toNat)(v8:ag b8 h=QZ (eC x))(b8n:b8.toNat<nx.toNat){u2 u3:AV}(w2:ag r2 h=QZ [u2])(w3:ag r3 h=QZ [u3])(wn:r2.toNat<nx.toNat∧r3.toNat<nx.toNat)(wm:¬j8 br bm b6 oC o6 E r2∧¬j8 br bm b6 oC o6 E r3∧r2≠r3){k:Nat}{Q:cH}{tm:T AV}(g2:ag (K 2) tm=some (.ptr r2 0))(g3:ag (K 3) tm=some (.ptr r3 0))(g4:ag (K 4) tm=some (.ptr b4 0))(g6:ag (K 6) tm=some (.ptr b6 0))(g7:ag (K 7) tm=some (I (k:Int)))(g8:ag (K 8) tm=some (.ptr b8 0))
  (aoR:∀aD h' nx',1024<(fu lk x).length→ag r2 h'=QZ [.nilp]→ag r3 h'=QZ [I 4]→nx.toNat≤nx'.toNat→(∀b:Key,b.toNat<nx.toNat→¬j8 br bm b6 oC o6 E b→b≠r2→b≠r3→ag b h'=ag b h)→Q .ret aD h' nx')
  (TF:∀aD h' nx' j cC' c6' MA o6' E',¬1024<(fu lk x).length→(fu lk x)[j]?=some x→Exp n0 (fu lk x) (st ++ [(k,j)]) br bm b4 b6 cC' cS c6' MA o6' E' h' nx'→nx.toNat≤nx'.toNat→(∀b:Key,b.toNat<nx.toNat→¬j8 br bm b6 oC o6 E b→ag b h'=ag b h)→(∀b,j8 br bm b6 MA o6' E' b→j8 br bm b6 oC o6 E b∨nx.toNat≤b.toNat)→Q .norm aD h' nx') :
  iT C (.block 3 (.seq (.staged bY ⟨[K 38,K 39,K 40,K 41,K 42,K 43,K 44,K 45],[]⟩) (.seq (.ops bT) (.cond (.t (K 51)) (.seq (.ops cz) .ret) .skip)))) Q tm h nx:=by
 simp only[jl,dO];refine aAM S H hl NP hx fj A hn0 v8 b8n g4 g6 g7 g8 (fun tm2 h2 bu j cC2 c62 oC2 o62 E2 hj A2 n2 k2 m2 p4 p2 p3=>?_);rw[g2]at p2;rw[g3]at p3;have hR2:=A2.R.C.rd;have w22:ag r2 h2=QZ [u2]:=by rw[k2 r2 wn.1 wm.1];exact w2
 have w32:ag r3 h2=QZ [u3]:=by rw[k2 r3 wn.2 wm.2.1];exact w3
 by_cases hov:1024<(fu lk x).length
 ·have axY:(1024:Int)<(fu lk x).length:=by omega
  simp[↓hR2.ln,bT,p4,A2.v4,A2.R.BO,axY];have w33:ag r3 (aw r2 (QZ [.nilp]) h2)=QZ [u3]:=by rw[aP _ _ _ _ (Ne.symm wm.2.2)];exact w32
  simp[cz,p2,p3,w22,w33];refine aoR _ _ _ hov ?_ (by simp) n2 (fun b hb hm h1 h3=>?_)
  ·rw[aP _ _ _ _ wm.2.2];simp
  ·rw[aP _ _ _ _ h3,aP _ _ _ _ h1];exact k2 b hb hm
 ·have axY:¬(1024:Int)<(fu lk x).length:=by omega
  simp[↓hR2.ln,bT,p4,A2.v4,A2.R.BO,axY];exact TF _ _ _ j cC2 c62 oC2 o62 E2 hov hj A2 n2 k2 m2
end Ln
namespace Ln
open Go.Sx Go
structure RnI(X:Kn)(i:Nat)(os:List Op)(c:Cf St)(n0:Key)(l0:List (Cf St))(br bm b4 b6 lk d:Key)(cS:AV)(M0:Key→Prop)(ds:List Key)(L:ah)(hA:T ah)(nxA:Key)(k:Nat)(h:T ah)(nx:Key):Prop where
 a:∃(lk:List (Cf St)) (cC c6:AV) (oC o6:Option Key) (E:List Bk),w7 (aY X i os) l0 c k=some lk∧Exp n0 lk (A6 (aY X i os) lk c k) br bm b4 b6 cC cS c6 oC o6 E h nx∧(∀b,j8 br bm b6 oC o6 E b→M0 b∨nxA.toNat≤b.toNat)
 n:nxA.toNat≤nx.toNat
 g:∀b:Key,b.toNat<nxA.toNat→¬M0 b→ag b h=ag b hA
theorem RnI.ext{X:Kn}{i:Nat}{os:List Op}{c:Cf St}{n0:Key}{l0:List (Cf St)}{br bm b4 b6 lk d:Key}{cS:AV}{M0:Key→Prop}{ds:List Key}{L:ah}{hA:T ah}{nxA:Key}{k:Nat}{h h':T ah}{nx nx':Key}(I:RnI X i os c n0 l0 br bm b4 b6 lk d cS M0 ds L hA nxA k h nx)(e:Ext h nx h' nx'):RnI X i os c n0 l0 br bm b4 b6 lk d cS M0 ds L hA nxA k h' nx':=by
 have n:=e.n;have nI:=I.n;obtain⟨l,cC,c6,oC,o6,E,h1,h2,h3⟩:=I.a;refine⟨⟨l,cC,c6,oC,o6,E,h1,h2.cv n fun b hb=>e.g b ?_,h3⟩,by omega,fun b hb hm=>by rw[e.g b (by omega)];exact I.g b hb hm⟩;rcases hb with hb|rfl
 ·exact(h2.ct hb).1
 ·exact h2.lt.1
variable{C:bP}{X:Kn}(S:Std C X)(H:O0 C)
include S H
theorem aoQ{i:Nat}(hi:i<3){os:List Op}(BK:yx i os=0)(wK:∀o∈os,before o o=false)(ho:os.length≤16){cO:AV}(hcO:nW 10 eO cO os){n0:Key}{l0:List (Cf St)}(hl0:l0.length≤1024)(Ge:l0.Nodup)(NP:∀y∈l0,jL i y.2){c:Cf St}(hc:c∈l0)(cQ:c.1<2^os.length){br bm b4 b6 bj b2 b3 r2 r3:Key}{cC cS:AV}{oC:Option Key}{E:List Bk}{u2 u3:AV}{h:T ah}{nx:Key}(A:Exp n0 l0 [] br bm b4 b6 cC cS .nils oC none E h nx)(hn0:n0.toNat≤nx.toNat)
  (vj:ag bj h=QZ (jB X i cO (bJ i) (im os os.length))) (v2:ag b2 h=QZ [.ptr bj 0]) (v3:ag b3 h=QZ (eC c)) (w2:ag r2 h=QZ [u2]) (w3:ag r3 h=QZ [u3]) (lt:bj.toNat<nx.toNat∧b2.toNat<nx.toNat∧b3.toNat<nx.toNat∧r2.toNat<nx.toNat∧r3.toNat<nx.toNat) (nm:∀b,(b=bj∨b=b2∨b=b3∨b=r2∨b=r3)→¬j8 br bm b6 oC none E b) (r23:r2≠r3) (rge:n0.toNat≤r2.toNat∧n0.toNat≤r3.toNat)
  {Q:qo} {ds:List Key} (D:lX n0 ds h nx) {tm:T AV} (g35:ag (K 35) tm=some (.fn bZ [] [.ptr b2 0,.ptr b3 0])) (g2:ag (K 2) tm=some (.ptr r2 0)) (g3:ag (K 3) tm=some (.ptr r3 0)) (g4:ag (K 4) tm=some (.ptr b4 0)) (g6:ag (K 6) tm=some (.ptr b6 0))
  (aoR:∀d Ce h' nx',Ce=d ::ds→gB l0 (((aY X i os).steps c).map (·.2))=none→ag r2 h'=QZ [.nilp]→ag r3 h'=QZ [I 4]→lX n0 Ce h' nx'→(∀b:Key,b.toNat<n0.toNat→ag b h'=ag b h)→nx.toNat≤nx'.toNat→Q .ret Ce tm h' nx')
  (TF:∀d Ce h' nx' l' cC' c6' MA o6' E',Ce=d ::ds→gB l0 (((aY X i os).steps c).map (·.2))=some l'→Exp n0 l' (rowOf (aY X i os) l' c) br bm b4 b6 cC' cS c6' MA o6' E' h' nx'→(∀b,j8 br bm b6 MA o6' E' b→j8 br bm b6 oC none E b∨nx.toNat≤b.toNat)→lX n0 Ce h' nx'→(∀b:Key,b.toNat<nx.toNat→¬j8 br bm b6 oC none E b→ag b h'=ag b h)→nx.toNat≤nx'.toNat→Q .norm Ce tm h' nx') :
  V C (.rangeF (.t (K 35)) [K 36,K 37] (.seq (.ops dM) (.ops dN)) (.block 3 (.seq (.staged bY ⟨[K 38,K 39,K 40,K 41,K 42,K 43,K 44,K 45],[]⟩) (.seq (.ops bT) (.cond (.t (K 51)) (.seq (.ops cz) .ret) .skip))))) Q ds tm h nx:=by
 have hd:c.1<65536:=O5 cQ (zC ho);have hs:=NP c hc;have s1:=kTSu nx;have s2:=kTSu nx.succ;refine V.rangeF (g:=bZ) (first:=[]) (cap:=[.ptr b2 0,.ptr b3 0]) g35 S.jd.off ?_;intro fn res;have e1:=(E0 h nx (.dfs false)).trans (E0 _ nx.succ (.loop .ready none fn tm res [K 36,K 37] (.seq (.ops dM) (.ops dN)) (.block 3 (.seq (.staged bY ⟨[K 38,K 39,K 40,K 41,K 42,K 43,K 44,K 45],[]⟩) (.seq (.ops bT) (.cond (.t (K 51)) (.seq (.ops cz) .ret) .skip)))) nx));generalize hba:(aK.seq (.ops dM) (.ops dN))=ca at *;generalize aKq:(aK.block 3 (.seq (.staged bY ⟨[K 38,K 39,K 40,K 41,K 42,K 43,K 44,K 45],[]⟩) (.seq (.ops bT) (.cond (.t (K 51)) (.seq (.ops cz) .ret) .skip))))=body at *;have MW:nx∉ds:=fun hm=>by have:=D.lt nx hm;omega
 have gd:ag nx (qp fn tm res [K 36,K 37] ca body h nx)=some (.dfs false):=by unfold qp;rw[aA (by omega)];simp
 have gl:ag nx.succ (qp fn tm res [K 36,K 37] ca body h nx)=some (.loop .ready none fn tm res [K 36,K 37] ca body nx):=by unfold qp;simp
 have Gi:Ext h nx (qp fn tm res [K 36,K 37] ca body h nx) nx.succ.succ:=e1;generalize qp fn tm res [K 36,K 37] ca body h nx=hA at *;have A1:=A.cv (h':=hA) (nx':=nx.succ.succ) Gi.n (fun b hb=>Gi.g b (by
  rcases hb with hb|rfl
  ·exact(A.ct hb).1
  ·exact A.lt.1))
 have D1:lX n0 (nx ::ds) hA nx.succ.succ:=(D.ext Gi).cons MW gd hn0 (by omega);have hM:∀b,j8 br bm b6 oC none E b→b.toNat<nx.toNat:=fun b hb=>(A.ct hb).1;refine ajA S hi BK wK ho hcO hd hs (bj:=bj) (b2:=b2) (b3:=b3) (lk:=nx.succ) (c:=c) (s0:=bJ i) (Inv:=fun k h' nx'=>RnI X i os c n0 l0 br bm b4 b6 nx.succ nx cS (j8 br bm b6 oC none E) ds .tok hA nx.succ.succ k h' nx') ⟨?_,?_,?_,?_,?_⟩ ⟨⟨l0,cC,.nils,oC,none,E,aav _ _ _,A1,fun b hb=>.inl hb⟩,fE _,fun _ _ _=>rfl⟩
 ·rintro k h1 bw h2 bu I e;exact I.ext e
 ·rintro k h1 bw I;have n1:=I.n;refine⟨?_,?_,?_,by omega,by omega,by omega⟩
  ·rw[I.g bj (by omega) (nm bj (.inl rfl)),Gi.g bj lt.1];exact vj
  ·rw[I.g b2 (by omega) (nm b2 (.inr (.inl rfl))),Gi.g b2 lt.2.1];exact v2
  ·rw[I.g b3 (by omega) (nm b3 (.inr (.inr (.inl rfl)))),Gi.g b3 lt.2.2.1];exact v3
 ·rintro k h1 bw hk fj I;obtain⟨l,cC1,c61,oC1,o61,E1,yG,Nq,UA⟩:=I.a;refine⟨⟨l,cC1,c61,oC1,o61,E1,by rw[aaw fj];exact yG,?_,UA⟩,I.n,I.g⟩;have:A6 (aY X i os) l c (k+1)=A6 (aY X i os) l c k:=by unfold A6;rw[j7,fj];simp
  rw[this];exact Nq
 ·rintro k x h1 bw hk fj J0;obtain⟨l,cC1,c61,oC1,o61,E1,hgr,A2,how⟩:=J0.a;have n1:=J0.n;have t1:=kTSu bw;have hsp:=qd hgr;have hll:l.length≤1024:=hsp.2.2.2.1 hl0;have hxs:∀z∈(aY X i os).steps c,jL i z.2.2:=Wn S hi BK hs;have aKr:(k,x)∈(aY X i os).steps c:=by obtain⟨b,e⟩:=agz (aY X i os) c hk fj;rw[e];simp
  have UB:∀y∈l,y.2.kids.length≤3:=fun y hy=>by
   rcases hsp.2.2.2.2 y hy with h1|h1
   ·exact aab (NP y h1)
   ·obtain⟨z,hz,rfl⟩:=NI.1 h1;obtain⟨t,e⟩:=Ha (aY X i os) c (Nat.le_of_lt hk);have e':(aY X i os).steps c=(aY X i os).j6 c k++t:=e;exact aab (hxs z (by rw[e'];exact List.mem_append_left _ hz))
  have hx3:=aab (hxs (k,x) aKr);have aKs:(A6 (aY X i os) l c k).length≤1000:=by unfold A6 Sys.j6;rw[List.length_map];have:=List.length_filterMap_le ((aY X i os).step c) (List.range k);rw[List.length_range]at this;have Jn:k<os.length:=hk;omega
  have flk:ag nx.succ h1=some (.loop .ready none fn tm res [K 36,K 37] ca body nx):=by rw[J0.g nx.succ (by omega) (fun hm=>by have:=hM _ hm;omega)];exact gl
  have lkM:¬j8 br bm b6 oC1 o61 E1 nx.succ:=fun hm=>by rcases (A2.ct hm).2 with⟨_,_,e⟩|e|⟨_,e⟩<;>rw[flk]at e<;>cases e
  suffices hs2:∀R1:Out→T ah→Key→Prop,(∀h' nx',RnI X i os c n0 l0 br bm b4 b6 nx.succ nx cS (j8 br bm b6 oC none E) ds .tok hA nx.succ.succ (k+1) h' nx'→R1 (.ret (.bool true)) h' nx')→(∀h' nx',aiv Q nx nx.succ fn tm res [K 36,K 37] ca body ds (.ret (.tuple [])) h' nx'→R1 (.ret (.bool false)) h' nx')→CI C nx.succ [I k,.agg (eC x)] h1 bw R1 from
   hs2 _ (fun _ _ h=>.inl ⟨rfl,h⟩) (fun _ _ h=>.inr ⟨rfl,h⟩)
  intro R1 hT hF;refine CI.intro (fun tm2 h2 bu=>bu=bw.succ∧h2=aw bw (QZ (eC x)) h1∧ag (K 7) tm2=some (I k)∧ag (K 8) tm2=some (.ptr bw 0)∧ag (K 2) tm2=ag (K 2) tm∧ag (K 3) tm2=ag (K 3) tm∧ag (K 4) tm2=ag (K 4) tm∧ag (K 6) tm2=ag (K 6) tm) flk rfl ?_ ?_
  ·rw[←hba];simp[dM];simp[dN,Te,ED]
  ·rintro tm2 h2 bu ⟨rfl,rfl,p7,p8,p2,p3,p4,p6⟩;rw[g2]at p2;rw[g3]at p3;rw[g4]at p4;rw[g6]at p6;have e2:=E0 h1 bw (.cells (eC x) .fix);have vx:ag bw (aw bw (QZ (eC x)) h1)=QZ (eC x):=by simp
   have aKt:ag nx.succ (aw bw (QZ (eC x)) h1)=some (.loop .ready none fn tm res [K 36,K 37] ca body nx):=by rw[e2.g _ (by omega)];exact flk
   have kk2:∀b:Key,b.toNat<bw.toNat→ag b (aw bw (QZ (eC x)) h1)=ag b h1:=fun b hb=>e2.g b hb;generalize aw bw (QZ (eC x)) h1=h2 at *;refine⟨aKt,?_⟩;have lk3:ag nx.succ (aw nx.succ (some (.loop .busy none fn tm res [K 36,K 37] ca body nx)) h2)=some (.loop .busy none fn tm res [K 36,K 37] ca body nx):=by simp
   have kk3:∀b:Key,b≠nx.succ→ag b (aw nx.succ (some (.loop .busy none fn tm res [K 36,K 37] ca body nx)) h2)=ag b h2:=fun b hb=>aP _ _ _ _ hb;generalize aw nx.succ (some (.loop .busy none fn tm res [K 36,K 37] ca body nx)) h2=h3 at *;have dz:∀b:Key,b.toNat<bw.toNat→b≠nx.succ→ag b h3=ag b h1:=fun b hb h1=>by rw[kk3 b h1,kk2 b hb]
   have A3:=A2.cv (h':=h3) (nx':=bw.succ) (by omega) (fun b hb=>by
    rcases hb with hb|rfl
    ·exact dz b (A2.ct hb).1 (fun e=>lkM (by rw[←e];exact hb))
    ·exact dz _ A2.lt.1 (fun e=>by have:=A.lt.1;rw[e]at this;omega))
   have notM:∀b,b.toNat<nx.succ.succ.toNat→¬j8 br bm b6 oC none E b→¬j8 br bm b6 oC1 o61 E1 b:=fun b hb hm h=>by
    rcases how b h with h1|h1
    ·exact hm h1
    ·omega
   have small:∀b:Key,b.toNat<nx.toNat→¬j8 br bm b6 oC none E b→ag b h3=ag b h:=fun b hb hm=>by rw[dz b (by omega) (fun e=>by rw[e]at hb;omega),J0.g b (by omega) hm,Gi.g b hb]
   have nr2:=nm r2 (.inr (.inr (.inr (.inl rfl))));have nr3:=nm r3 (.inr (.inr (.inr (.inr rfl))));generalize hrq:K9 R1 nx.succ fn tm res [K 36,K 37] ca body nx=RQ;rw[←aKq];refine asA S H (by omega) UB hx3 aKs A3 (by omega) (b8:=bw) (r2:=r2) (r3:=r3) (u2:=u2) (u3:=u3) (by rw[kk3 bw (fun e=>by rw[e]at n1;omega)];exact vx) (by omega) (by rw[small r2 lt.2.2.2.1 nr2];exact w2) (by rw[small r3 lt.2.2.2.2 nr3];exact w3) (by omega) ⟨notM r2 (by omega) nr2,notM r3 (by omega) nr3,r23⟩ p2 p3 p4 p6 p7 p8 ?_ ?_
   ·intro aD h' nx' hov q2 q3 hn Jn;rw[←hrq];have aCz:nx.succ≠r2:=fun e=>by have:=lt.2.2.2.1;rw[←e]at this;omega
    have aCA:nx.succ≠r3:=fun e=>by have:=lt.2.2.2.2;rw[←e]at this;omega
    have lk5:ag nx.succ h'=some (.loop .busy none fn tm res [K 36,K 37] ca body nx):=by rw[Jn nx.succ (by omega) lkM aCz aCA];exact lk3
    have DN:gB l0 (((aY X i os).steps c).map (·.2))=none:=aax (k:=k+1) hk (by rw[Pu fj hgr,if_pos hov]);simp;refine⟨⟨none,lk5⟩,hF _ _ ⟨_,rfl,.done,some .ret,by simp,by simp,?_⟩⟩;rw[set_set];refine aoR nx _ _ _ rfl DN (by rw[aP _ _ _ _ (Ne.symm aCz)];exact q2) (by rw[aP _ _ _ _ (Ne.symm aCA)];exact q3) (D1.cv (by omega) fun b hb hg=>?_) (fun b hb=>?_) (by omega)
    ·have LK:b≠nx.succ:=by rintro rfl;rw[gl]at hg;cases hg
     have hM0:¬j8 br bm b6 oC none E b:=fun hm=>by rcases (A1.ct hm).2 with⟨_,_,e⟩|e|⟨_,e⟩<;>rw[hg]at e<;>cases e
     have N9:b≠r2:=by rintro rfl;rw[Gi.g _ lt.2.2.2.1,w2]at hg;cases hg
     have hr3:b≠r3:=by rintro rfl;rw[Gi.g _ lt.2.2.2.2,w3]at hg;cases hg
     rw[aP _ _ _ _ LK,Jn b (by omega) (notM b hb hM0) N9 hr3,dz b (by omega) LK,J0.g b hb hM0];exact hg
    ·have hM0:¬j8 br bm b6 oC none E b:=fun hm=>by have:=A.ge' hm;omega
     rw[aP _ _ _ _ (fun e=>by rw[e]at hb;omega),Jn b (by omega) (notM b (by omega) hM0) (fun e=>by have:=rge.1;rw[←e]at this;omega) (fun e=>by have:=rge.2;rw[←e]at this;omega)];exact small b (by omega) hM0
   ·intro aD h' nx' j cC' c6' MA o6' E' hov hj A4 hn Jn aKu;rw[←hrq];have lk5:ag nx.succ h'=some (.loop .busy none fn tm res [K 36,K 37] ca body nx):=by rw[Jn nx.succ (by omega) lkM];exact lk3
    have aKv:w7 (aY X i os) l0 c (k+1)=some (fu l x):=by rw[Pu fj hgr,if_neg hov]
    have aKw:(fu l x).Nodup:=KH (hsp.2.2.1 Ge) x;have L1:(fu l x).idxOf x=j:=axS aKw hj;have N7:A6 (aY X i os) (fu l x) c (k+1)=A6 (aY X i os) l c k ++ [(k,j)]:=by have:=aek fj (l:=l) (aej hgr).2;rw[this];show _ ++ [(k,(fu l x).idxOf x)]=_;rw[L1]
    have aKx:¬j8 br bm b6 MA o6' E' nx.succ:=fun hm=>by rcases (A4.ct hm).2 with⟨_,_,e⟩|e|⟨_,e⟩<;>rw[lk5]at e<;>cases e
    simp;refine⟨⟨none,lk5⟩,hT _ _ ⟨⟨fu l x,cC',c6',MA,o6',E',aKv,?_,?_⟩,by omega,fun b hb hm=>?_⟩⟩
    ·rw[N7];refine A4.cv (fE _) fun b hb=>aP _ _ _ _ (fun e=>?_);rcases hb with hb|rfl
     ·exact aKx (by rw[←e];exact hb)
     ·have:=A.lt.1;rw[e]at this;omega
    ·intro b hb;rcases aKu b hb with h1|h1
     ·exact how b h1
     ·exact .inr (by omega)
    ·by_cases e:b=nx.succ
     ·subst e;simp;exact gl.symm
     ·rw[aP _ _ _ _ e,Jn b (by omega) (notM b hb hm),dz b (by omega) e,J0.g b hb hm]
 ·rintro h1 bw J0;obtain⟨l,cC1,c61,oC1,o61,E1,hgr,A2,how⟩:=J0.a;have n1:=J0.n;have flk:ag nx.succ h1=some (.loop .ready none fn tm res [K 36,K 37] ca body nx):=by rw[J0.g nx.succ (by omega) (fun hm=>by have:=hM _ hm;omega)];exact gl
  have lkM:¬j8 br bm b6 oC1 o61 E1 nx.succ:=fun hm=>by rcases (A2.ct hm).2 with⟨_,_,e⟩|e|⟨_,e⟩<;>rw[flk]at e<;>cases e
  refine⟨_,rfl,.ready,none,flk,by simp,?_⟩;refine TF nx _ _ _ l cC1 c61 oC1 o61 E1 rfl hgr ?_ (fun b hb=>?_) (D1.cv (by omega) fun b hb hg=>?_) (fun b hb hm=>?_) (by omega)
  ·refine A2.cv (fE _) fun b hb=>aP _ _ _ _ (fun e=>?_);rcases hb with hb|rfl
   ·exact lkM (by rw[←e];exact hb)
   ·have:=A.lt.1;rw[e]at this;omega
  ·rcases how b hb with h1|h1
   ·exact .inl h1
   ·exact .inr (by omega)
  ·have LK:b≠nx.succ:=by rintro rfl;rw[gl]at hg;cases hg
   have hM0:¬j8 br bm b6 oC none E b:=fun hm=>by rcases (A1.ct hm).2 with⟨_,_,e⟩|e|⟨_,e⟩<;>rw[hg]at e<;>cases e
   rw[aP _ _ _ _ LK,J0.g b hb hM0];exact hg
  ·rw[aP _ _ _ _ (fun e=>by rw[e]at hb;omega),J0.g b (by omega) hm,Gi.g b hb]
end Ln
