/- A part of the proof. No condition. -/
import Derived.Test.YtecbfpngkfdkoaaGreatP26
set_option linter.unusedSimpArgs false
set_option linter.unusedVariables false
set_option linter.unusedSectionVars false
namespace Ln
open Go.Sx Go
def VX(us:List Cv):Option (List Cv×fE)→Option (List Cv×fE)
 |none=>none
 |some (l,s)=>some (us++l,s)
theorem TL(us m:List Cv)(x:Option (List Cv×fE)):VX us (VX m x)=VX (us++m) x:=by
 cases x with
 |none=>rfl
 |some w=>obtain⟨l,s⟩:=w;simp[VX]
theorem P5(m:Nat)(s:fE):Hn (m+1) s=(match vX (rR (rI s).2).1 with|none=>none|some v=>VX [((rI s).1,v)] (Hn m (rR (rI s).2).2)):=by
 rw[Hn];cases vX (rR (rI s).2).1 with
 |none=>rfl
 |some v=>
  simp only;cases Hn m (rR (rI s).2).2 with
  |none=>rfl
  |some w=>obtain⟨l,t⟩:=w;rfl
theorem RO.by{r:Key}{st:fE}{h:T ab}{nx n0:Key}(R:RO r st h nx n0):∀b∈(rR st).1,b<256:=by
 cases st with
 |none=>intro b hb;cases hb
 |some bs=>
  intro b hb;have h1:=R.2;unfold rR at hb;simp only at hb;split at hb
  ·cases hb
  ·rename_i n q e;obtain⟨_,e2⟩:=BC h1 e;split at hb
   ·exact h1 b (by rw[e2];simp[List.mem_of_mem_take hb])
   ·cases hb
theorem LB.len{st:fE}(h:LB st):(rR st).1.length≤1000000:=by
 cases st with
 |none=>simp[rR]
 |some bs=>
  unfold rR;simp only;split
  ·simp
  ·rename_i n q e;have h1:=Ij bs 0 0 n q e;have h2:=h bs rfl;split
   ·rw[LF];omega
   ·simp
def VY(o1 r pk n1:Key)(n:Nat)(X:Option (List Cv×fE))(h:T ab)(nx n0:Key)(m:Nat)(aD:T AV)(h':T ab)(nx':Key):Prop:=
 ∃(j:Nat) (us:List Cv) (c:AV) (st:fE),m=n-j∧j≤n∧us.length=j∧ae (K 2) aD=some (.ptr o1 0)∧ae (K 4) aD=some (.ptr r 0)∧ae (K 6) aD=some (.ptr pk 0)∧ae (K 22) aD=some (I n)∧ae (K 23) aD=some (I j)∧
  ae o1 h'=some (.cells [.nils] .fix)∧ae pk h'=some (.cells [c] .fix)∧n1.toNat≤nx'.toNat∧App c (an ep us) us.length 5 h' nx' n1∧RO r st h' nx' n0∧LB st∧X=VX us (Hn (n-j) st)∧Ext h nx h' nx'
variable{C:cX}(S:tq C)
include S
theorem Oj{o1 r pk n1:Key}{n:Nat}{X:Option (List Cv×fE)}(hn:n≤1000000){h:T ab}{nx n0:Key}(ho:nx.toNat≤o1.toNat)(Bi:o1.toNat<r.toNat)(VZ:r.toNat<pk.toNat)(hp1:pk.toNat<n1.toNat)
  {Q:cu} {m:Nat} {tm:T AV} {h1:T ab} {nx1:Key} (A:VY o1 r pk n1 n X h nx n0 m tm h1 nx1)
  (xS:∀aD h' nx' us st c,X=some (us,st)→ae (K 2) aD=some (.ptr o1 0)→ae (K 4) aD=some (.ptr r 0)→ae (K 6) aD=some (.ptr pk 0)→ae o1 h'=some (.cells [.nils] .fix)→ae pk h'=some (.cells [c] .fix)→n1.toNat≤nx'.toNat→App c (an ep us) us.length 5 h' nx' n1→RO r st h' nx' n0→Ext h nx h' nx'→Q .norm aD h' nx')
  (P6:∀aD h' nx',X=none→ae (K 2) aD=some (.ptr o1 0)→ae (K 3) aD=some (I 2)→ae o1 h'=some (.cells [.nils] .fix)→Ext h nx h' nx'→Q .ret aD h' nx') :
  W C (.loop mN) (cz 0 Q) tm h1 nx1:=by
 have qI:C.raw aR=false:=S.nr (by decide);have qR:C.raw cN=false:=S.nr (by decide);have qD:C.raw gm=false:=S.nr (by decide);refine W.hO (VY o1 r pk n1 n X h nx n0) A ?_;rintro m dT h2 aP ⟨j,us,c,st,rfl,hj,Ok,g2,g4,g6,g22,g23,bo,bp,Ol,hA,R,TN,hX,E⟩;refine W.of ?_;simp[mN];by_cases eo:j<n
 ·have nK:(j:Int)<n:=by omega
  rw[show n-j=(n-(j+1))+1 by omega,P5]at hX;simp[mO,g22,g23,nK];simp[ug,g4,qI];refine(Cp S.hP S.cY S.bN (S.nr (by decide)) (S.nr (by decide)) R TN).mono ?_;rintro o h3 bu ⟨rfl,R3,k3⟩;have n3:=k3.1;have s3:=kTSu bu;have P7:=TN.i;have hI:=MV st;rw[hI]at hX P7;simp only at hX P7;generalize bk (uV (uO st))=z at *;generalize (uO st).map (·.2)=LU at *;have Cq:ae o1 h3=some (.cells [.nils] .fix):=by rw[k3.2 o1 (by omega) (ay (by omega))];exact bo
  have bp3:ae pk h3=some (.cells [c] .fix):=by rw[k3.2 pk (by omega) (ay (by omega))];exact bp
  have A3:App c (an ep us) us.length 5 h3 bu n1:=hA.tY n3 fun b hb hx=>k3.2 b hb (by
   rintro rfl;have hR:∃x y,ae b h2=some (.cells [x,y] .fix):=by
    cases st with
    |none=>obtain⟨bs,e,he,R⟩:=R;obtain⟨_,_,_,_,_,_,a1,_⟩:=R;exact⟨_,_,a1⟩
    |some bs=>obtain⟨R,_⟩:=R;obtain⟨_,_,_,_,_,_,a1,_⟩:=R;exact⟨_,_,a1⟩
   obtain⟨x,y,hR⟩:=hR;rw[hR]at hx;rcases hx with hx|⟨l,hx⟩<;>simp at hx)
  have E3:Ext h nx h3 bu:=⟨by have:=E.n;omega,fun b hb=>by rw[k3.2 b (by have:=E.n;omega) (ay (by omega))];exact E.g b hb⟩;simp;have e4:=E0 h3 bu (.cells [.int .i64 (.lit z),.int .i64 (.lit 0),.int .i64 (.lit 0),.str 0 0,.nils] .fix);have R4:=R3.ext e4;have A4:=A3.ext e4;have E4:=E3.trans e4;have ET:ae o1 (ar bu (some (.cells [.int .i64 (.lit z),.int .i64 (.lit 0),.int .i64 (.lit 0),.str 0 0,.nils] .fix)) h3)=some (.cells [.nils] .fix):=by rw[al (by omega)];exact Cq
  have bp4:ae pk (ar bu (some (.cells [.int .i64 (.lit z),.int .i64 (.lit 0),.int .i64 (.lit 0),.str 0 0,.nils] .fix)) h3)=some (.cells [c] .fix):=by rw[al (by omega)];exact bp3
  have b74:ae bu (ar bu (some (.cells [.int .i64 (.lit z),.int .i64 (.lit 0),.int .i64 (.lit 0),.str 0 0,.nils] .fix)) h3)=some (.cells [I z,I 0,I 0,.str 0 0,.nils] .fix):=by rw[gTSm]
  generalize ar bu (some (.cells [.int .i64 (.lit z),.int .i64 (.lit 0),.int .i64 (.lit 0),.str 0 0,.nils] .fix)) h3=h4 at *;simp[uh];simp[sn,g4,qR];refine(Ho S R4 P7).mono ?_;rintro o h5 Dd ⟨⟨cw,rfl,hcw⟩,R5,k5⟩;have n5:=k5.1;have V0:=R4.by;have hlen:=P7.len;have afH:=P7.r;generalize (rR LU).1=w at *;generalize (rR LU).2=st5 at *;have Py:∀n H,aK n cw H=(cw,H):=fun n H=>hcw.sg _ _;have Ce:ae o1 h5=some (.cells [.nils] .fix):=by rw[k5.2 o1 (by omega) (ay (by omega))];exact ET
  have bp5:ae pk h5=some (.cells [c] .fix):=by rw[k5.2 pk (by omega) (ay (by omega))];exact bp4
  have b75:ae bu h5=some (.cells [I z,I 0,I 0,.str 0 0,.nils] .fix):=by rw[k5.2 bu (by omega) (ay (by omega))];exact b74
  have A5:App c (an ep us) us.length 5 h5 Dd n1:=A4.tY n5 fun b hb hx=>k5.2 b hb (by
   rintro rfl;have hR:∃x y,ae b h4=some (.cells [x,y] .fix):=by
    cases LU with
    |none=>obtain⟨bs,e,he,R⟩:=R4;obtain⟨_,_,_,_,_,_,a1,_⟩:=R;exact⟨_,_,a1⟩
    |some bs=>obtain⟨R,_⟩:=R4;obtain⟨_,_,_,_,_,_,a1,_⟩:=R;exact⟨_,_,a1⟩
   obtain⟨x,y,hR⟩:=hR;rw[hR]at hx;rcases hx with hx|⟨l,hx⟩<;>simp at hx)
  have E5:Ext h nx h5 Dd:=⟨by have:=E4.n;omega,fun b hb=>by rw[k5.2 b (by have:=E4.n;omega) (ay (by omega))];exact E4.g b hb⟩;simp[qD,Py];refine(TO S hcw V0 hlen).mono ?_;rintro o h6 xC ⟨hV,e6⟩;have n6:=e6.n;have R6:=R5.ext e6;have A6:=A5.ext e6;have E6:=E5.trans e6;have MW:ae o1 h6=some (.cells [.nils] .fix):=by rw[e6.g o1 (by omega)];exact Ce
  have bp6:ae pk h6=some (.cells [c] .fix):=by rw[e6.g pk (by omega)];exact bp5
  have b76:ae bu h6=some (.cells [I z,I 0,I 0,.str 0 0,.nils] .fix):=by rw[e6.g bu (by omega)];exact b75
  cases hd:vX w with
  |none=>
   rw[hd]at hV hX;subst hV;have Gz:=cZ (.mk 0 0 0 0 []);have XW:=ew (.mk 0 0 0 0 []);simp[b76,Gz,XW];have P8:ae o1 (ar bu (some (.cells (I z ::eV (.mk 0 0 0 0 [])) .fix)) h6)=some (.cells [.nils] .fix):=by rw[al (by omega)];exact MW
   have E7:Ext h nx (ar bu (some (.cells (I z ::eV (.mk 0 0 0 0 [])) .fix)) h6) xC:=⟨E6.n,fun b hb=>by rw[al (by have:=E.n;omega)];exact E6.g b hb⟩;generalize ar bu (some (.cells (I z ::eV (.mk 0 0 0 0 [])) .fix)) h6=h7 at *;simp[lE];simp[sq,g2,P8];exact P6 _ _ _ (by rw[hX];rfl) (by simp[g2]) (by simp) (by simp) ⟨E7.n,fun b hb=>by rw[al (by omega)];exact E7.g b hb⟩
  |some v=>
   rw[hd]at hV hX;subst hV;have Gz:=cZ v;have XW:=ew v;have JH:=dI v;simp[b76,Gz,XW,JH];have P8:ae o1 (ar bu (some (.cells (I z ::eV v) .fix)) h6)=some (.cells [.nils] .fix):=by rw[al (by omega)];exact MW
   have bp7:ae pk (ar bu (some (.cells (I z ::eV v) .fix)) h6)=some (.cells [c] .fix):=by rw[al (by omega)];exact bp6
   have b77:ae bu (ar bu (some (.cells (I z ::eV v) .fix)) h6)=some (.cells (ep (z,v)) .fix):=by rw[gTSm];rfl
   have R7:RO r st5 (ar bu (some (.cells (I z ::eV v) .fix)) h6) xC n0:=R6.low (fun b hb=>al (by omega)) (cI _);have A7:App c (an ep us) us.length 5 (ar bu (some (.cells (I z ::eV v) .fix)) h6) xC n1:=A6.set (fun B hB=>by rw[b76]at hB;cases hB;exact⟨by simp,by simp⟩);have E7:Ext h nx (ar bu (some (.cells (I z ::eV v) .fix)) h6) xC:=⟨E6.n,fun b hb=>by rw[al (by have:=E.n;omega)];exact E6.g b hb⟩;generalize ar bu (some (.cells (I z ::eV v) .fix)) h6=h7 at *;simp[lE];have s8:=kTSu xC;have hlC:=JI (z,v);have hcC:=Ik (z,v);have htC:=P9 (z,v);have hzC:∀n H,aO (aK n) (ep (z,v)) H=(ep (z,v),H):=fun n H=>aG (cV.sg _);have e8:=E0 h7 xC (.cells (ep (z,v)) .fix);have bo8:ae o1 (ar xC (some (.cells (ep (z,v)) .fix)) h7)=some (.cells [.nils] .fix):=by rw[al (by omega)];exact P8
   have bp8:ae pk (ar xC (some (.cells (ep (z,v)) .fix)) h7)=some (.cells [c] .fix):=by rw[al (by omega)];exact bp7
   have A8:=A7.ext e8;have R8:=R7.ext e8;have E8:=E7.trans e8;obtain⟨c',h9,nx9,g,A9,n9,f1,f2⟩:=A8.LV cV (by omega) (by omega) (z,v);have c9:=A9.cell;have bo9:ae o1 h9=some (.cells [.nils] .fix):=by rw[f1 o1 (by omega)];exact bo8
   have bp9:ae pk h9=some (.cells [c] .fix):=by rw[f1 pk (by omega)];exact bp8
   simp[-appendTo,sr,g6,bp7,b77,hlC,htC,hcC,hzC,g,bp9,c9.1,c9.2];have afM:ae o1 (ar pk (some (.cells [c'] .fix)) h9)=some (.cells [.nils] .fix):=by rw[al (by omega)];exact bo9
   have afN:ae pk (ar pk (some (.cells [c'] .fix)) h9)=some (.cells [c'] .fix):=by rw[gTSm]
   have A10:App c' (an ep (us ++ [(z,v)])) (us ++ [(z,v)]).length 5 (ar pk (some (.cells [c'] .fix)) h9) nx9 n1:=A9.set (fun B hB=>by rw[bp9]at hB;cases hB;exact⟨by simp,by simp⟩);have R10:RO r st5 (ar pk (some (.cells [c'] .fix)) h9) nx9 n0:=(R8.low (fun b hb=>f1 b (by omega)) n9).low (fun b hb=>al (by omega)) (cI _);have E10:Ext h nx (ar pk (some (.cells [c'] .fix)) h9) nx9:=⟨by have:=E8.n;omega,fun b hb=>by rw[al (by omega),f1 b (by omega)];exact E8.g b hb⟩;generalize ar pk (some (.cells [c'] .fix)) h9=h10 at *;simp[su,g23];rw[aJ (by omega) (by omega)];refine⟨n-(j+1),by omega,j+1,us ++ [(z,v)],c',st5,rfl,by omega,by rw[fO,Ok];rfl,by simp[g2],by simp[g4],by simp[g6],by simp[g22],by simp,afM,afN,by omega,A10,R10,afH,?_,E10⟩;rw[hX];exact TL us [(z,v)] _
 ·have wy:j=n:=by omega
  subst wy;rw[Nat.sub_self,Hn]at hX;simp[mO,g22,g23];exact xS _ _ _ us st c (by rw[hX];simp[VX]) (by simp[g2]) (by simp[g4]) (by simp[g6]) bo bp Ol hA R E
end Ln
namespace Ln
open Go.Sx Go
def ajd(us:List Cv):fE→Option (List Cv)
 |some []=>some us
 |_=>none
def aje:Option (List Cv×fE)→Option (List Cv)
 |some (us,s)=>ajd us s
 |none=>none
theorem aak{bs:List Nat}(h:¬((rI (some bs)).1<0∨(bs.length:Int)<(rI (some bs)).1)):CV bs=aje (Hn (rI (some bs)).1.toNat (rI (some bs)).2):=by
 unfold CV;rw[if_neg h];cases Hn (rI (some bs)).1.toNat (rI (some bs)).2 with
 |none=>rfl
 |some w=>
  obtain⟨us,s⟩:=w;cases s with
  |none=>rfl
  |some q=>cases q<;>rfl
def Sf(bs:List Nat)(h:T ab)(nx:Key)(o:Out)(h':T ab)(nx':Key):Prop:=(match CV bs with
 |some l=>∃c',o=.ret (.tuple [.agg [c'],I 0])∧py 5 ep c' l
 |none=>o=.ret (.tuple [.agg [.nils],I 2]))∧Ext h nx h' nx'
theorem ad1{C:cX}{c:AV}{bs:List Nat}{z:Int}{h0 h:T ab}{Kf nx:Key}{tm:T AV}{Q:cu}(hc:JS c bs h0 Kf)(f0:ae (K 0) tm=some c)(f5:ae (K 5) tm=some (I z))
  (hQ:∀aD:T AV,ae (K 2) aD=ae (K 2) tm→ae (K 4) aD=ae (K 4) tm→ae (K 5) aD=some (I z)→ae (K 20) aD=some (.bool (decide (z<0∨(bs.length:Int)<z)))→Q .norm aD h nx):il C (.ops je) Q tm h nx:=by
 by_cases h0:z<0
 ·simp[je,f5,h0];exact hQ _ (by simp) (by simp) (by simp[f5]) (by simp[h0])
 ·rcases hc with⟨rfl,rfl⟩|⟨fl,rfl⟩|⟨b,k',rfl,_,_⟩
  all_goals
   simp[je,f0,f5,h0];exact hQ _ (by simp) (by simp) (by simp[f5]) (by simp[h0])
variable{C:cX}(S:tq C)
include S
theorem NS{c:AV}{bs:List Nat}{h:T ab}{nx:Key}(hc:JS c bs h nx)(hb:∀b∈bs,b<256)(hl:bs.length≤1000000):ax C dE [c] h nx (Sf bs h nx):=by
 have qR:C.raw dM=true:=S.rw (by decide);have qI:C.raw aR=false:=S.nr (by decide);have qE:C.raw bY=false:=S.nr (by decide);have s1:=kTSu nx;refine S.wZ.call ?_;simp[tG];simp[uX];have e1:=E0 h nx (.cells [.nils] .fix);have Ow:ae nx (ar nx (some (.cells [.nils] .fix)) h)=some (.cells [.nils] .fix):=by simp
 have Yb:=hc.ext e1;generalize ar nx (some (.cells [.nils] .fix)) h=h1 at *;simp[uY,qR];refine(Is S.sG Yb hl).mono ?_;rintro o h2 aP ⟨r,rfl,R2,e2⟩;have n2:=e2.n;have lr:=R2.1;have RO2:RO r (some bs) h2 aP nx.succ:=⟨R2,hb⟩;have lb2:LB (some bs):=fun x hx=>by cases hx;omega
 have Hr:ae nx h2=some (.cells [.nils] .fix):=by rw[e2.g nx (by omega)];exact Ow
 simp;simp[uZ,qI];refine(Cp S.hP S.cY S.bN (S.nr (by decide)) (S.nr (by decide)) RO2 lb2).mono ?_;rintro o h3 bu ⟨rfl,R3,k3⟩;have n3:=k3.1;have s3:=kTSu bu;have rr:=RO2.hi;have lb3:=lb2.i;have hI:=MV (some bs);have hX:=fun hh=>aak (bs:=bs) hh;have hN:((rI (some bs)).1<0∨(bs.length:Int)<(rI (some bs)).1)→CV bs=none:=fun hh=>by unfold CV;rw[if_pos hh]
 rw[hI]at lb3 hX hN;simp only at lb3 hX hN;generalize bk (uV (uO (some bs)))=z at *;generalize (uO (some bs)).map (·.2)=st at *;have Cq:ae nx h3=some (.cells [.nils] .fix):=by rw[k3.2 nx (by omega) (ay (by omega))];exact Hr
 have E3:Ext h nx h3 bu:=⟨by omega,fun b hb=>by rw[k3.2 b (by omega) (ay (by omega)),e2.g b (by omega),e1.g b hb]⟩;simp;refine lG (ad1 hc (by simp) (by simp;rfl) ?_);intro tm3 g2 g4 g5 g20;simp at g2 g4;by_cases hcz:z<0∨(bs.length:Int)<z
 ·rw[decide_eq_true hcz]at g20;simp[g20];simp[u6,g2,Cq];refine⟨by rw[hN hcz],E3.n,fun b hb=>by rw[al hb];exact E3.g b hb⟩
 ·rw[decide_eq_false hcz]at g20;obtain⟨n,hn⟩:∃n:Nat,z=n:=⟨z.toNat,by omega⟩;subst hn;have hnl:n≤bs.length:=by omega
  have hX:=hX hcz;rw[Int.toNat_natCast]at hX;have e4:=E0 h3 bu (.cells [.nils] .fix);have R4:=R3.ext e4;have E4:=E3.trans e4;have ET:ae nx (ar bu (some (.cells [.nils] .fix)) h3)=some (.cells [.nils] .fix):=by rw[al (by omega)];exact Cq
  have bp4:ae bu (ar bu (some (.cells [.nils] .fix)) h3)=some (.cells [.nils] .fix):=by simp
  simp[g20];simp[u7];generalize ar bu (some (.cells [.nils] .fix)) h3=h4 at *;simp[u9,g5];refine Oj S (o1:=nx) (r:=r) (pk:=bu) (n1:=bu.succ) (n:=n) (X:=Hn n st) (by omega) (cI _) (by omega) (by omega) (by omega) (h:=h) (nx:=nx) (n0:=nx.succ) (m:=n) ⟨0,[],.nils,st,rfl,by omega,rfl,by simp[g2],by simp[g4],by simp,by simp,by simp,ET,bp4,cI _,App.nil 5,R4,lb3,?_,E4⟩ ?_ ?_
  ·rw[Nat.sub_zero];cases Hn n st with
   |none=>rfl
   |some w=>obtain⟨l,t⟩:=w;simp[VX]
  ·intro aD h' nx' us st' c' hXe j2 j4 j6 Ce bp5 n5 A5 R5 E5;rw[hXe]at hX;simp[sP,j4,qE];have bad:CV bs=none→∀dR:T AV,ae (K 2) dR=some (.ptr nx 0)→xj C (fy (il C av.ret (eO [RV.cell (K 2) true 1,RV.tmp (K 3)] (Sf bs h nx))) (eO [RV.cell (K 2) true 1,RV.tmp (K 3)] (Sf bs h nx))) mc dR h' nx':=by intro hd dR q2;simp[mc,q2,Ce];refine⟨by rw[hd],E5.n,fun b hb=>by rw[al hb];exact E5.g b hb⟩
   cases st' with
   |none=>obtain⟨q,e,he,R⟩:=R5;refine(It S.eQ R).mono ?_;rintro o h6 xC ⟨rfl,rfl,rfl⟩;simp[he,bq he];exact bad hX _ (by simp[j2])
   |some q=>
    obtain⟨R,_⟩:=R5;refine(It S.eQ R).mono ?_;rintro o h6 xC ⟨rfl,rfl,rfl⟩;cases q with
    |cons x q=>simp;exact bad hX _ (by simp[j2])
    |nil=>have cc:=A5.cell;simp;simp[sQ,j2,j6,Ce,bp5,cc.1];have A6:App c' (an ep us) us.length 5 (ar nx (some (.cells [c'] .fix)) h6) xC bu.succ:=A5.set (fun B hB=>by rw[Ce]at hB;cases hB;exact⟨by simp,by simp⟩);have E6:Ext h nx (ar nx (some (.cells [c'] .fix)) h6) xC:=⟨E5.n,fun b hb=>by rw[al hb];exact E5.g b hb⟩;generalize ar nx (some (.cells [c'] .fix)) h6=h7 at *;obtain⟨hR,hf⟩:py 5 ep (aK 9998 c' h7).1 us∧∀b:Key,b.toNat<bu.succ.toNat→ae b (aK 9998 c' h7).2=ae b h7:=A6.Dh cV 9997;have hX:CV bs=some us:=hX;refine⟨by rw[hX];exact⟨_,rfl,hR⟩,E6.n,fun b hb=>by rw[hf b (by omega)];exact E6.g b hb⟩
  ·intro aD h' nx' hXe j2 j3 Ce E5;rw[hXe]at hX;simp[j2,j3,Ce];refine⟨by rw[hX];rfl,E5⟩
end Ln
namespace Ln
open Go.Sx Go
def XI(a b:Nat)(h:T ab)(nx:Key)(k:Nat)(aD:T AV)(h':T ab)(nx':Key):Prop:=∃j:Nat,k=a-j∧j≤a∧ae (K 0) aD=some (.str a b)∧ae (K 3) aD=some (I j)∧h'=h∧nx'=nx
variable{C:cX}(S:tq C)
include S
theorem Qc:∀{h:T ab} {nx:Key},ax C eC [.str 0 0] h nx (fun o h' nx'=>o=.ret (.bool false)∧h'=h∧nx'=nx):=by intro h nx;refine S.pn.call ?_;simp[nC];simp[nw];simp[ny];simp[vD]
theorem TW{a b:Nat}(hc:qo a b=true):∀{h:T ab} {nx:Key},ax C eC [.str a b] h nx (fun o h' nx'=>o=.ret (.bool true)∧h'=h∧nx'=nx):=by
 intro h nx;unfold qo at hc;simp only[fa,decide_eq_true_eq]at hc;obtain⟨⟨⟨h0,h16⟩,h65,h90⟩,qq⟩:=hc;have i0:¬(a:Int)<1:=by omega
 have i16:¬16<(a:Int):=by omega
 have ajE:b.mod 256=b%256:=rfl;have i65:¬((b.mod 256:Nat):Int)<65:=by omega
 have i90:¬90<((b.mod 256:Nat):Int):=by omega
 have hlen:=v9 a b;refine S.pn.call ?_;simp[nC];simp[nw];simp[ny,i0,i16,h0,i65,i90];simp[vE];refine W.hO (n:=a) (XI a b h nx) ⟨0,rfl,Nat.zero_le _,by simp,by simp,rfl,rfl⟩ ?_;rintro k dT h1 nx1 ⟨j,rfl,hja,g0,g3,rfl,rfl⟩;refine W.of ?_;simp[vK];by_cases eo:j<a
 ·have nK:(j:Int)<a:=by omega
  have hg2:(b >>> (8*j)).mod 256=(sb a b)[j]'(by omega):=(MF a b j (by omega)).symm;have Tq:=Gj.1 qq _ (Lt (by omega:j<(sb a b).length));simp[nz,g0,g3,nK];simp[vG,g0,g3,eo,hg2];generalize (sb a b)[j]'(by omega)=c at *;have e:(!decide ((c:Int)<97) && !decide (122<(c:Int)) || !decide ((c:Int)<65) && !decide (90<(c:Int)) || !decide ((c:Int)<48) && !decide (57<(c:Int))||decide ((c:Int)=95))=true:=by rw[←Tq];unfold Aj;rw[Bool.eq_iff_iff];simp;omega
  have fin:∀dR:T AV,ae (K 0) dR=some (.str a b)→ae (K 3) dR=some (I j)→xj C (fy (fun tm h_1 ajT=>∃m,m<a-j∧XI a b h1 nx1 m tm h_1 ajT) (cz 0 (fy (il C ((av.ops ml).seq av.ret) (eO [RV.tmp (K 2)] fun o h' nx'=>o=Out.ret (AV.bool true)∧h'=h1∧nx'=nx1)) (eO [RV.tmp (K 2)] fun o h' nx'=>o=Out.ret (AV.bool true)∧h'=h1∧nx'=nx1)))) mj dR h1 nx1:=by intro dR q0 q3;simp[mj,q3];rw[aJ (by omega) (by omega)];exact⟨a-(j+1),by omega,j+1,rfl,by omega,by simp[q0],by simp,rfl,rfl⟩
  by_cases h1:(c:Int)<97<;>by_cases h2:122<(c:Int)<;>by_cases h3:(c:Int)<65<;>by_cases h4:90<(c:Int)<;>by_cases h5:(c:Int)<48<;>by_cases h6:57<(c:Int)<;>by_cases h7:(c:Int)=95
  all_goals first|omega|(exfalso;simp[h1,h2,h3,h4,h5,h6,h7]at e;done)|skip
  all_goals
   simp[vH,h1,h2,h3,h4,h5,h6,h7];simp[vI,h1,h2,h3,h4,h5,h6,h7];simp[vJ,h1,h2,h3,h4,h5,h6,h7];simpa using fin _ (by simp[g0]) (by simp[g3])
 ·have wy:j=a:=by omega
  subst wy;simp[nz,g0,g3];simp[ml]
end Ln
namespace Ln
open Go.Sx Go
theorem H4:∀{l:List Vt} {v:Vt},kY l=true→v∈l→wc v=true
 |u ::l,v,h,hm=>by
  simp only[kY,fa]at h;rcases zk.1 hm with rfl|hm
  ·exact h.1
  ·exact H4 h.2 hm
def aeB(c:AV)(b1:Key)(v:Vt)(h:T ab)(nx:Key)(k:Nat)(aD:T AV)(h':T ab)(nx':Key):Prop:=∃j:Nat,k=v.kids.length-j∧j≤v.kids.length∧ae (K 1) aD=some (.ptr b1 0)∧ae (K 3) aD=some (I j)∧ae b1 h'=some (.cells (eV v) .fix)∧b1.toNat<nx'.toNat∧Ext h nx h' nx'
def abU(b1:Key)(v:Vt)(h:T ab)(nx:Key)(k:Nat)(aD:T AV)(h':T ab)(nx':Key):Prop:=∃j:Nat,k=v.kids.length-j∧j≤v.kids.length∧ae (K 1) aD=some (.ptr b1 0)∧ae (K 3) aD=some (I ((1+bS (v.kids.take j):Nat):Int))∧ae (K 4) aD=some (I j)∧ae b1 h'=some (.cells (eV v) .fix)∧b1.toNat<nx'.toNat∧Ext h nx h' nx'
variable{C:cX}(S:tq C)
include S
theorem M0:∀(N:Nat) {v:Vt},bV v≤N→wc v=true→bV v<1000000→∀{h:T ab} {nx:Key},ax C eP [.agg (eV v)] h nx (fun o h' nx'=>o=.ret (.bool false)∧Ext h nx h' nx')
 |0,v,hs,_,_,_,_=>by rw[eN]at hs;omega
 |N+1,v,hs,hw,vS,h,nx=>by
  rw[eN]at hs vS;have Cr:=kS v.kids;rw[K7,fa]at hw;obtain⟨w1,w2⟩:=hw;have ao8:v.kids.length≤256:=by unfold CP at w1;simp only[fa,decide_eq_true_eq]at w1;exact w1.1
  have w16:v.k=3→v.kids.length≤16:=by intro e;unfold CP at w1;rw[decide_eq_true e]at w1;simp at w1;exact w1.2
  have rW:C.raw eP=false:=S.nr (by decide);have s1:=kTSu nx;have hz:∀v n H,aO (aK n) (eV v) H=(eV v,H):=fun v n H=>aG (dq.sg v);have ih:∀u∈v.kids,∀{h:T ab} {nx:Key},ax C eP [.agg (eV u)] h nx (fun o h' nx'=>o=.ret (.bool false)∧Ext h nx h' nx'):=fun u hu {h nx}=>by have:=kT hu;exact M0 N (by omega) (H4 w2 hu) (by omega)
  refine S.B4.call ?_;simp[Bd];simp[Ap,ew,cZ];have e1:=E0 h nx (.cells (eV v) .fix);have b1:ae nx (ar nx (some (.cells (eV v) .fix)) h)=some (.cells (eV v) .fix):=by simp
  generalize ar nx (some (.cells (eV v) .fix)) h=h1 at *;have lz:=eV0 v;have cK:=Om v;have tP:=TV v;have loop:∀dR:T AV,ae (K 1) dR=some (.ptr nx 0)→il C (((av.ops tK).seq (.block 0 (.loop tM))).seq ((av.ops tN).seq .ret)) (eO [RV.tmp (K 2)] fun o h' nx'=>o=.ret (.bool false)∧Ext h nx h' nx') dR h1 nx.succ:=by
   intro dR q1;simp;simp[tK];refine W.hO (n:=v.kids.length) (aeB .nils nx v h nx) ⟨0,rfl,Nat.zero_le _,by simp[q1],by simp,b1,by omega,e1⟩ ?_;rintro k dT h2 aP ⟨j,rfl,hj,g1,g3,bb,lb,E⟩;refine W.of ?_;have hR:=(jz v.kids).rd h2 aP;simp[tM];by_cases eo:j<v.kids.length
   ·have nK:(j:Int)<v.kids.length:=by omega
    simp only[tL,hU,jk,jl,hZ,jm,ia,jn,jo,ib,ic,jq,jr,js,jt];simp[↓hR.ln,g1,g3,bb,tP,nK];simp only[Aq,hU,jk,jl,hZ,jm,ia,jn,jo,ib,ic,jq,jr,js,jt];simp[↓hR.ix dq eo,g1,g3,bb,tP,rW,hz];refine(ih _ (Lt eo)).mono ?_;rintro o h3 bu ⟨rfl,e3⟩;have n3:=e3.n;simp;simp[Ar];simp[As,g3];rw[aJ (by omega) (by omega)];exact⟨v.kids.length-(j+1),by omega,j+1,rfl,by omega,by simp[g1],by simp,by rw[e3.g nx lb];exact bb,by omega,E.trans e3⟩
   ·have wy:j=v.kids.length:=by omega
    have nK:¬(j:Int)<v.kids.length:=by omega
    simp only[tL,hU,jk,jl,hZ,jm,ia,jn,jo,ib,ic,jq,jr,js,jt];simp[↓hR.ln,g1,g3,bb,tP,nK];simp[tN];exact E
  have GA:=tP;rcases jz v.kids with⟨ek,em⟩|ek
  all_goals
   rw[ek]at GA;by_cases k2:v.k=2
   ·have k3:¬v.k=3:=by omega
    have hq:¬256<(v.kids.length:Int):=by omega
    simp[nD,b1,lz,cK,GA,k2,hq]
    first|exact loop _ (by simp)|exact lG (loop _ (by simp))|(have key:=loop;simp at key;exact key _ (by simp))
   ·by_cases k3:v.k=3
    ·have hq:¬16<(v.kids.length:Int):=by have:=w16 k3;omega
     simp[nD,b1,lz,cK,GA,k3,hq]
     first|exact loop _ (by simp)|exact lG (loop _ (by simp))|(have key:=loop;simp at key;exact key _ (by simp))
    ·simp[nD,b1,lz,cK,GA,k2,k3,bq k2,bq k3]
     first|exact loop _ (by simp)|exact lG (loop _ (by simp))|(have key:=loop;simp at key;exact key _ (by simp))
end Ln
namespace Ln
open Go.Sx Go
variable{C:cX}(S:tq C)
include S
theorem MX:∀(N:Nat) {v:Vt},bV v≤N→bV v<1000000→∀{h:T ab} {nx:Key},ax C eM [.agg (eV v)] h nx (fun o h' nx'=>o=.ret (I (bV v))∧Ext h nx h' nx')
 |0,v,hs,_,_,_=>by rw[eN]at hs;omega
 |N+1,v,hs,vS,h,nx=>by
  rw[eN]at hs vS;have Cr:=kS v.kids;have rW:C.raw eM=false:=S.nr (by decide);have s1:=kTSu nx;have hz:∀v n H,aO (aK n) (eV v) H=(eV v,H):=fun v n H=>aG (dq.sg v);have ih:∀u∈v.kids,∀{h:T ab} {nx:Key},ax C eM [.agg (eV u)] h nx (fun o h' nx'=>o=.ret (I (bV u))∧Ext h nx h' nx'):=fun u hu {h nx}=>by have:=kT hu;exact MX N (by omega) (by omega)
  refine S.BE.call ?_;simp[AH];simp[zG,ew,cZ];have e1:=E0 h nx (.cells (eV v) .fix);have b1:ae nx (ar nx (some (.cells (eV v) .fix)) h)=some (.cells (eV v) .fix):=by simp
  generalize ar nx (some (.cells (eV v) .fix)) h=h1 at *;have tP:=TV v;simp[zH];simp[zI];refine W.hO (n:=v.kids.length) (abU nx v h nx) ⟨0,rfl,Nat.zero_le _,by simp,by simp[bS],by simp,b1,by omega,e1⟩ ?_;rintro k dT h2 aP ⟨j,rfl,hj,g1,g3,g4,bb,lb,E⟩;refine W.of ?_;have hR:=(jz v.kids).rd h2 aP;simp[zJ];by_cases eo:j<v.kids.length
  ·have nK:(j:Int)<v.kids.length:=by omega
   have hsp:=De eo;have hle:=JJ (l:=v.kids) (j:=j+1);simp only[tr,hU,jk,jl,hZ,jm,ia,jn,jo,ib,ic,jq,jr,js,jt];simp[↓hR.ln,g1,g4,bb,tP,nK];simp only[zK,hU,jk,jl,hZ,jm,ia,jn,jo,ib,ic,jq,jr,js,jt];simp[↓hR.ix dq eo,g1,g3,g4,bb,tP,rW,hz];refine(ih _ (Lt eo)).mono ?_;rintro o h3 bu ⟨rfl,e3⟩;have n3:=e3.n;have hw:aX .i64 (1+(bS (v.kids.take j):Int)+(bV v.kids[j]:Int))=1+(bS (v.kids.take j):Int)+(bV v.kids[j]:Int):=aJ (by omega) (by omega);simp[hw];simp[zL,g4];rw[aJ (by omega) (by omega)];exact⟨v.kids.length-(j+1),by omega,j+1,rfl,by omega,by simp[g1],by rw[hsp];simp[Int.add_assoc],by simp,by rw[e3.g nx lb];exact bb,by omega,E.trans e3⟩
  ·have wy:j=v.kids.length:=by omega
   have nK:¬(j:Int)<v.kids.length:=by omega
   subst wy;rw[List.take_length]at g3;simp only[tr,hU,jk,jl,hZ,jm,ia,jn,jo,ib,ic,jq,jr,js,jt];simp[↓hR.ln,g1,g4,bb,tP,nK];simp at g3;simp[zM,g3];exact⟨by rw[eN];omega,E⟩
theorem MY{k n:Int}{a b m:Nat}(h:iT k n a b m=true):(k=0∧a=0∧m=0)∨(k=1∧(n=0∨n=1)∧a=0∧m=0)∨(k=2∧n=0∧a=0)∨(k=3∧n=0∧qo a b=true):=by
 unfold iT at h;split at h
 ·simp only[fa,decide_eq_true_eq]at h;exact .inl ⟨‹_›,h⟩
 ·split at h
  ·simp only[fa,Bool.or_eq_true,decide_eq_true_eq]at h;exact .inr (.inl ⟨‹_›,h.1.1,h.1.2,h.2⟩)
  ·split at h
   ·simp only[fa,decide_eq_true_eq]at h;exact .inr (.inr (.inl ⟨‹_›,h⟩))
   ·split at h
    ·simp only[fa,decide_eq_true_eq]at h;exact .inr (.inr (.inr ⟨‹_›,h⟩))
    ·cases h
theorem MZ:∀(N:Nat) {v:Vt},bV v≤N→DN v→ku v=true→bV v<1000000→∀{h:T ab} {nx:Key},ax C du [.agg (eV v)] h nx (fun o h' nx'=>o=.ret (.bool true)∧Ext h nx h' nx')
 |0,v,hs,_,_,_,_,_=>by rw[eN]at hs;omega
 |N+1,v,hs,hi,hf,vS,h,nx=>by
  rw[eN]at hs vS;have Cr:=kS v.kids;obtain⟨i1,i2,i3,i4,i5⟩:=Il hi;obtain⟨f1,f2⟩:=Im hf;have rW:C.raw du=false:=S.nr (by decide);have rC:C.raw eC=false:=S.nr (by decide);have s1:=kTSu nx;have hz:∀v n H,aO (aK n) (eV v) H=(eV v,H):=fun v n H=>aG (dq.sg v);have ih:∀u∈v.kids,∀{h:T ab} {nx:Key},ax C du [.agg (eV u)] h nx (fun o h' nx'=>o=.ret (.bool true)∧Ext h nx h' nx'):=fun u hu {h nx}=>by have:=kT hu;exact MZ N (by omega) (xT i5 hu) (yZ f2 hu) (by omega)
  refine S.xU.call ?_;simp[vZ];simp[wz,ew,cZ];have e1:=E0 h nx (.cells (eV v) .fix);have b1:ae nx (ar nx (some (.cells (eV v) .fix)) h)=some (.cells (eV v) .fix):=by simp
  generalize ar nx (some (.cells (eV v) .fix)) h=h1 at *;have lz:=eV0 v;have cK:=Om v;have Lu:=eV1 v;have JK:=eV2 v;have tP:=TV v;have loop:∀dR:T AV,ae (K 1) dR=some (.ptr nx 0)→il C (((av.ops mP).seq (.block 0 (.loop ov))).seq ((av.ops mQ).seq .ret)) (eO [RV.tmp (K 2)] fun o h' nx'=>o=.ret (.bool true)∧Ext h nx h' nx') dR h1 nx.succ:=by
   intro dR q1;simp;simp[mP];refine W.hO (n:=v.kids.length) (fun k aD h' nx'=>∃j:Nat,k=v.kids.length-j∧j≤v.kids.length∧ae (K 1) aD=some (.ptr nx 0)∧ae (K 4) aD=some (I j)∧ae nx h'=some (.cells (eV v) .fix)∧nx.toNat<nx'.toNat∧Ext h nx h' nx') ⟨0,rfl,Nat.zero_le _,by simp[q1],by simp,b1,by omega,e1⟩ ?_;rintro k dT h2 aP ⟨j,rfl,hj,g1,g4,bb,lb,E⟩;refine W.of ?_;have hR:=(jz v.kids).rd h2 aP;simp[ov];by_cases eo:j<v.kids.length
   ·have nK:(j:Int)<v.kids.length:=by omega
    simp only[mR,hU,jk,jl,hZ,jm,ia,jn,jo,ib,ic,jq,jr,js,jt];simp[↓hR.ln,g1,g4,bb,tP,nK];simp only[ui,hU,jk,jl,hZ,jm,ia,jn,jo,ib,ic,jq,jr,js,jt];simp[↓hR.ix dq eo,g1,g4,bb,tP,rW,hz];refine(ih _ (Lt eo)).mono ?_;rintro o h3 bu ⟨rfl,e3⟩;have n3:=e3.n;simp;simp[uj];simp[uk,g4];rw[aJ (by omega) (by omega)];exact⟨v.kids.length-(j+1),by omega,j+1,⟨rfl,by omega,by simp[g1],by simp,by rw[e3.g nx lb];exact bb,by omega,E.trans e3⟩⟩
   ·have wy:j=v.kids.length:=by omega
    have nK:¬(j:Int)<v.kids.length:=by omega
    simp only[mR,hU,jk,jl,hZ,jm,ia,jn,jo,ib,ic,jq,jr,js,jt];simp[↓hR.ln,g1,g4,bb,tP,nK];simp[mQ];exact E
  rcases MY S f1 with⟨ek,ea,em⟩|⟨ek,en,ea,em⟩|⟨ek,en,ea⟩|⟨ek,en,ec⟩
  ·have eb:v.b=0:=by rw[ea]at i4;simpa using i4
   have ekk:kV v.kids=.nils:=by rw[H8 em,kV]
   have GA:=tP;rw[ekk]at GA;rw[ea,eb]at JK;rw[ek]at lz cK;simp[gn,b1,JK,rC];refine(Qc S).mono ?_;rintro o h2 aP ⟨rfl,rfl,rfl⟩;simp;simp[gp,b1,lz,cK,JK,GA];simp[gq,b1,lz,cK];simp[gr,b1,lz,cK];simp[gu,b1,lz,cK];simp[fF,b1,lz,cK]
   first|exact loop _ (by simp)|exact lG (loop _ (by simp))|(have key:=loop;simp at key;exact key _ (by simp))
  ·have eb:v.b=0:=by rw[ea]at i4;simpa using i4
   have ekk:kV v.kids=.nils:=by rw[H8 em,kV]
   have GA:=tP;rw[ekk]at GA;rw[ea,eb]at JK;rw[ek]at lz cK;simp[gn,b1,JK,rC];refine(Qc S).mono ?_;rintro o h2 aP ⟨rfl,rfl,rfl⟩;simp;simp[gp,b1,lz,cK];rcases en with en|en
   all_goals
    rw[en]at Lu;simp[gq,b1,lz,cK,Lu,JK,GA];simp[gr,b1,lz,cK];simp[gu,b1,lz,cK];simp[fF,b1,lz,cK]
    first|exact loop _ (by simp)|exact lG (loop _ (by simp))|(have key:=loop;simp at key;exact key _ (by simp))
  ·have eb:v.b=0:=by rw[ea]at i4;simpa using i4
   rw[ea,eb]at JK;rw[ek]at lz cK;rw[en]at Lu;simp[gn,b1,JK,rC];refine(Qc S).mono ?_;rintro o h2 aP ⟨rfl,rfl,rfl⟩;simp;simp[gp,b1,lz,cK];simp[gq,b1,lz,cK];simp[gr,b1,lz,cK,Lu,JK];simp[gu,b1,lz,cK];simp[fF,b1,lz,cK]
   first|exact loop _ (by simp)|exact lG (loop _ (by simp))|(have key:=loop;simp at key;exact key _ (by simp))
  ·rw[ek]at lz cK;rw[en]at Lu;simp[gn,b1,JK,rC];refine(TW S ec).mono ?_;rintro o h2 aP ⟨rfl,rfl,rfl⟩;simp;simp[gp,b1,lz,cK];simp[gq,b1,lz,cK];simp[gr,b1,lz,cK];simp[gu,b1,lz,cK,Lu];simp[fF,b1,lz,cK]
   first|exact loop _ (by simp)|exact lG (loop _ (by simp))|(have key:=loop;simp at key;exact key _ (by simp))
theorem JL{v:Vt}(hi:DN v)(iR:Io v=0){h:T ab}{nx:Key}:ax C jN [.agg (eV v)] h nx (fun o h' nx'=>o=.ret (I 0)∧Ext h nx h' nx'):=by
 obtain⟨GB,XX,oq⟩:=sx.1 iR;have r1:C.raw du=false:=S.nr (by decide);have r2:C.raw eP=false:=S.nr (by decide);have r3:C.raw eM=false:=S.nr (by decide);have s1:=kTSu nx;have hz:∀v n H,aO (aK n) (eV v) H=(eV v,H):=fun v n H=>aG (dq.sg v);refine S.zN.call ?_;simp[xV];simp[xW,ew,cZ];have e1:=E0 h nx (.cells (eV v) .fix);have b1:ae nx (ar nx (some (.cells (eV v) .fix)) h)=some (.cells (eV v) .fix):=by simp
 generalize ar nx (some (.cells (eV v) .fix)) h=h1 at *;simp[xX,b1,cZ,dI,r1,hz];refine(MZ S (bV v) (cI _) hi GB (by omega)).mono ?_;rintro o h2 aP ⟨rfl,e2⟩;have n2:=e2.n;have b2:ae nx h2=some (.cells (eV v) .fix):=by rw[e2.g nx (by omega)];exact b1
 simp;simp[xY];simp[xZ,b2,cZ,dI,r2,hz];refine(M0 S (bV v) (cI _) XX (by omega)).mono ?_;rintro o h3 bu ⟨rfl,e3⟩;have n3:=e3.n;have b3:ae nx h3=some (.cells (eV v) .fix):=by rw[e3.g nx (by omega)];exact b2
 simp;simp[x0,b3,cZ,dI,r3,hz];refine(MX S (bV v) (cI _) (by omega)).mono ?_;rintro o h4 sw ⟨rfl,e4⟩;have hq:¬1024<(bV v:Int):=by omega
 simp[hq];simp[x4];exact e1.trans (e2.trans (e3.trans e4))
end Ln
namespace Ln
open Go.Sx Go
theorem U9{orc:dP}{k k':Key}{c x:AV}{bs m:List Nat}{tm:T AV}{h:T ab}{nx n0:Key}(hk:ae k tm=some c)(vO:ae k' tm=some x)(hc:App c (an eY bs) bs.length 1 h nx n0)(hx:py 1 eY x m)(hn:n0.toNat≤nx.toNat)(hl:bs.length+m.length≤1048576) :
  ∃c' h' nx',aOp orc (.append 1 (.t k) (.t k')) tm h nx=.val c' h' nx'∧App c' (an eY (bs++m)) (bs++m).length 1 h' nx' n0∧nx.toNat≤nx'.toNat∧∀b:Key,b.toNat<n0.toNat→ae b h'=ae b h:=by
 obtain⟨c2,h2,aP,g,A2,x1,x2,_⟩:=hc.Jt (new:=an eY m) (m:=m.length) hn (by rw[bE.rows]) hl (bE.EH m);rw[←gA]at A2;refine⟨c2,h2,aP,?_,by rw[fO];exact A2,x1,x2⟩;rcases hx with⟨rfl,rfl⟩|rfl
 ·simp only[tU,List.length_nil]at g;simp[-appendTo,hk,vO,g]
 ·simp[-appendTo,hk,vO,g]
theorem aag{C:cX}{Q:cu}{dst k k':Key}{l:List aq}{c x:AV}{bs m:List Nat}{tm:T AV}{h:T ab}{nx n0:Key}(hk:ae k tm=some c)(vO:ae k' tm=some x)(hc:App c (an eY bs) bs.length 1 h nx n0)(hx:py 1 eY x m)(hn:n0.toNat≤nx.toNat)(hl:bs.length+m.length≤1048576)
  (hQ:∀c' h' nx',App c' (an eY (bs++m)) (bs++m).length 1 h' nx' n0→nx.toNat≤nx'.toNat→(∀b:Key,b.toNat<n0.toNat→ae b h'=ae b h)→xj C Q l (ar dst (some c') tm) h' nx'):xj C Q (⟨some dst,.append 1 (.t k) (.t k'),none⟩ ::l) tm h nx:=by
 obtain⟨c',h',nx',g,A,VM,hf⟩:=U9 (orc:=C.orc) hk vO hc hx hn hl;rw[xM,wants_none,tW,g];exact hQ c' h' nx' A VM hf
def EnR(bs:List Nat)(h:T ab)(nx:Key)(o:Out)(h':T ab)(nx':Key):Prop:=(∃c',o=.ret c'∧py 1 eY c' bs)∧Ext h nx h' nx'
def adY(v:Vt)(pre:List Nat)(h:T ab)(nx:Key)(k:Nat)(aD:T AV)(h':T ab)(nx':Key):Prop:=∃(j:Nat) (d:AV),k=v.kids.length-j∧j≤v.kids.length∧ae (K 1) aD=some (.ptr nx 0)∧ae (K 3) aD=some d∧ae (K 4) aD=some (I j)∧ae nx h'=some (.cells (eV v) .fix)∧App d (an eY (pre++bj (v.kids.take j))) (pre++bj (v.kids.take j)).length 1 h' nx' nx.succ∧nx.succ.toNat≤nx'.toNat∧Ext h nx h' nx'
variable{C:cX}(S:tq C)
include S
theorem EU{n:Int}(hn:eB n)(h:T ab)(nx:Key):ax C cT [I n] h nx (MO (vu (zz n)) h nx):=
 UI S.Du S.yD S.lP (S.nr (by decide)) (S.nr (by decide)) hn.1 hn.2 h nx
theorem HE{v:Vt}{pre:List Nat}(hl:(pre++bj v.kids).length≤90000)(ih:∀u∈v.kids,∀{h:T ab} {nx:Key},ax C cO [.agg (eV u)] h nx (EnR (bT u) h nx)){h:T ab}{nx:Key}{tm:T AV}{h1:T ab}{nx1:Key}{d:AV}(g1:ae (K 1) tm=some (.ptr nx 0))(g3:ae (K 3) tm=some d)(bb:ae nx h1=some (.cells (eV v) .fix))(A:App d (an eY pre) pre.length 1 h1 nx1 nx.succ)(Ol:nx.succ.toNat≤nx1.toNat)(E:Ext h nx h1 nx1) :
  il C (((av.ops ph).seq (.block 0 (.loop pj))).seq ((av.ops nh).seq .ret)) (eO [RV.tmp (K 2)] (EnR (pre++bj v.kids) h nx)) tm h1 nx1:=by
 have rW:C.raw cO=false:=S.nr (by decide);have s1:=kTSu nx;have Cr:=uP v.kids;have tP:=TV v;have hz:∀v n H,aO (aK n) (eV v) H=(eV v,H):=fun v n H=>aG (dq.sg v);rw[fO]at hl;simp;simp[ph];refine W.hO (n:=v.kids.length) (adY v pre h nx) ⟨0,d,rfl,Nat.zero_le _,by simp[g1],by simp[g3],by simp,bb,by simpa[bj]using A,Ol,E⟩ ?_;rintro k dT h2 aP ⟨j,d,rfl,hj,g1,g3,g4,bb,A,Gl,E⟩;refine W.of ?_;have hR:=(jz v.kids).rd h2 aP;simp[pj];by_cases eo:j<v.kids.length
 ·have nK:(j:Int)<v.kids.length:=by omega
  have sE:=Dt eo;have hle:=KT (l:=v.kids) (j:=j+1);rw[sE,fO]at hle;simp only[nj,hU,jk,jl,hZ,jm,ia,jn,jo,ib,ic,jq,jr,js,jt];simp[↓hR.ln,g1,g4,bb,tP,nK];simp only[uU,hU,jk,jl,hZ,jm,ia,jn,jo,ib,ic,jq,jr,js,jt];simp[↓hR.ix dq eo,g1,g3,g4,bb,tP,rW,hz];refine(ih _ (Lt eo)).mono ?_;rintro o h3 bu ⟨⟨x,rfl,hx⟩,e3⟩;have n3:=e3.n;simp only[v7,putTm_some];refine aag (n0:=nx.succ) (c:=d) (x:=x) (by simp) (by simp) (A.ext e3) hx (by omega) (by rw[fO];omega) ?_;intro c4 h4 sw A4 n4 f4;rw[List.append_assoc,←sE]at A4;simp;simp[uW,g4];rw[aJ (by omega) (by omega)];exact⟨v.kids.length-(j+1),by omega,j+1,c4,rfl,by omega,by simp[g1],by simp,by simp,by rw[f4 nx (by omega),e3.g nx (by omega)];exact bb,A4,by omega,by have:=E.n;omega,fun b hb=>by rw[f4 b (by omega),e3.g b (by omega)];exact E.g b hb⟩
 ·have wy:j=v.kids.length:=by omega
  have nK:¬(j:Int)<v.kids.length:=by omega
  subst wy;rw[List.take_length]at A;simp only[nj,hU,jk,jl,hZ,jm,ia,jn,jo,ib,ic,jq,jr,js,jt];simp[↓hR.ln,g1,g4,bb,tP,nK];obtain⟨r1,r2⟩:=A.Dh bE 9998;simp[nh,g3];exact⟨⟨_,rfl,r1⟩,E.n,fun b hb=>by rw[r2 b (by omega)];exact E.g b hb⟩
end Ln
namespace Ln
open Go.Sx Go
variable{C:cX}(S:tq C)
include S
theorem LY:∀(N:Nat) {v:Vt},bV v≤N→DN v→ku v=true→(bT v).length≤80000→∀{h:T ab} {nx:Key},ax C cO [.agg (eV v)] h nx (EnR (bT v) h nx)
 |0,v,hs,_,_,_,_,_=>by rw[eN]at hs;omega
 |N+1,v,hs,hi,hf,hl,h,nx=>by
  rw[eN]at hs;have Cr:=uP v.kids;obtain⟨i1,i2,i3,i4,i5⟩:=Il hi;obtain⟨f1,f2⟩:=Im hf;have rI:C.raw cT=false:=S.nr (by decide);have rR:C.raw fS=false:=S.nr (by decide);have s1:=kTSu nx;rw[Nn]at hl ⊢;have ih:(bj v.kids).length≤80000→∀u∈v.kids,∀{h:T ab} {nx:Key},ax C cO [.agg (eV u)] h nx (EnR (bT u) h nx):=fun hle u hu {h nx}=>by
   have:=kT hu;have:(bT u).length≤(bj v.kids).length:=by obtain⟨a,b,e⟩:=List.append_of_mem hu;rw[e,zc,bj];simp only[fO];omega
   exact LY N (by omega) (xT i5 hu) (yZ f2 hu) (by omega)
  refine S.yo.call ?_;simp[wh];simp[wQ,ew,cZ];have e1:=E0 h nx (.cells (eV v) .fix);have b1:ae nx (ar nx (some (.cells (eV v) .fix)) h)=some (.cells (eV v) .fix):=by simp
  generalize ar nx (some (.cells (eV v) .fix)) h=h1 at *;have lz:=eV0 v;have cK:=Om v;have Lu:=eV1 v;have JK:=eV2 v;have tP:=TV v;have hvk:=lF (zz v.k);simp[wR,b1,lz,cK,rI];refine(EU S i1 _ _).mono ?_;rintro o h2 aP ⟨⟨c2,rfl,A2⟩,e2⟩;have n2:=e2.n;have E2:=e1.trans e2;have b2:ae nx h2=some (.cells (eV v) .fix):=by rw[e2.g nx (by omega)];exact b1
  simp;rcases MY S f1 with⟨ek,ea,em⟩|⟨ek,en,ea,em⟩|⟨ek,en,ea⟩|⟨ek,en,ec⟩
  ·rw[if_pos ek]at hl ⊢;rw[ek]at lz cK;simp[gx,b2,lz,cK];simp[wS,b2,Lu,rI];refine(EU S i2 _ _).mono ?_;rintro o h3 bu ⟨⟨c3,rfl,A3⟩,e3⟩;have n3:=e3.n;have hvn:=lF (zz v.n);simp only[v7,putTm_some];refine xL (n0:=nx.succ) (c:=c2) (x:=c3) (by simp) (by simp) (A2.ext e3) (App.low A3 (by omega)) (by omega) (by omega) ?_;intro c4 h4 sw A4 n4 f4;obtain⟨r1,r2⟩:=A4.Dh bE 9998;simp;exact⟨⟨_,rfl,r1⟩,by have:=E2.n;omega,fun b hb=>by rw[r2 b (by omega),f4 b (by omega),e3.g b (by omega)];exact E2.g b hb⟩
  ·rw[if_neg (by omega),if_pos ek]at hl ⊢;rw[ek]at lz cK;simp[gx,b2,lz,cK];simp[kj,b2,lz,cK];have qs:∃m:Nat,v.n=m∧m<256:=by rcases en with e|e<;>rw[e];exact⟨0,rfl,by omega⟩;exact⟨1,rfl,by omega⟩
   obtain⟨m,hm,Dl⟩:=qs;have s2:=kTSu aP;obtain⟨c3,h3,bu,g,A3,n3,f3,f4⟩:=(A2.ext (E0 h2 aP (.cells [.int .u8 (.lit (m:Int))] .fix))).Jt (new:=an eY [m]) (m:=1) (by omega) rfl (by omega) (bE.EH _);have hw:aX .u8 (m:Int)=(m:Int):=by rw[wrap_u8];omega
   have Hs:an eY [m]=[.int .u8 (.lit (m:Int))]:=kU _ _;have A3':=A3;rw[←gA]at A3';rw[Hs]at g;rw[hm]at Lu ⊢;have hto:((m:Nat):Int).toNat=m:=rfl;rw[hto];obtain⟨r1,r2⟩:=(show App c3 (an eY (vu (zz v.k) ++ [m])) (vu (zz v.k) ++ [m]).length 1 h3 bu nx.succ by rw[fO];exact A3').Dh bE 9998;simp[-appendTo,wT,b2,Lu,hw,g];exact⟨⟨_,rfl,r1⟩,by have:=E2.n;omega,fun b hb=>by rw[r2 b (by omega),f3 b (by omega),al (by omega)];exact E2.g b hb⟩
  ·rw[if_neg (by omega),if_neg (by omega),if_pos ek]at hl ⊢;rw[ek]at lz cK;simp only[fO]at hl;simp[gx,b2,lz,cK];simp[kj,b2,lz,cK];simp[o5,b2,lz,cK];have hR:=(jz v.kids).rd h2 aP;simp only[o6,hU,jk,jl,hZ,jm,ia,jn,jo,ib,ic,jq,jr,js,jt];simp[↓hR.ln,b2,tP,rI];refine(EU S (n:=(v.kids.length:Int)) ⟨by omega,by omega⟩ _ _).mono ?_;rintro o h3 bu ⟨⟨c3,rfl,A3⟩,e3⟩;have n3:=e3.n;simp only[v7,putTm_some];refine xL (n0:=nx.succ) (c:=c2) (x:=c3) (by simp) (by simp) (A2.ext e3) (App.low A3 (by omega)) (by omega) (by omega) ?_;intro c4 h4 sw A4 n4 f4;have key:=fun tm g1 g3=>HE S (v:=v) (pre:=vu (zz v.k)++vu (zz v.kids.length)) (by simp only[fO];omega) (ih (by omega)) (h:=h) (nx:=nx) (tm:=tm) (h1:=h4) (nx1:=sw) (d:=c4) g1 g3 (by rw[f4 nx (by omega),e3.g nx (by omega)];exact b2) A4 (by omega) ⟨by have:=E2.n;omega,fun b hb=>by rw[f4 b (by omega),e3.g b (by omega)];exact E2.g b hb⟩;rw[←List.append_assoc];simp at key;simp;refine key _ ?_ ?_<;>simp
  ·rw[if_neg (by omega),if_neg (by omega),if_neg (by omega)]at hl ⊢;rw[ek]at lz cK;have anC:v.a≤16:=by unfold qo at ec;simp only[fa,decide_eq_true_eq]at ec;exact ec.1.1.2
   have Te:=v9 v.a v.b;simp only[fO]at hl;have hz:∀H,aK 9999 (.sl (an eY (sb v.a v.b)) v.a 1 .any) H=(.sl (an eY (sb v.a v.b)) v.a 1 .any,H):=fun H=>Q9 _ _ _ 9999 H;simp[gx,b2,lz,cK];simp[kj,b2,lz,cK];simp[o5,b2,lz,cK];simp[wU,b2,JK,E1,rR,hz];have acY:=Ia S.sF S.lP (S.nr (by decide)) (l:=sb v.a v.b) (by omega) h2 aP;rw[Te]at acY;refine acY.mono ?_;rintro o h3 bu ⟨⟨c3,rfl,A3⟩,e3⟩;have n3:=e3.n;simp only[v7,putTm_some];refine xL (n0:=nx.succ) (c:=c2) (x:=c3) (by simp) (by simp) (A2.ext e3) (App.low A3 (by omega)) (by omega) (by rw[fO];omega) ?_;intro c4 h4 sw A4 n4 f4;have b4:ae nx h4=some (.cells (eV v) .fix):=by rw[f4 nx (by omega),e3.g nx (by omega)];exact b2
   have E4:Ext h nx h4 sw:=⟨by have:=E2.n;omega,fun b hb=>by rw[f4 b (by omega),e3.g b (by omega)];exact E2.g b hb⟩;simp;have hR:=(jz v.kids).rd h4 sw;simp only[o6,hU,jk,jl,hZ,jm,ia,jn,jo,ib,ic,jq,jr,js,jt];simp[↓hR.ln,b4,tP,rI];refine(EU S (n:=(v.kids.length:Int)) ⟨by omega,by omega⟩ _ _).mono ?_;rintro o h5 Dd ⟨⟨c5,rfl,A5⟩,e5⟩;have n5:=e5.n;simp only[v7,putTm_some];refine xL (n0:=nx.succ) (c:=c4) (x:=c5) (by simp) (by simp) (A4.ext e5) (App.low A5 (by omega)) (by omega) (by simp only[fO];omega) ?_;intro c6 h6 xC A6 n6 f6;have key:=fun tm g1 g3=>HE S (v:=v) (pre:=vu (zz v.k)++(vu v.a++sb v.a v.b)++vu (zz v.kids.length)) (by simp only[fO];omega) (ih (by omega)) (h:=h) (nx:=nx) (tm:=tm) (h1:=h6) (nx1:=xC) (d:=c6) g1 g3 (by rw[f6 nx (by omega),e5.g nx (by omega)];exact b4) A6 (by omega) ⟨by have:=E4.n;omega,fun b hb=>by rw[f6 b (by omega),e5.g b (by omega)];exact E4.g b hb⟩;simp only[←List.append_assoc]at key ⊢;simp at key;simp;refine key _ ?_ ?_<;>simp
end Ln
namespace Ln
open Go.Sx Go
def ab2(cs:AV)(l:List Cv)(h:T ab)(nx:Key)(k:Nat)(aD:T AV)(h':T ab)(nx':Key):Prop:=∃(j:Nat) (d:AV),k=l.length-j∧j≤l.length∧ae (K 0) aD=some cs∧ae (K 4) aD=some d∧ae (K 5) aD=some (I j)∧App d (an eY (vu (zz l.length)++(l.take j).flatMap fR)) (vu (zz l.length)++(l.take j).flatMap fR).length 1 h' nx' nx∧Ext h nx h' nx'
variable{C:cX}(S:tq C)
include S
theorem Ov{cs:AV}{l:List Cv}{h:T ab}{nx:Key}(hc:Rd 5 cs (an ep l) l.length h nx)(iR:OkF l)(hl:(mT l).length≤70000):ax C iv [cs] h nx (Wb l h nx):=by
 have rI:C.raw cT=false:=S.nr (by decide);have rR:C.raw fS=false:=S.nr (by decide);have rV:C.raw jN=false:=S.nr (by decide);have rE:C.raw cO=false:=S.nr (by decide);have hz:∀v n H,aO (aK n) (eV v) H=(eV v,H):=fun v n H=>aG (dq.sg v);have Cr:=yd l;have hF:(mT l).length=(vu (zz l.length)).length+(l.flatMap fR).length:=fO;have LD:=lF (zz (l.length:Int));have hR0:=hc;refine S.ye.call ?_;simp[v5];simp[wB];simp only[wC,hU,jk,jl,hZ,jm,ia,jn,jo,ib,ic,jq,jr,js,jt];simp[↓hR0.ln,rI];refine(EU S (n:=(l.length:Int)) ⟨by omega,by omega⟩ _ _).mono ?_;rintro o h1 nx1 ⟨⟨c1,rfl,A1⟩,e1⟩;simp;simp[wD];refine W.hO (n:=l.length) (ab2 cs l h nx) ⟨0,c1,rfl,Nat.zero_le _,by simp,by simp,by simp,by simpa using A1,e1⟩ ?_;rintro k dT h2 aP ⟨j,d,rfl,hj,g0,g4,g5,A,E⟩;refine W.of ?_;have hR:=hc.ext E;have n2:=E.n;simp[wE];by_cases eo:j<l.length
 ·have nK:(j:Int)<l.length:=by omega
  obtain⟨ok1,ok2,Wc⟩:=iR _ (Lt eo);have sE:=EV eo;have hle:=M7 (l:=l) (j:=j+1);rw[sE,fO]at hle;have hec:(fR l[j]).length=(vu (zz l[j].1)).length+((vu (bT l[j].2).length).length+(bT l[j].2).length):=by unfold fR;rw[fO,fO]
  obtain⟨GB,_,oq⟩:=sx.1 Wc;have Gz:=cZ l[j].2;have JH:=dI l[j].2;have xl:List.take 5 (List.drop (j*5) (an ep l))=I l[j].1 ::eV l[j].2:=cV.at eo;simp only[ow,hU,jk,jl,hZ,jm,ia,jn,jo,ib,ic,jq,jr,js,jt];simp[↓hR.ln,g0,g5,nK];have Et:=cV.rows l;have h5:5≤l.length*5-j*5:=by omega
  have h51:j*5+1+4≤l.length*5:=by omega
  have h50:j*5<l.length*5:=by omega
  have T5:List.take 4 (List.drop (j*5+1) (an ep l))=eV l[j].2:=by
   have e1:List.drop (j*5) (an ep l)=ep l[j]++List.drop 5 (List.drop (j*5) (an ep l)):=by rw[←cV.at eo,List.take_append_drop]
   rw[←List.drop_drop,e1];show List.take 4 (eV l[j].2++_)=_;rw[List.take_append_of_le_length (by rw[Gz];omega),JH]
  have Ql:(an ep l)[j*5]?=some (I l[j].1):=by
   have e1:List.drop (j*5) (an ep l)=ep l[j]++List.drop 5 (List.drop (j*5) (an ep l)):=by rw[←cV.at eo,List.take_append_drop]
   have e2:(List.drop (j*5) (an ep l))[0]?=some (I l[j].1):=by rw[e1];rfl
   rw[List.getElem?_drop]at e2;exact e2
  have T6:4≤l.length*5-(j*5+1):=by omega
  have Qm:∀hh:j*5<(an ep l).length,(an ep l)[j*5]'hh=I l[j].1:=by intro hh;have:=Ql;rw[zqb hh]at this;exact Option.some.inj this
  rcases id hc with⟨_,_,e⟩|⟨fl,ud⟩|⟨b,k,ud,hb,Wd,_⟩
  ·omega
  ·have Ti:=g0;rw[ud]at g0;simp[ox,g0,g5,eo,xl,Gz,JH,Et,h5,rV,hz];refine(JL S ok2 Wc).mono ?_;rintro o h3 bu ⟨rfl,e3⟩;have n3:=e3.n;simp;simp[oy];simp[oz,g0,g4,g5,eo,xl,Et,h5,rI];refine(EU S ok1 _ _).mono ?_;rintro o h4 sw ⟨⟨c4,rfl,A4⟩,e4⟩;have n4:=e4.n;simp only[v7,putTm_some];refine xL (n0:=nx) (c:=d) (x:=c4) (by simp) (by simp) ((A.ext e3).ext e4) (App.low A4 (by omega)) (by omega) (by simp only[fO];omega) ?_;intro c5 We Dd A5 n5 f5;simp;simp[oD,g0,g5,eo,xl,Gz,JH,Et,h5,rE,hz];refine(LY S (bV l[j].2) (cI _) ok2 GB (by omega)).mono ?_;rintro o h6 xC ⟨⟨x,rfl,hx⟩,e6⟩;have n6:=e6.n;have fu:x=.sl (an eY (bT l[j].2)) (bT l[j].2).length 1 .any:=by
    rcases hx with⟨_,e⟩|e
    ·have:=EW l[j].2;rw[e]at this;simp at this
    ·exact e
   have hzx:∀n H,aK n x H=(x,H):=fun n H=>hx.sg _ _;simp[rR,hzx];rw[fu];refine(Ia S.sF S.lP (S.nr (by decide)) (by omega) h6 xC).mono ?_;rintro o h7 nx7 ⟨⟨c7,rfl,A7⟩,e7⟩;have n7:=e7.n;simp only[v7,putTm_some];refine xL (n0:=nx) (c:=c5) (x:=c7) (by simp) (by simp) ((A5.ext e6).ext e7) (App.low A7 (by omega)) (by omega) (by simp only[fO];omega) ?_;intro c8 h8 nx8 A8 n8 f8;have Ir:vu (zz l.length)++(l.take j).flatMap fR++vu (zz l[j].1)++(vu (bT l[j].2).length++bT l[j].2)=vu (zz l.length)++(l.take (j+1)).flatMap fR:=by rw[sE];simp only[fR,List.append_assoc]
   rw[Ir]at A8;simp;simp[oG,g5];rw[aJ (by omega) (by omega)];exact⟨l.length-(j+1),by omega,j+1,c8,rfl,by omega,by simp[Ti],by simp,by simp,A8,by have:=E.n;omega,fun b hb=>by rw[f8 b hb,e7.g b (by omega),e6.g b (by omega),f5 b hb,e4.g b (by omega),e3.g b (by omega)];exact E.g b hb⟩
  ·have Ti:=g0;rw[ud]at g0;have GC:ae b h2=some (.cells (an ep l) k):=by rw[E.g b Wd];exact hb
   simp[ox,g0,g5,eo,GC,T5,Gz,JH,Et,h5,T6,rV,hz];refine(JL S ok2 Wc).mono ?_;rintro o h3 bu ⟨rfl,e3⟩;have n3:=e3.n;have hb3:ae b h3=some (.cells (an ep l) k):=by rw[e3.g b (by omega)];exact GC
   simp;simp[oy];simp[oz,g0,g4,g5,eo,hb3,Ql,Qm,h50,Et,h5,rI];refine(EU S ok1 _ _).mono ?_;rintro o h4 sw ⟨⟨c4,rfl,A4⟩,e4⟩;have n4:=e4.n;simp only[v7,putTm_some];refine xL (n0:=nx) (c:=d) (x:=c4) (by simp) (by simp) ((A.ext e3).ext e4) (App.low A4 (by omega)) (by omega) (by simp only[fO];omega) ?_;intro c5 We Dd A5 n5 f5;have hb5:ae b We=some (.cells (an ep l) k):=by rw[f5 b (by omega),e4.g b (by omega)];exact hb3
   simp;simp[oD,g0,g5,eo,hb5,T5,Gz,JH,Et,h5,T6,rE,hz];refine(LY S (bV l[j].2) (cI _) ok2 GB (by omega)).mono ?_;rintro o h6 xC ⟨⟨x,rfl,hx⟩,e6⟩;have n6:=e6.n;have fu:x=.sl (an eY (bT l[j].2)) (bT l[j].2).length 1 .any:=by
    rcases hx with⟨_,e⟩|e
    ·have:=EW l[j].2;rw[e]at this;simp at this
    ·exact e
   have hzx:∀n H,aK n x H=(x,H):=fun n H=>hx.sg _ _;simp[rR,hzx];rw[fu];refine(Ia S.sF S.lP (S.nr (by decide)) (by omega) h6 xC).mono ?_;rintro o h7 nx7 ⟨⟨c7,rfl,A7⟩,e7⟩;have n7:=e7.n;simp only[v7,putTm_some];refine xL (n0:=nx) (c:=c5) (x:=c7) (by simp) (by simp) ((A5.ext e6).ext e7) (App.low A7 (by omega)) (by omega) (by simp only[fO];omega) ?_;intro c8 h8 nx8 A8 n8 f8;have Ir:vu (zz l.length)++(l.take j).flatMap fR++vu (zz l[j].1)++(vu (bT l[j].2).length++bT l[j].2)=vu (zz l.length)++(l.take (j+1)).flatMap fR:=by rw[sE];simp only[fR,List.append_assoc]
   rw[Ir]at A8;simp;simp[oG,g5];rw[aJ (by omega) (by omega)];exact⟨l.length-(j+1),by omega,j+1,c8,rfl,by omega,by simp[Ti],by simp,by simp,A8,by have:=E.n;omega,fun b hb=>by rw[f8 b hb,e7.g b (by omega),e6.g b (by omega),f5 b hb,e4.g b (by omega),e3.g b (by omega)];exact E.g b hb⟩
 ·have wy:j=l.length:=by omega
  have nK:¬(j:Int)<l.length:=by omega
  subst wy;rw[List.take_length]at A;simp only[ow,hU,jk,jl,hZ,jm,ia,jn,jo,ib,ic,jq,jr,js,jt];simp[↓hR.ln,g0,g5,nK];obtain⟨r1,r2⟩:=A.Dh bE 9998;simp[uy,g4];exact⟨⟨_,rfl,r1⟩,E.n,fun b hb=>by rw[r2 b hb];exact E.g b hb⟩
end Ln
namespace Ln
open Go.Sx Go
def Wa(v:Vt)(b1 b2:Key)(h:T ab)(nx:Key)(k:Nat)(aD:T AV)(h':T ab)(nx':Key):Prop:=∃j:Nat,k=v.kids.length-j∧j≤v.kids.length∧ae (K 2) aD=some (.ptr b1 0)∧ae (K 3) aD=some (.ptr b2 0)∧ae (K 5) aD=some (I j)∧ae b1 h'=some (.cells (eV v) .fix)∧ae b2 h'=some (.cells (eV v) .fix)∧b1.toNat<nx'.toNat∧b2.toNat<nx'.toNat∧Ext h nx h' nx'
variable{C:cX}(S:tq C)
include S
theorem Qf:∀(N:Nat) {v:Vt},bV v≤N→bV v<1000000→∀{h:T ab} {nx:Key},ax C cS [.agg (eV v),.agg (eV v)] h nx (fun o h' nx'=>o=.ret (I 0)∧Ext h nx h' nx')
 |0,v,hs,_,_,_=>by rw[eN]at hs;omega
 |N+1,v,hs,vS,h,nx=>by
  rw[eN]at hs vS;have Cr:=kS v.kids;have rW:C.raw cS=false:=S.nr (by decide);have s1:=kTSu nx;have s2:=kTSu nx.succ;have hz:∀v n H,aO (aK n) (eV v) H=(eV v,H):=fun v n H=>aG (dq.sg v);have ih:∀u∈v.kids,∀{h:T ab} {nx:Key},ax C cS [.agg (eV u),.agg (eV u)] h nx (fun o h' nx'=>o=.ret (I 0)∧Ext h nx h' nx'):=fun u hu {h nx}=>by have:=kT hu;exact Qf N (by omega) (by omega)
  refine S.wA.call ?_;simp[tu];simp[uo,ew,cZ];have b2:ae nx.succ (ar nx.succ (some (.cells (eV v) .fix)) (ar nx (some (.cells (eV v) .fix)) h))=some (.cells (eV v) .fix):=by simp
  have b1:ae nx (ar nx.succ (some (.cells (eV v) .fix)) (ar nx (some (.cells (eV v) .fix)) h))=some (.cells (eV v) .fix):=by rw[al (by omega),gTSm]
  have e1:Ext h nx (ar nx.succ (some (.cells (eV v) .fix)) (ar nx (some (.cells (eV v) .fix)) h)) nx.succ.succ:=⟨by omega,fun b hb=>by rw[al (by omega),al hb]⟩;generalize ar nx.succ (some (.cells (eV v) .fix)) (ar nx (some (.cells (eV v) .fix)) h)=h1 at *;have lz:=eV0 v;have cK:=Om v;have Lu:=eV1 v;have JK:=eV2 v;have tP:=TV v;simp[uq,b1,b2,lz,cK];simp[ur,b1,b2,Lu];simp[uv,b1,b2,JK];simp[uw];rcases jz v.kids with⟨ek,em⟩|ek
  ·rw[ek]at tP;refine W.hO (n:=0) (Wa v nx nx.succ h nx) ⟨0,by simp[em],by omega,by simp,by simp,by simp,b1,b2,by omega,by omega,e1⟩ ?_;rintro k dT h2 aP ⟨j,rfl,hj,g2,g3,g5,c1,c2,l1,l2,E⟩;have hj0:j=0:=by rw[em]at hj;simpa using hj
   subst hj0;refine W.of ?_;simp[mS];simp[iU,g2,g3,g5,c1,c2,tP];simp[lI,g2,g3,c1,c2,tP];simp[lJ];exact E
  ·rw[ek]at tP;refine W.hO (n:=v.kids.length) (Wa v nx nx.succ h nx) ⟨0,rfl,by omega,by simp,by simp,by simp,b1,b2,by omega,by omega,e1⟩ ?_;rintro k dT h2 aP ⟨j,rfl,hj,g2,g3,g5,c1,c2,l1,l2,E⟩;refine W.of ?_;simp[mS];by_cases eo:j<v.kids.length
   ·have nK:(j:Int)<v.kids.length:=by omega
    have xl:=dq.at eo;have Gm:=cZ v.kids[j];have Oq:=dI v.kids[j];have Et:=dq.rows v.kids;have h4:4≤v.kids.length*4-j*4:=by omega
    simp[iU,g2,g3,g5,c1,c2,tP,nK];simp[ux,g2,g3,g5,c1,c2,tP,eo,xl,Gm,Oq,Et,h4,rW,hz];refine(ih _ (Lt eo)).mono ?_;rintro o h3 bu ⟨rfl,e3⟩;have n3:=e3.n;simp;simp[sB];simp[sC,g5];rw[aJ (by omega) (by omega)];exact⟨v.kids.length-(j+1),by omega,j+1,rfl,by omega,by simp[g2],by simp[g3],by simp,by rw[e3.g nx l1];exact c1,by rw[e3.g nx.succ l2];exact c2,by omega,by omega,E.trans e3⟩
   ·have nK:¬(j:Int)<v.kids.length:=by omega
    simp[iU,g2,g3,g5,c1,c2,tP,nK];simp[lI,g2,g3,c1,c2,tP];simp[lJ];exact E
theorem Ot{v:Vt}(vS:bV v<1000000){h:T ab}{nx:Key}:ax C jO [.agg (eV v),.agg (eV v)] h nx (fun o h' nx'=>o=.ret (.bool true)∧Ext h nx h' nx'):=by
 have rW:C.raw cS=false:=S.nr (by decide);have s1:=kTSu nx;have s2:=kTSu nx.succ;have hz:∀v n H,aO (aK n) (eV v) H=(eV v,H):=fun v n H=>aG (dq.sg v);refine S.zO.call ?_;simp[x8];simp[x9,ew,cZ];have b2:ae nx.succ (ar nx.succ (some (.cells (eV v) .fix)) (ar nx (some (.cells (eV v) .fix)) h))=some (.cells (eV v) .fix):=by simp
 have b1:ae nx (ar nx.succ (some (.cells (eV v) .fix)) (ar nx (some (.cells (eV v) .fix)) h))=some (.cells (eV v) .fix):=by rw[al (by omega),gTSm]
 have e1:Ext h nx (ar nx.succ (some (.cells (eV v) .fix)) (ar nx (some (.cells (eV v) .fix)) h)) nx.succ.succ:=⟨by omega,fun b hb=>by rw[al (by omega),al hb]⟩;generalize ar nx.succ (some (.cells (eV v) .fix)) (ar nx (some (.cells (eV v) .fix)) h)=h1 at *;simp[ya,b1,b2,cZ,dI,rW,hz];refine(Qf S (bV v) (cI _) vS).mono ?_;rintro o h2 aP ⟨rfl,e2⟩;simp;exact e1.trans e2
theorem Ou{c:Cv}(vS:bV c.2<1000000){h:T ab}{nx:Key}:ax C lK [.agg (ep c),.agg (ep c)] h nx (fun o h' nx'=>o=.ret (.bool true)∧Ext h nx h' nx'):=by
 have rW:C.raw jO=false:=S.nr (by decide);have s1:=kTSu nx;have s2:=kTSu nx.succ;have hz:∀v n H,aO (aK n) (eV v) H=(eV v,H):=fun v n H=>aG (dq.sg v);refine S.BF.call ?_;simp[AI];simp[zP,Ik,JI];have b2:ae nx.succ (ar nx.succ (some (.cells (ep c) .fix)) (ar nx (some (.cells (ep c) .fix)) h))=some (.cells (I c.1 ::eV c.2) .fix):=by rw[gTSm];rfl
 have b1:ae nx (ar nx.succ (some (.cells (ep c) .fix)) (ar nx (some (.cells (ep c) .fix)) h))=some (.cells (I c.1 ::eV c.2) .fix):=by rw[al (by omega),gTSm];rfl
 have e1:Ext h nx (ar nx.succ (some (.cells (ep c) .fix)) (ar nx (some (.cells (ep c) .fix)) h)) nx.succ.succ:=⟨by omega,fun b hb=>by rw[al (by omega),al hb]⟩;generalize ar nx.succ (some (.cells (ep c) .fix)) (ar nx (some (.cells (ep c) .fix)) h)=h1 at *;simp[zQ,b1,b2,cZ,dI,rW,hz];refine(Ot S vS).mono ?_;rintro o h2 aP ⟨rfl,e2⟩;simp;exact e1.trans e2
end Ln
namespace Ln
open Go.Sx Go
theorem KV{z:Nat}{α:Type}{enc:α→List AV}{c:AV}{l:List α}(h:py z enc c l){i:Nat}(hi:i<l.length):c=.sl (an enc l) l.length z .any:=by
 rcases h with⟨_,e⟩|e
 ·rw[e]at hi;simp at hi
 ·exact e
def SmV(len:Nat)(ca cb:AV)(h0:T ab)(n0:Key)(j:Nat)(aD:T AV)(h':T ab)(nx':Key):Prop:=∃i:Nat,j=len-i∧i≤len∧ae (K 0) aD=some ca∧ae (K 1) aD=some cb∧ae (K 5) aD=some (I i)∧Ext h0 n0 h' nx'
def CfI(l:List Cv)(cP:AV)(n0:Key)(h0:T ab)(m:Nat)(aD:T AV)(h':T ab)(nx':Key):Prop:=∃(j:Nat) (c3:AV),m=l.length-j∧j≤l.length∧ae (K 1) aD=some (.ptr n0 0)∧ae (K 3) aD=some c3∧ae (K 4) aD=some (I j)∧ae n0 h'=some (.cells [cP] .fix)∧n0.succ.toNat≤nx'.toNat∧App c3 (an ep (l.take j)) (l.take j).length 5 h' nx' n0.succ∧Ext h0 n0 h' nx'
variable{C:cX}(S:tq C)
include S
theorem Pk{l:List Cv}(hl:l.length≤10000)(hk:OkF l){ca cb:AV}(ha:py 5 ep ca l)(hb:py 5 ep cb l){h:T ab}{nx:Key} :
  ax C lW [ca,cb] h nx (fun o h' nx'=>o=.ret (.bool true)∧Ext h nx h' nx'):=by
 have rS:C.raw lK=false:=S.nr (by decide);have hz:∀c n H,aO (aK n) (ep c) H=(ep c,H):=fun c n H=>aG (cV.sg c);refine S.B0.call ?_;have Ra:=ha.rd h nx;have Rb:=hb.rd h nx;simp[AU];simp[Aa];simp[↓Ra.ln,↓Rb.ln,Ab];simp[Ac];refine W.hO (n:=l.length) (SmV l.length ca cb h nx) ⟨0,by simp,by omega,by simp,by simp,by simp,Ext.refl _ _⟩ ?_;rintro m dT h1 nx1 ⟨i,rfl,hi,g0,g1,g5,e1⟩;refine W.of ?_;simp[Ad];have Ra1:=ha.rd h1 nx1;by_cases PF:i<l.length
 ·have QX:(i:Int)<l.length:=by omega
  have Ti:=g0;have Wv:=g1;rw[KV ha PF]at Ti;rw[KV hb PF]at Wv;have hr:=cV.rows l;have tx:5≤l.length*5-i*5:=by omega
  have ecj:=cV.at PF;obtain⟨_,_,Wc⟩:=hk _ (Lt PF);obtain⟨_,_,oq⟩:=sx.1 Wc;simp[↓Ra1.ln,tJ,g0,g5,QX];simp[Ae,Ti,Wv,g5,PF,hr,tx,ecj,P9,JI,Ik,rS,hz];refine(Ou S (c:=l[i]) (by omega)).mono ?_;rintro o h2 aP ⟨rfl,e2⟩;simp;simp[Af,g5];rw[aJ (by omega) (by omega)];exact⟨l.length-(i+1),by omega,i+1,rfl,by omega,by simp[g0,KV ha PF],by simp[g1,KV hb PF],by simp,e1.trans e2⟩
 ·have Eb:i=l.length:=by omega
  subst Eb;simp[↓Ra1.ln,tJ,g0,g5];simp[Ag];exact e1
theorem Vj{l:List Cv}(hl:l.length≤10000){cP:AV}(hc:py 5 ep cP l){h:T ab}{nx:Key} :
  ax C gy [.agg [cP]] h nx (fun o h' nx'=>(∃c,o=.ret c∧py 5 ep c l)∧Ext h nx h' nx'):=by
 have s1:=kTSu nx;have kP:=hc.cell;have hz:∀v n H,aO (aK n) (eV v) H=(eV v,H):=fun v n H=>aG (dq.sg v);have Ns:∀(c:Cv) n H,aO (aK n) (I c.1 ::eV c.2) H=(I c.1 ::eV c.2,H):=fun c n H=>aG (cV.sg c);refine S.w6.call ?_;simp[tD];simp[vm,kP.1,kP.2];simp[vn];simp[vo];have e1:=E0 h nx (.cells [cP] .fix);refine W.hO (n:=l.length) (CfI l cP nx h) ⟨0,.nils,by simp,by omega,by simp,by simp,by simp,by simp,by omega,App.nil 5,e1⟩ ?_;rintro m dT h1 nx1 ⟨j,c3,rfl,hj,g1,g3,g4,v1,lt,G,e1⟩;have n1:=e1.n;have t1:=kTSu nx1;have R1:=hc.rd h1 nx1;refine W.of ?_;simp[vp];by_cases eo:j<l.length
 ·have nK:(j:Int)<l.length:=by omega
  have hcl:=KV hc eo;have hr:=cV.rows l;have ec:List.take 5 (List.drop (j*5) (an ep l))=I l[j].1 ::eV l[j].2:=cV.at eo;have tx:5≤l.length*5-j*5:=by omega
  have ajn:(l.take j).length=j:=by rw[LF,Nat.min_eq_left (by omega)]
  have e3:=E0 h1 nx1 (.cells (ep l[j]) .fix);obtain⟨c6,h6,xC,ha,G6,n6,f1,f2⟩:=(G.ext e3).LV cV (by omega) (by omega) l[j];rw[←Th eo]at G6;change appendTo 5 c3 (I l[j].1 ::eV l[j].2) 1 (ar nx1 (some (.cells (I l[j].1 ::eV l[j].2) .fix)) h1) nx1.succ=_ at ha;have ajo:List.take 4 (eV l[j].2)=eV l[j].2:=dI _;have e6:Ext h nx h6 xC:=⟨by omega,fun b hb=>by rw[f1 b (by omega),al (by omega)];exact e1.g b hb⟩;simp[↓R1.ln,np,g1,g4,v1,nK];simp[-appendTo,vq,g1,g3,g4,v1,hcl,eo,hr,tx,ec,cZ,dI,ajo,hz,Ns,ha];simp[vr,g4];rw[aJ (by omega) (by omega)];rw[←hcl];exact⟨l.length-(j+1),by omega,j+1,c6,rfl,by omega,by simp[g1],by simp,by simp,by rw[f1 nx (by omega),al (by omega)];exact v1,by omega,G6,e6⟩
 ·have wy:j=l.length:=by omega
  subst wy;rw[List.take_length]at G;obtain⟨hi,hk⟩:=G.Dh cV 9998;simp[↓R1.ln,np,g1,g4,v1];simp[vt,g3];exact⟨hi,⟨by omega,fun b hb=>by rw[hk b (by omega)];exact e1.g b hb⟩⟩
end Ln
namespace Ln
open Go.Sx Go
def PfI(l:List Cv)(cs:AV)(n0:Key)(h0:T ab)(m:Nat)(aD:T AV)(h':T ab)(nx':Key):Prop:=∃(j:Nat) (c3:AV),m=l.length-j∧j≤l.length∧ae (K 0) aD=some cs∧ae (K 2) aD=some (.ptr n0 0)∧ae (K 3) aD=some (.ptr n0.succ 0)∧ae (K 4) aD=some (I j)∧ae n0 h'=some (.cells [.nils] .fix)∧ae n0.succ h'=some (.cells [c3] .fix)∧n0.succ.succ.toNat≤nx'.toNat∧App c3 (an ep (l.take j)) (l.take j).length 5 h' nx' n0.succ.succ∧Ext h0 n0 h' nx'
variable{C:cX}(S:tq C)
include S
theorem Vq{l:List Cv}(hl:l.length≤10000){cs:AV}{h:T ab}{nx:Key}(hc:Rd 5 cs (an ep l) l.length h nx) :
  ax C jS [cs] h nx (fun o h' nx'=>(∃c,o=.ret (.agg [c])∧py 5 ep c l)∧Ext h nx h' nx'):=by
 have s1:=kTSu nx;have s2:=kTSu nx.succ;have hz:∀v n H,aO (aK n) (eV v) H=(eV v,H):=fun v n H=>aG (dq.sg v);have Ns:∀(c:Cv) n H,aO (aK n) (I c.1 ::eV c.2) H=(I c.1 ::eV c.2,H):=fun c n H=>aG (cV.sg c);refine S.Ah.call ?_;simp[yq];simp[yG];simp[yH];simp[yI];have e1:Ext h nx (ar nx.succ (some (.cells [.nils] .fix)) (ar nx (some (.cells [.nils] .fix)) h)) nx.succ.succ:=⟨by omega,fun b hb=>by rw[al (by omega),al hb]⟩;refine W.hO (n:=l.length) (PfI l cs nx h) ⟨0,.nils,by simp,by omega,by simp,by simp,by simp,by simp,by rw[al (by omega),gTSm],by rw[gTSm],cI _,App.nil 5,e1⟩ ?_;rintro m dT h1 nx1 ⟨j,c3,rfl,hj,g0,g2,g3,g4,v0,v1,lt,G,e1⟩;have n1:=e1.n;have t1:=kTSu nx1;have R1:=hc.ext e1;refine W.of ?_;simp[yJ];by_cases eo:j<l.length
 ·have nK:(j:Int)<l.length:=by omega
  have Et:=cV.rows l;have Gz:=cZ l[j].2;have JH:=dI l[j].2;have xl:List.take 5 (List.drop (j*5) (an ep l))=I l[j].1 ::eV l[j].2:=cV.at eo;have h5:5≤l.length*5-j*5:=by omega
  have h50:j*5<l.length*5:=by omega
  have T6:4≤l.length*5-(j*5+1):=by omega
  have T5:List.take 4 (List.drop (j*5+1) (an ep l))=eV l[j].2:=by
   have e1:List.drop (j*5) (an ep l)=ep l[j]++List.drop 5 (List.drop (j*5) (an ep l)):=by rw[←cV.at eo,List.take_append_drop]
   rw[←List.drop_drop,e1];show List.take 4 (eV l[j].2++_)=_;rw[List.take_append_of_le_length (by rw[Gz];omega),JH]
  have Ql:(an ep l)[j*5]?=some (I l[j].1):=by
   have e1:List.drop (j*5) (an ep l)=ep l[j]++List.drop 5 (List.drop (j*5) (an ep l)):=by rw[←cV.at eo,List.take_append_drop]
   have e2:(List.drop (j*5) (an ep l))[0]?=some (I l[j].1):=by rw[e1];rfl
   rw[List.getElem?_drop]at e2;exact e2
  have Qm:∀hh:j*5<(an ep l).length,(an ep l)[j*5]'hh=I l[j].1:=by intro hh;have:=Ql;rw[zqb hh]at this;exact Option.some.inj this
  have ajn:(l.take j).length=j:=by rw[LF,Nat.min_eq_left (by omega)]
  have e3:=E0 h1 nx1 (.cells (ep l[j]) .fix);obtain⟨c6,h6,xC,ha,G6,n6,f1,f2⟩:=(G.ext e3).LV cV (by omega) (by omega) l[j];rw[←Th eo]at G6;change appendTo 5 c3 (I l[j].1 ::eV l[j].2) 1 (ar nx1 (some (.cells (I l[j].1 ::eV l[j].2) .fix)) h1) nx1.succ=_ at ha;have c6c:=G6.cell;have v06:ae nx h6=some (.cells [.nils] .fix):=by rw[f1 nx (by omega),al (by omega)];exact v0
  have v16:ae nx.succ h6=some (.cells [c3] .fix):=by rw[f1 nx.succ (by omega),al (by omega)];exact v1
  have v07:ae nx (ar nx.succ (some (.cells [c6] .fix)) h6)=some (.cells [.nils] .fix):=by rw[al (by omega)];exact v06
  have G7:App c6 (an ep (l.take (j+1))) (l.take (j+1)).length 5 (ar nx.succ (some (.cells [c6] .fix)) h6) xC nx.succ.succ:=G6.set (fun B hB=>by rw[v16]at hB;cases hB;exact⟨by simp,by simp⟩);have e7:Ext h nx (ar nx.succ (some (.cells [c6] .fix)) h6) xC:=⟨by omega,fun b hb=>by rw[al (by omega),f1 b (by omega),al (by omega)];exact e1.g b hb⟩;simp[↓R1.ln,rH,g0,g4,nK];rcases id hc with⟨_,_,e⟩|⟨fl,ud⟩|⟨b,k,ud,hb,Wd,_⟩
  ·omega
  ·have Ti:=g0;rw[ud]at g0;simp[-appendTo,rJ,g0,g3,g4,v1,eo,Et,h5,xl,Gz,JH,hz,Ns,ha,v16,c6c.1,c6c.2];simp[rM,g4];rw[aJ (by omega) (by omega)];exact⟨l.length-(j+1),by omega,j+1,c6,rfl,by omega,by simp[Ti],by simp[g2],by simp[g3],by simp,v07,by simp,by omega,G7,e7⟩
  ·have Ti:=g0;rw[ud]at g0;have GC:ae b h1=some (.cells (an ep l) k):=by rw[e1.g b Wd];exact hb
   simp[-appendTo,rJ,g0,g3,g4,v1,GC,eo,Et,h5,h50,T6,T5,Ql,Qm,Gz,JH,hz,Ns,ha,v16,c6c.1,c6c.2];simp[rM,g4];rw[aJ (by omega) (by omega)];exact⟨l.length-(j+1),by omega,j+1,c6,rfl,by omega,by simp[Ti],by simp[g2],by simp[g3],by simp,v07,by simp,by omega,G7,e7⟩
 ·have wy:j=l.length:=by omega
  have nK:¬(j:Int)<l.length:=by omega
  subst wy;rw[List.take_length]at G;have cc:=G.cell;have G2:App c3 (an ep l) l.length 5 (ar nx (some (.cells [c3] .fix)) h1) nx1 nx.succ.succ:=G.set (fun B hB=>by rw[v0]at hB;cases hB;exact⟨by simp,by simp⟩);have e7:Ext h nx (ar nx (some (.cells [c3] .fix)) h1) nx1:=⟨by omega,fun b hb=>by rw[al hb];exact e1.g b hb⟩;simp[↓R1.ln,rH,g0,g4,nK];simp[yK,g2,g3,v0,v1,cc.1];generalize ar nx (some (.cells [c3] .fix)) h1=h7 at *;obtain⟨hR,hf⟩:py 5 ep (aK 9998 c3 h7).1 l∧∀b:Key,b.toNat<nx.succ.succ.toNat→ae b (aK 9998 c3 h7).2=ae b h7:=G2.Dh cV 9997;exact⟨hR,e7.n,fun b hb=>by rw[hf b (by omega)];exact e7.g b hb⟩
end Ln
namespace Ln
open Go.Sx Go
variable{C:cX}(S:tq C)
include S
theorem AR{n:Int}(hn:eB n){m:Nat}(hm:0<m)(Dl:m≤1000000){h:T ab}{nx:Key}:ax C cQ [I n,I m] h nx (fun o h' nx'=>o=.ret (I (Lx n m))∧h'=h∧nx'=nx):=by
 obtain⟨h1,h2⟩:=hn;have yf:((m:Int)==0)=false:=bq (by omega);refine S.yl.call ?_;simp[we];simp[wJ];have fin:∀(dR:T AV) (k:Nat),(k:Int)<9223372036854775808→Lx n m=k%m→ae (K 0) dR=some (I k)→ae (K 1) dR=some (I m)→il C (.seq (.ops oU) .ret) (eO [.tmp (K 4)] fun o h' nx'=>o=.ret (I (Lx n m))∧h'=h∧nx'=nx) dR h nx:=by intro dR k hk e q0 q1;have bF:k%m<m:=Nat.mod_lt _ hm;have ht:Int.tmod (k:Int) (m:Int)=((k%m:Nat):Int):=rfl;have hw:aX .i64 ((k%m:Nat):Int)=((k%m:Nat):Int):=aJ (by omega) (by omega);rw[e];simp;simp[-Int.natCast_emod,oU,q0,q1,yf,ht,hw];exact Int.natCast_emod k m
 simp only[Iy,v8]at fin;by_cases bF:n<0
 ·obtain⟨k,hk⟩:=Int.eq_ofNat_of_zero_le (a:=-(n+1)) (by omega);have e:Lx n m=k%m:=by unfold Lx;rw[if_pos bF,hk];rfl
  have w1:aX .i64 (n+1)=n+1:=aJ (by omega) (by omega);have w2:aX .i64 (-(n+1))=k:=by rw[aJ (by omega) (by omega),hk]
  simp[oV,bF];simp[wK,w1,w2];refine fin _ k (by omega) e ?_ ?_<;>simp
 ·obtain⟨k,hk⟩:=Int.eq_ofNat_of_zero_le (a:=n) (by omega);have e:Lx n m=k%m:=by unfold Lx;rw[if_neg bF,hk];rfl
  simp[oV,bF];refine fin _ k (by omega) e ?_ ?_
  ·simp[hk]
  ·simp
theorem QW{c:AV}{l:List Int}(hc:py 1 eI c l)(qs:∀n∈l,eB n){i m:Nat}(hm:0<m)(Dl:m≤1000000){h:T ab}{nx:Key}:ax C lU [c,I i,I m] h nx (fun o h' nx'=>(∃k:Nat,o=.ret (I k)∧k<m)∧h'=h∧nx'=nx):=by
 have rA:C.raw cQ=false:=S.nr (by decide);have hi:¬(i:Int)<0:=by omega
 refine S.BQ.call ?_;simp[AS];simp[zU];rcases hc with⟨rfl,rfl⟩|rfl
 ·simp[nA,hi];simp[tB];exact⟨0,rfl,hm⟩
 ·by_cases PF:i<l.length
  ·have QX:(i:Int)<l.length:=by omega
   have hx:=Hx PF;have Et:=BL l;have tx:1≤l.length-i:=by omega
   simp[nA,hi,QX];simp[zV,PF,hx,Et,tx,rA];refine(AR S (qs _ (Lt PF)) hm Dl).mono ?_;rintro o h2 aP ⟨rfl,rfl,rfl⟩;simp;exact⟨_,rfl,L8 hm _⟩
  ·have QX:¬(i:Int)<l.length:=by omega
   simp[nA,hi,QX];simp[tB];exact⟨0,rfl,hm⟩
structure Df(g:Key)(c:AV)(a:Nat)(h:T ab)(nx:Key):Prop where
 at_:ae g h=some (.cells [c,I a] .fix)
 hi:g.toNat<nx.toNat
def NxR(g:Key)(c:AV)(a m:Nat)(h:T ab)(nx:Key)(o:Out)(h':T ab)(nx':Key):Prop:=(∃k:Nat,o=.ret (I k)∧k<m)∧Df g c (a+1) h' nx'∧nx'=nx∧∀b:Key,b≠g→ae b h'=ae b h
theorem sI{g:Key}{c:AV}{l:List Int}(hc:(c=.nils∧l=[])∨c=.sl (an eI l) l.length 1 .any)(qs:∀n∈l,eB n){a:Nat}(ha:a<1000000){m:Nat}(hm:2≤m)(Dl:m≤1000){h:T ab}{nx:Key}(G:Df g c a h nx):ax C aY [.ptr g 0,I m] h nx (NxR g c a m h nx):=by
 have g1:=G.at_;have hw:aX .i64 ((a:Int)+1)=(a:Int)+1:=aJ (by omega) (by omega);have hm':¬(m:Int)<2:=by omega
 have yf:((m:Int)==0)=false:=bq (by omega);refine S.ym.call ?_;simp[wg];simp[wL];have none:∀tm:T AV,ae (K 0) tm=some (.ptr g 0)→il C ((av.ops oW).seq ((av.ops oY).seq av.ret)) (eO [RV.tmp (K 4)] (NxR g c a m h nx)) tm h nx:=by intro tm q0;simp;simp[oW,q0,g1,hw];simp[oY];exact⟨⟨0,rfl,by omega⟩,⟨by rw[gTSm];rfl,G.hi⟩,rfl,fun b hb=>bQ _ _ _ _ hb⟩
 simp only[Iy,v8]at none;rcases hc with⟨MU,rfl⟩|MU
 ·have g2:=g1;rw[MU]at g2;have ha0:¬(a:Int)<0:=by omega
  simp[ki,g2,ha0];exact none _ (by simp)
 ·have g2:=g1;rw[MU]at g2;by_cases hal:a<l.length
  ·have hai:(a:Int)<l.length:=by omega
   have hx:=Hx hal;have Et:=BL l;have tx:1≤l.length-a:=by omega
   obtain⟨n1,n2⟩:=qs _ (Lt hal);simp[ki,g2,hai,hm'];generalize hln:l[a]=n at *;have Hs:-(m:Int)<Int.tmod n m:=Int.neg_lt_of_neg_lt (by have:=Int.tmod_lt_of_pos (-n) (b:=(m:Int)) (by omega);rw[Int.neg_tmod]at this;omega);have JW:Int.tmod n m<m:=Int.tmod_lt_of_pos n (by omega);have hwr:aX .i64 (Int.tmod n m)=Int.tmod n m:=aJ (by omega) (by omega);simp[wM,g2,hal,hx,Et,tx,hwr,yf];generalize Int.tmod n m=r at *;simp[wN,g2,hw];have G2:Df g c (a+1) (ar g (some (.cells [c,I ((a:Int)+1)] .fix)) h) nx:=⟨by rw[gTSm];rfl,G.hi⟩;have hf:∀b:Key,b≠g→ae b (ar g (some (.cells [c,I ((a:Int)+1)] .fix)) h)=ae b h:=fun b hb=>bQ _ _ _ _ hb;rw[MU]at G2 hf;by_cases hr0:r<0
   ·have hwm:aX .i64 (r+m)=r+m:=aJ (by omega) (by omega);simp[o0,hr0];simp[wO,hwm];simp[o4];refine⟨⟨(r+m).toNat,by rw[Int.toNat_of_nonneg (by omega)],by omega⟩,?_,rfl,?_⟩
    ·rw[MU];exact G2
    ·exact hf
   ·simp[o0,hr0];simp[o4];refine⟨⟨r.toNat,by rw[Int.toNat_of_nonneg (by omega)],by omega⟩,?_,rfl,?_⟩
    ·rw[MU];exact G2
    ·exact hf
  ·have hai:¬(a:Int)<l.length:=by omega
   simp[ki,g2,hai];exact none _ (by simp)
end Ln
namespace Ln
open Go.Sx Go
def um(g:Key)(h:T ab)(nx:Key)(h':T ab)(nx':Key):Prop:=nx.toNat≤nx'.toNat∧∀b:Key,b.toNat<nx.toNat→b≠g→ae b h'=ae b h
theorem um.refl(g:Key)(h:T ab)(nx:Key):um g h nx h nx:=⟨cI _,fun _ _ _=>rfl⟩
theorem um.trans{g:Key}{h h1 h2:T ab}{nx nx1 aP:Key}(a:um g h nx h1 nx1)(b:um g h1 nx1 h2 aP):um g h nx h2 aP:=⟨Nat.le_trans a.1 b.1,fun q h1 h2=>by rw[b.2 q (by have:=a.1;omega) h2,a.2 q h1 h2]⟩
theorem um.of{g:Key}{h h':T ab}{nx nx':Key}(e:Ext h nx h' nx'):um g h nx h' nx':=⟨e.n,fun b hb _=>e.g b hb⟩
theorem um.put{g:Key}{h h':T ab}{nx nx':Key}(F:um g h nx h' nx'){b:Key}(hb:nx.toNat≤b.toNat)(B:Option ab):um g h nx (ar b B h') nx':=⟨F.1,fun q hq h1=>by rw[al (by omega)];exact F.2 q hq h1⟩
theorem um.Qz{g:Key}{h h':T ab}{nx:Key}(hf:∀b:Key,b≠g→ae b h'=ae b h):um g h nx h' nx:=⟨cI _,fun b _ hg=>hf b hg⟩
theorem Df.ext{g:Key}{c:AV}{a:Nat}{h h':T ab}{nx nx':Key}(G:Df g c a h nx)(e:Ext h nx h' nx'):Df g c a h' nx':=⟨by rw[e.g _ G.hi];exact G.at_,by have:=G.hi;have:=e.n;omega⟩
theorem Df.put{g:Key}{c:AV}{a:Nat}{h:T ab}{nx b:Key}(G:Df g c a h nx)(hb:b≠g)(B:Option ab):Df g c a (ar b B h) nx:=⟨by rw[bQ _ _ _ _ (Ne.symm hb)];exact G.at_,G.hi⟩
def On(v:Vt)(s:Nat):Prop:=DN v∧ku v=true∧wc v=true∧bV v≤s
def Tg(g:Key)(c:AV)(a d:Nat)(h:T ab)(nx:Key)(o:Out)(h':T ab)(nx':Key):Prop:=(∃v,o=.ret (.agg (eV v))∧On v (4^(d+1)))∧(∃a',Df g c a' h' nx'∧a'≤a+4*4^d)∧um g h nx h' nx'
theorem Ni{n:Int}(hn:eB n){s:Nat}(hs:1≤s):On (.mk 0 n 0 0 []) s:=⟨⟨⟨by omega,by omega⟩,hn,by omega,by simp,trivial⟩,rfl,rfl,hs⟩
theorem QB{n:Nat}(hn:n<2){s:Nat}(hs:1≤s):On (.mk 1 n 0 0 []) s:=by
 have:n=0∨n=1:=by omega
 rcases this with rfl|rfl<;>exact⟨⟨⟨by omega,by omega⟩,⟨by omega,by omega⟩,by omega,by simp,trivial⟩,rfl,rfl,hs⟩
theorem BN{a b:Nat}(h:(a,b)=(4,1717658956)∨(a,b)=(1,65)∨(a,b)=(5,521644567877)∨(a,b)=(3,3301186)∨(a,b)=(4,1802661702)∨(a,b)=(2,31322)):qo a b=true∧a<18446744073709551616∧b<256^a:=by rcases h with h|h|h|h|h|h<;>cases h<;>exact⟨by decide,by decide,by decide⟩
theorem QC{a b:Nat}(h:qo a b=true∧a<18446744073709551616∧b<256^a){s:Nat}(hs:1≤s):On (.mk 3 0 a b []) s:=⟨⟨⟨by omega,by omega⟩,⟨by omega,by omega⟩,h.2.1,h.2.2,trivial⟩,by simp[ku,iT,fH,h.1],rfl,hs⟩
theorem BO(d:Nat):1≤4^d:=Nat.one_le_pow _ _ (by omega)
variable{C:cX}(S:tq C)
include S
theorem OB{g:Key}{c:AV}{l:List Int}(hc:(c=.nils∧l=[])∨c=.sl (an eI l) l.length 1 .any)(qs:∀n∈l,eB n){a:Nat}(ha:a<900000){d:Nat}{h h1:T ab}{nx nx1:Key}(G:Df g c (a+1) h1 nx1)(hg:g.toNat<nx.toNat)(LZ:nx.toNat<nx1.toNat)(F:um g h nx h1 nx1)(bo:ae nx h1=some (.cells z4 .fix)){tm:T AV}(g0:ae (K 0) tm=some (.ptr g 0))(g4:ae (K 4) tm=some (.ptr nx 0)){Q:cu}
  (hQ:∀aD h' nx' n a',eB n→ae (K 4) aD=some (.ptr nx 0)→ae nx h'=some (.cells [I 0,I n,.str 0 0,.nils] .fix)→Df g c a' h' nx'→a'≤a+4→um g h nx h' nx'→Q .norm aD h' nx') :
  il C (.ops fI) Q tm h1 nx1:=by
 have qN:C.raw aY=false:=S.nr (by decide);have s1:=kTSu nx1;have s2:=kTSu nx1.succ;have OC:nx≠g:=ay (by omega);simp[fI,g0,qN];refine(sI S hc qs (by omega) (m:=5) (by omega) (by omega) G).mono ?_;rintro o h2 aP ⟨⟨x1,rfl,Cf⟩,G2,rfl,f2⟩;simp[g0,qN];refine(sI S hc qs (by omega) (m:=100) (by omega) (by omega) G2).mono ?_;rintro o h3 bu ⟨⟨x2,rfl,hx2⟩,G3,rfl,f3⟩;have hw:aX .i64 ((x2:Int)-50)=(x2:Int)-50:=aJ (by omega) (by omega);simp[hw,g0,qN];have s3:=kTSu bu;have s4:=kTSu bu.succ;have v24:ae bu (ar bu.succ (some (.cells [.int .i64 (.lit 0),.int .i64 (.lit 0),.int .i64 (.lit 0),.int .i64 (.lit 1),.int .i64 (.lit 1),.int .i64 (.lit 2),.int .i64 (.lit 3)] .fix)) (ar bu (some (.cells [.int .i64 (.lit (x1:Int)),.int .i64 (.lit ((x2:Int)-50)),.int .i64 (.lit 9223372036854775807),.int .i64 (.lit (-9223372036854775808))] .fix)) h3))=some (.cells [I x1,I ((x2:Int)-50),I 9223372036854775807,I (-9223372036854775808)] .fix):=by rw[al (by omega),gTSm]
 have v25:ae bu.succ (ar bu.succ (some (.cells [.int .i64 (.lit 0),.int .i64 (.lit 0),.int .i64 (.lit 0),.int .i64 (.lit 1),.int .i64 (.lit 1),.int .i64 (.lit 2),.int .i64 (.lit 3)] .fix)) (ar bu (some (.cells [.int .i64 (.lit (x1:Int)),.int .i64 (.lit ((x2:Int)-50)),.int .i64 (.lit 9223372036854775807),.int .i64 (.lit (-9223372036854775808))] .fix)) h3))=some (.cells [I 0,I 0,I 0,I 1,I 1,I 2,I 3] .fix):=by rw[gTSm]
 have e4:Ext h3 bu (ar bu.succ (some (.cells [.int .i64 (.lit 0),.int .i64 (.lit 0),.int .i64 (.lit 0),.int .i64 (.lit 1),.int .i64 (.lit 1),.int .i64 (.lit 2),.int .i64 (.lit 3)] .fix)) (ar bu (some (.cells [.int .i64 (.lit (x1:Int)),.int .i64 (.lit ((x2:Int)-50)),.int .i64 (.lit 9223372036854775807),.int .i64 (.lit (-9223372036854775808))] .fix)) h3)) bu.succ.succ:=⟨by omega,fun b hb=>by rw[al (by omega),al hb]⟩;generalize ar bu.succ (some (.cells [.int .i64 (.lit 0),.int .i64 (.lit 0),.int .i64 (.lit 0),.int .i64 (.lit 1),.int .i64 (.lit 1),.int .i64 (.lit 2),.int .i64 (.lit 3)] .fix)) (ar bu (some (.cells [.int .i64 (.lit (x1:Int)),.int .i64 (.lit ((x2:Int)-50)),.int .i64 (.lit 9223372036854775807),.int .i64 (.lit (-9223372036854775808))] .fix)) h3)=h4 at *;have G4:=G3.ext e4;have F4:um g h nx h4 bu.succ.succ:=F.trans ((um.Qz f2).trans ((um.Qz f3).trans (um.of e4)));have ET:ae nx h4=some (.cells z4 .fix):=by rw[e4.g nx LZ,f3 nx OC,f2 nx OC];exact bo
 refine(sI S hc qs (by omega) (m:=7) (by omega) (by omega) G4).mono ?_;rintro o h5 Dd ⟨⟨y,rfl,hy⟩,G5,rfl,f5⟩;have hgl:=G4.hi;have agb:ae bu h5=some (.cells [I x1,I ((x2:Int)-50),I 9223372036854775807,I (-9223372036854775808)] .fix):=by rw[f5 bu (ay (by omega))];exact v24
 have agc:ae bu.succ h5=some (.cells [I 0,I 0,I 0,I 1,I 1,I 2,I 3] .fix):=by rw[f5 bu.succ (ay (by omega))];exact v25
 have Ce:ae nx h5=some (.cells z4 .fix):=by rw[f5 nx OC];exact ET
 have F5:=F4.trans (um.Qz f5);have fin:∀n:Int,eB n→∀dR:T AV,ae (K 4) dR=some (.ptr nx 0)→Q .norm dR (ar nx (some (.cells [I 0,I n,.str 0 0,.nils] .fix)) h5) bu.succ.succ:=fun n hn dR q4=>
  hQ dR _ _ n (a+1+1+1+1) hn q4 (by rw[gTSm]) (G5.put OC _) (by omega) (F5.put (cI _) _)
 unfold z4 at Ce;have hy7:y=0∨y=1∨y=2∨y=3∨y=4∨y=5∨y=6:=by omega
 rcases hy7 with rfl|rfl|rfl|rfl|rfl|rfl|rfl
 all_goals
  simp[agb,agc,g4,Ce,eL];refine fin _ ?_ _ ?_
  ·exact⟨by omega,by omega⟩
  ·simp[g4]
end Ln
namespace Ln
open Go.Sx Go
theorem KR.abW{c:AV}{us:List Vt}{g:Key}{x y:AV}{h h':T ab}{nx nx' n1:Key}(r:KR c us h nx n1)(hg:ae g h=some (.cells [x,y] .fix))(F:um g h nx h' nx'):KR c us h' nx' n1:=by refine⟨r.A.tY F.1 fun b hb hx=>F.2 b hb ?_,r.z⟩;rintro rfl;rw[hg]at hx;rcases hx with hx|⟨l,hx⟩<;>simp at hx
theorem KR.beq{c:AV}{us:List Vt}{h:T ab}{nx n1:Key}(r:KR c us h nx n1):c.beq c=true:=by
 rcases r.A.is with⟨rfl,_,_⟩|⟨b,rfl,_⟩|⟨t,rfl,_⟩
 ·rfl
 ·exact beq_refl _ rfl
 ·exact beq_refl _ (by simp[AV.lits,dq.V7])
def V8(g o1 v1:Key)(cg:AV)(e n:Nat)(k:Int)(a b a0:Nat)(h:T ab)(nx:Key)(m:Nat)(aD:T AV)(h':T ab)(nx':Key):Prop:=
 ∃(j:Nat) (us:List Vt) (c:AV) (a':Nat),m=n-j∧j≤n∧us.length=j∧ae (K 0) aD=some (.ptr g 0)∧ae (K 1) aD=some (I ((e:Int)+1))∧ae (K 4) aD=some (.ptr o1 0)∧ae (K 6) aD=some (.ptr v1 0)∧ae (K 7) aD=some (I n)∧ae (K 8) aD=some (I j)∧
  ae o1 h'=some (.cells z4 .fix)∧ae v1 h'=some (.cells [I k,I 0,.str a b,c] .fix)∧o1.toNat<nx'.toNat∧v1.toNat<nx'.toNat∧KR c us h' nx' nx∧(∀u∈us,On u (4^(e+1)))∧Df g cg a' h' nx'∧a'≤a0+j*(4*4^e)∧um g h nx h' nx'
variable{C:cX}(S:tq C)
include S
theorem Oo{g o1 v1:Key}{cg:AV}{e n:Nat}{k:Int}{a b a0 M:Nat}(he:e≤5)(hn:n≤3)(hM:a0+3*(4*4^e)<M){h:T ab}{nx:Key}(hg:g.toNat<nx.toNat)(ho:nx.toNat≤o1.toNat)(hv:nx.toNat≤v1.toNat)(hov:o1≠v1)
  (hr:∀{a:Nat} {h:T ab} {nx:Key},a<M→Df g cg a h nx→ax C bx [.ptr g 0,I e] h nx (Tg g cg a e h nx))
  {Q:cu} {m:Nat} {tm:T AV} {h1:T ab} {nx1:Key} (A:V8 g o1 v1 cg e n k a b a0 h nx m tm h1 nx1)
  (xS:∀aD h' nx' us c a',us.length=n→(∀u∈us,On u (4^(e+1)))→ae (K 4) aD=some (.ptr o1 0)→ae (K 6) aD=some (.ptr v1 0)→ae o1 h'=some (.cells z4 .fix)→ae v1 h'=some (.cells [I k,I 0,.str a b,c] .fix)→KR c us h' nx' nx→Df g cg a' h' nx'→a'≤a0+n*(4*4^e)→um g h nx h' nx'→Q .norm aD h' nx') :
  W C (.loop fG) (cz 1 Q) tm h1 nx1:=by
 have rV:C.raw bx=false:=S.nr (by decide);have h4e:4^e≤4^5:=Nat.pow_le_pow_right (by omega) he;have h45:(4:Nat)^5=1024:=rfl;refine W.hO (V8 g o1 v1 cg e n k a b a0 h nx) A ?_;rintro m dT h2 aP ⟨j,us,c,a',rfl,hj,Ok,g0,g1,g4,g6,g7,g8,bo,bv,lo,lv,kr,iR,G,hab,F⟩;refine W.of ?_;simp[fG];by_cases eo:j<n
 ·have nK:(j:Int)<n:=by omega
  have hj3:j*(4*4^e)≤3*(4*4^e):=Nat.mul_le_mul_right _ (by omega);simp[lH,g7,g8,nK];have hwd:aX .i64 (e:Int)=(e:Int):=aJ (by omega) (by omega);simp[sy,g0,g1,g6,bv,rV,hwd];refine(hr (by omega) G).mono ?_;rintro o h3 bu ⟨⟨u,rfl,hu⟩,⟨a3,G3,ha3⟩,F3⟩;have n3:=F3.1;have nF:=F.1;have Jo:=kr.abW G.at_ F3;have F4:=F.trans F3;have s3:=kTSu bu;have Gm:=cZ u;have JM:=ew u;have Oq:=dI u;have Cq:ae o1 h3=some (.cells z4 .fix):=by rw[F3.2 o1 lo (ay (by omega))];exact bo
  have Qd:ae v1 h3=some (.cells [I k,I 0,.str a b,c] .fix):=by rw[F3.2 v1 lv (ay (by omega))];exact bv
  have e5:=E0 h3 bu (.cells (eV u) .fix);have bl5:ae bu (ar bu (some (.cells (eV u) .fix)) h3)=some (.cells (eV u) .fix):=by simp
  have Ce:ae o1 (ar bu (some (.cells (eV u) .fix)) h3)=some (.cells z4 .fix):=by rw[al (by omega)];exact Cq
  have LW:ae v1 (ar bu (some (.cells (eV u) .fix)) h3)=some (.cells [I k,I 0,.str a b,c] .fix):=by rw[al (by omega)];exact Qd
  have A5:=Jo.A.ext e5;have G5:=G3.ext e5;have F6:=F4.trans (um.of e5);obtain⟨c',h6,xC,ga,A6,n6,f1,f2⟩:=A5.LV dq (by omega) (by omega) u;have c6:=A6.cell;have MW:ae o1 h6=some (.cells z4 .fix):=by rw[f2 o1 (by omega) (fun B hB=>by rw[Ce]at hB;cases hB;exact⟨by simp,by simp⟩)];exact Ce
  have Qe:ae v1 h6=some (.cells [I k,I 0,.str a b,c] .fix):=by rw[f2 v1 (by omega) (fun B hB=>by rw[LW]at hB;cases hB;exact⟨by simp,by simp⟩)];exact LW
  simp[-appendTo,g6,Qd,Gm,Oq,JM,V9,ga,Qe,c6.1,c6.2];have bv7:ae v1 (ar v1 (some (.cells [I k,I 0,.str a b,c'] .fix)) h6)=some (.cells [I k,I 0,.str a b,c'] .fix):=by simp
  have P8:ae o1 (ar v1 (some (.cells [I k,I 0,.str a b,c'] .fix)) h6)=some (.cells z4 .fix):=by rw[bQ _ _ _ _ hov];exact MW
  have kr7:KR c' (us ++ [u]) (ar v1 (some (.cells [I k,I 0,.str a b,c'] .fix)) h6) xC nx:=⟨A6.set (fun B hB=>by rw[Qe]at hB;cases hB;exact⟨by simp,by simp⟩),fun e=>by simp at e⟩;have G7:Df g cg a3 (ar v1 (some (.cells [I k,I 0,.str a b,c'] .fix)) h6) xC:=⟨by rw[al (by omega),f1 g (by omega)];exact G5.at_,by omega⟩;have F7:um g h nx (ar v1 (some (.cells [I k,I 0,.str a b,c'] .fix)) h6) xC:=um.put ⟨by have:=F6.1;omega,fun b hb h1=>by rw[f1 b hb];exact F6.2 b hb h1⟩ hv _;generalize ar v1 (some (.cells [I k,I 0,.str a b,c'] .fix)) h6=h7 at *;simp[sA,g8];rw[aJ (by omega) (by omega)];refine⟨kr.beq,n-(j+1),by omega,j+1,us ++ [u],c',a3,rfl,by omega,by rw[fO,Ok];rfl,by simp[g0],by simp[g1],by simp[g4],by simp[g6],by simp[g7],by simp,P8,bv7,by omega,by omega,kr7,?_,G7,?_,F7⟩
  ·intro x hx;rcases List.mem_append.1 hx with hx|hx
   ·exact iR x hx
   ·simp at hx;subst hx;exact hu
  ·rw[Nat.add_mul,Nat.one_mul];omega
 ·have wy:j=n:=by omega
  subst wy;simp[lH,g7,g8];exact xS _ _ _ us c a' Ok iR (by simp[g4]) (by simp[g6]) bo bv kr G hab F
end Ln
namespace Ln
open Go.Sx Go
abbrev Xg:av:=(.seq (.seq (.ops m9)
 (.block 0 (.seq (.seq (.ops bU)
 (.cond (.t dm)
 .skip
 (.ops cE)))
 (.cond (.t dm)
 (.seq (.ops fI)
 .ret)
 (.seq (.ops dg)
 (.cond (.t y9)
 (.seq (.ops na)
 .ret)
 (.seq (.ops dy)
 (.cond (.t zo)
 (.seq (.ops lZ)
 .ret)
 .skip))))))))
 (.seq (.ops eT)
 (.seq (.seq (.ops eU)
 (.cond (.t Dk)
 (.ops l5)
 .skip))
 (.seq (.ops ig)
 (.seq (.seq (.ops ij)
 (.block 1 (.loop fG)))
 (.seq (.ops ik)
 .ret))))))
theorem Rr{k:Int}{a b:Nat}{us:List Vt}{e:Nat}(hk:(k=2∧a=0∧b=0)∨(k=3∧qo a b=true∧a<18446744073709551616∧b<256^a))(hl:us.length≤3)(hu:∀u∈us,On u (4^(e+1))):On (.mk k 0 a b us) (4^(e+1+1)):=by
 have qs:∀l:List Vt,(∀u∈l,On u (4^(e+1)))→II l∧fH l=true∧kY l=true∧bS l≤l.length*4^(e+1):=by
  intro l
  induction l with
  |nil=>intro _;exact⟨trivial,rfl,rfl,by simp[bS]⟩
  |cons u l ih=>intro h;obtain⟨a1,a2,a3,a4⟩:=h u (by simp);obtain⟨b1,b2,b3,b4⟩:=ih fun x hx=>h x (by simp[hx]);refine⟨⟨a1,b1⟩,by simp[fH,a2,b2],by simp[kY,a3,b3],?_⟩;rw[bS,Ci,Nat.add_mul,Nat.one_mul];omega
 obtain⟨h1,h2,h3,h4⟩:=qs us hu;have h5:us.length*4^(e+1)≤3*4^(e+1):=Nat.mul_le_mul_right _ hl;have h6:=BO (e+1);have h7:4^(e+1+1)=4^(e+1)*4:=Nat.pow_succ ..;rcases hk with⟨rfl,rfl,rfl⟩|⟨rfl,hc,ha,hb⟩
 ·refine⟨⟨⟨by omega,by omega⟩,⟨by omega,by omega⟩,by omega,by simp,h1⟩,by simp[ku,iT,h2],by simp[wc,CP,h3];omega,by rw[bV];omega⟩
 ·refine⟨⟨⟨by omega,by omega⟩,⟨by omega,by omega⟩,ha,hb,h1⟩,by simp[ku,iT,h2,hc],by simp[wc,CP,h3];omega,by rw[bV];omega⟩
variable{C:cX}(S:tq C)
include S
theorem Rs{g v1:Key}{c:AV}{l:List Int}(hc:(c=.nils∧l=[])∨c=.sl (an eI l) l.length 1 .any)(qs:∀n∈l,eB n){a a0 d e M:Nat}(hM:a+3+3*(4*4^e)<M)(ha:a<400000)(hd:d≤5)(hde:d=e+1)(ha0:a0≤a+2){k:Int}{A B:Nat}(hk:(k=2∧A=0∧B=0)∨(k=3∧qo A B=true∧A<18446744073709551616∧B<256^A)){h h1:T ab}{nx nx1:Key}(G:Df g c a0 h1 nx1)(hg:g.toNat<nx.toNat)(LZ:nx.toNat<v1.toNat)(hv1:v1.toNat<nx1.toNat)(F:um g h nx h1 nx1)(bo:ae nx h1=some (.cells z4 .fix))(bv:ae v1 h1=some (.cells [I k,I 0,.str A B,.nils] .fix))
  (ih:∀{a:Nat} {h:T ab} {nx:Key},a<M→Df g c a h nx→ax C bx [.ptr g 0,I e] h nx (Tg g c a e h nx))
  {tm:T AV} (g0:ae (K 0) tm=some (.ptr g 0)) (g1:ae (K 1) tm=some (I d)) (g4:ae (K 4) tm=some (.ptr nx 0)) (g6:ae (K 6) tm=some (.ptr v1 0)) :
  il C ((av.ops ig).seq (((av.ops ij).seq (av.block 1 fG.loop)).seq ((av.ops ik).seq av.ret))) (eO [RV.cell (K 4) true 4] (Tg g c a d h nx)) tm h1 nx1:=by
 have qN:C.raw aY=false:=S.nr (by decide);have OC:nx≠g:=ay (by omega);have hvg:v1≠g:=ay (by omega);have hp:=BO e;have hpd:4^d=4^e*4:=by rw[hde,Nat.pow_succ]
 subst hde;simp;simp[ig,g0,qN];refine(sI S hc qs (by omega) (m:=4) (by omega) (by omega) G).mono ?_;rintro o h2 aP ⟨⟨n,rfl,hn⟩,G2,rfl,f2⟩;have Hr:ae nx h2=some (.cells z4 .fix):=by rw[f2 nx OC];exact bo
 have bv2:ae v1 h2=some (.cells [I k,I 0,.str A B,.nils] .fix):=by rw[f2 v1 hvg];exact bv
 have F2:=F.trans (um.Qz f2);simp;simp[ij];refine Oo S (g:=g) (o1:=nx) (v1:=v1) (cg:=c) (e:=e) (n:=n) (k:=k) (a:=A) (b:=B) (a0:=a0+1) (by omega) (by omega) (by omega) hg (cI _) (by omega) (ay (by omega)) (fun h1 h2=>ih h1 h2) (h:=h) (nx:=nx) (m:=n) ⟨0,[],.nils,a0+1,rfl,Nat.zero_le _,rfl,by simp[g0],by simp[g1],by simp[g4],by simp[g6],by simp,by simp,Hr,bv2,by omega,hv1,KR.nil _ _ _,by simp,G2,by omega,F2⟩ ?_;intro aD h' nx' us c' a' Ok iR q4 q6 Cq Qd Jo G3 ha3 F3;have hn3:n*(4*4^e)≤3*(4*4^e):=Nat.mul_le_mul_right _ (by omega);have cc:=Jo.A.cell;unfold z4 at Cq;have n3:=F3.1;simp[ik,q4,q6,Qd,Cq,cc.1];have Xh:KR c' us (ar nx (some (.cells [I k,I 0,.str A B,c'] .fix)) h') nx' nx:=⟨Jo.A.set (fun B hB=>by rw[Cq]at hB;cases hB;exact⟨by simp,by simp⟩),Jo.z⟩;have G4:=G3.put OC (some (.cells [I k,I 0,.str A B,c'] .fix));have F4:=F3.put (cI _) (some (.cells [I k,I 0,.str A B,c'] .fix));generalize ar nx (some (.cells [I k,I 0,.str A B,c'] .fix)) h'=h4 at *;obtain⟨ZQ,Ns⟩:(aK 9998 c' h4).1=kV us∧∀b:Key,b.toNat<nx.toNat→ae b (aK 9998 c' h4).2=ae b h4:=Xh.fz 9997;rw[ZQ];refine⟨⟨.mk k 0 A B us,by rw[qM],Rr hk (by omega) iR⟩,⟨a',⟨by rw[Ns g hg];exact G4.at_,G4.hi⟩,by omega⟩,F4.1,fun b hb h1=>by rw[Ns b hb];exact F4.2 b hb h1⟩
theorem adw{g:Key}{c:AV}{l:List Int}(hc:(c=.nils∧l=[])∨c=.sl (an eI l) l.length 1 .any)(qs:∀n∈l,eB n){a d M:Nat}(hM:∀e,d=e+1→a+3+3*(4*4^e)<M)(ha:a<400000)(hd:d≤5){h h1:T ab}{nx nx1:Key}(G:Df g c (a+1) h1 nx1)(hg:g.toNat<nx.toNat)(LZ:nx.toNat<nx1.toNat)(F:um g h nx h1 nx1)(bo:ae nx h1=some (.cells z4 .fix))
  (ih:∀e,d=e+1→∀{a:Nat} {h:T ab} {nx:Key},a<M→Df g c a h nx→ax C bx [.ptr g 0,I e] h nx (Tg g c a e h nx))
  {tm:T AV} (g0:ae (K 0) tm=some (.ptr g 0)) (g1:ae (K 1) tm=some (I d)) (g4:ae (K 4) tm=some (.ptr nx 0)) {kk:Nat} (hk:kk<7) (VR:d=0→kk<4) (g5:ae (K 5) tm=some (I kk)) :
  il C Xg (eO [RV.cell (K 4) true 4] (Tg g c a d h nx)) tm h1 nx1:=by
 have qN:C.raw aY=false:=S.nr (by decide);have s1:=kTSu nx1;have OC:nx≠g:=ay (by omega);have hp4:=BO d;have aiF:=BO (d+1);have leaf:∀{v:Vt} {h':T ab} {nx':Key} {a':Nat},On v 1→Df g c a' h' nx'→a'≤a+4→um g h nx h' nx'→Tg g c a d h nx (.ret (.agg (eV v))) h' nx':=fun {v h' nx' a'} hv G ha F=>⟨⟨v,rfl,hv.1,hv.2.1,hv.2.2.1,Nat.le_trans hv.2.2.2 aiF⟩,⟨a',G,by omega⟩,F⟩;have hz:∀v n H,aO (aK n) (eV v) H=(eV v,H):=fun v n H=>aG (dq.sg v);simp;simp[m9,g5];have hk7:kk=0∨kk=1∨kk=2∨kk=3∨kk=4∨kk=5∨kk=6:=by omega
 have int:∀dR:T AV,ae (K 0) dR=some (.ptr g 0)→ae (K 4) dR=some (.ptr nx 0)→∀Q:cu,(∀aD h' nx' n a',eB n→ae (K 4) aD=some (.ptr nx 0)→ae nx h'=some (.cells [I 0,I n,.str 0 0,.nils] .fix)→Df g c a' h' nx'→a'≤a+4→um g h nx h' nx'→Q .norm aD h' nx')→il C (.ops fI) Q dR h1 nx1:=fun dR q0 q4 Q hQ=>OB S hc qs (by omega) (d:=d) G hg LZ F bo q0 q4 hQ;rcases hk7 with rfl|rfl|rfl|rfl|rfl|rfl|rfl
 ·simp[bU,g5];refine lG (int _ (by simp[g0]) (by simp[g4]) _ ?_);intro aD h' nx' n a' hn q4 bo' G' ha' F';simp[q4,bo'];have:=leaf (v:=.mk 0 n 0 0 []) (Ni hn (cI 1)) G' ha' F';rw[qM,kV]at this;exact this
 ·simp[bU,g5];simp[cE,g5];refine lG (int _ (by simp[g0]) (by simp[g4]) _ ?_);intro aD h' nx' n a' hn q4 bo' G' ha' F';simp[q4,bo'];have:=leaf (v:=.mk 0 n 0 0 []) (Ni hn (cI 1)) G' ha' F';rw[qM,kV]at this;exact this
 ·simp[bU,g5];simp[cE,g5];simp[dg,g5];simp[na,g0,qN];refine(sI S hc qs (by omega) (m:=2) (by omega) (by omega) G).mono ?_;rintro o h2 aP ⟨⟨y,rfl,hy⟩,G2,rfl,f2⟩;have Hr:ae nx h2=some (.cells z4 .fix):=by rw[f2 nx OC];exact bo
  unfold z4 at Hr;simp[g4,Hr];have:=leaf (v:=.mk 1 y 0 0 []) (QB hy (cI 1)) (G2.put OC _) (by omega) ((F.trans (um.Qz f2)).put (cI _) (some (.cells [I 1,I y,.str 0 0,.nils] .fix)));rw[qM,kV]at this;exact this
 ·simp[bU,g5];simp[cE,g5];simp[dg,g5];simp[dy,g5];simp[lZ,g0,qN];have v40:ae nx1 (ar nx1 (some (.cells [.str 4 1717658956,.str 1 65,.str 5 521644567877,.str 3 3301186] .fix)) h1)=some (.cells [.str 4 1717658956,.str 1 65,.str 5 521644567877,.str 3 3301186] .fix):=by simp
  have e2:=E0 h1 nx1 (.cells [.str 4 1717658956,.str 1 65,.str 5 521644567877,.str 3 3301186] .fix);generalize ar nx1 (some (.cells [.str 4 1717658956,.str 1 65,.str 5 521644567877,.str 3 3301186] .fix)) h1=h2 at *;have hg1:=G.hi;refine(sI S hc qs (by omega) (m:=4) (by omega) (by omega) (G.ext e2)).mono ?_;rintro o h3 bu ⟨⟨y,rfl,hy⟩,G3,rfl,f3⟩;have Cq:ae nx h3=some (.cells z4 .fix):=by rw[f3 nx OC,e2.g nx LZ];exact bo
  have v43:ae nx1 h3=some (.cells [.str 4 1717658956,.str 1 65,.str 5 521644567877,.str 3 3301186] .fix):=by rw[f3 nx1 (ay (by omega))];exact v40
  have F3:=F.trans ((um.of e2).trans (um.Qz f3));unfold z4 at Cq;have fin:∀{A B:Nat},qo A B=true∧A<18446744073709551616∧B<256^A→Tg g c a d h nx (.ret (.agg [I 3,I 0,.str A B,.nils])) (ar nx (some (.cells [I 3,I 0,.str A B,.nils] .fix)) h3) nx1.succ:=by intro A B hAB;have:=leaf (v:=.mk 3 0 A B []) (QC hAB (cI 1)) (G3.put OC _) (by omega) (F3.put (cI _) (some (.cells [I 3,I 0,.str A B,.nils] .fix)));rw[qM,kV]at this;exact this
  have hy4:y=0∨y=1∨y=2∨y=3:=by omega
  rcases hy4 with rfl|rfl|rfl|rfl
  all_goals
   simp[v43,g4,Cq,eL];exact fin (BN (by simp))
 ·have hd0:d≠0:=fun e=>by have:=VR e;omega
  obtain⟨e,he⟩:∃e,d=e+1:=⟨d-1,by omega⟩;simp[bU,g5];simp[cE,g5];simp[dg,g5];simp[dy,g5];simp[eT];simp[eU,g5];have e2:=E0 h1 nx1 (.cells [.int .i64 (.lit 2),.int .i64 (.lit 0),.str 0 0,.nils] .fix);have key:=fun tm q0 q1 q4 q6=>Rs S (tm:=tm) hc qs (hM e he) ha hd he (a0:=a+1) (by omega) (k:=2) (A:=0) (B:=0) (.inl ⟨rfl,rfl,rfl⟩) (G.ext e2) hg LZ (by omega) (F.trans (um.of e2)) (by rw[al LZ];exact bo) (by rw[gTSm]) (fun h1 h2=>ih e he h1 h2) q0 q1 q4 q6;simp at key;refine key _ ?_ ?_ ?_ ?_<;>simp[g0,g1,g4]
 ·have hd0:d≠0:=fun e=>by have:=VR e;omega
  obtain⟨e,he⟩:∃e,d=e+1:=⟨d-1,by omega⟩;simp[bU,g5];simp[cE,g5];simp[dg,g5];simp[dy,g5];simp[eT];simp[eU,g5];have e2:=E0 h1 nx1 (.cells [.int .i64 (.lit 2),.int .i64 (.lit 0),.str 0 0,.nils] .fix);have key:=fun tm q0 q1 q4 q6=>Rs S (tm:=tm) hc qs (hM e he) ha hd he (a0:=a+1) (by omega) (k:=2) (A:=0) (B:=0) (.inl ⟨rfl,rfl,rfl⟩) (G.ext e2) hg LZ (by omega) (F.trans (um.of e2)) (by rw[al LZ];exact bo) (by rw[gTSm]) (fun h1 h2=>ih e he h1 h2) q0 q1 q4 q6;simp at key;refine key _ ?_ ?_ ?_ ?_<;>simp[g0,g1,g4]
 ·have hd0:d≠0:=fun e=>by have:=VR e;omega
  obtain⟨e,he⟩:∃e,d=e+1:=⟨d-1,by omega⟩;have s2:=kTSu nx1.succ;simp[bU,g5];simp[cE,g5];simp[dg,g5];simp[dy,g5];simp[eT];simp[eU,g5];have e2:=E0 h1 nx1 (.cells [.int .i64 (.lit 2),.int .i64 (.lit 0),.str 0 0,.nils] .fix);have bv2:ae nx1 (ar nx1 (some (.cells [.int .i64 (.lit 2),.int .i64 (.lit 0),.str 0 0,.nils] .fix)) h1)=some (.cells [I 2,I 0,.str 0 0,.nils] .fix):=by rw[gTSm]
  generalize ar nx1 (some (.cells [.int .i64 (.lit 2),.int .i64 (.lit 0),.str 0 0,.nils] .fix)) h1=h2 at *;simp[l5,g0,qN];have v49:ae nx1.succ (ar nx1.succ (some (.cells [.str 4 1802661702,.str 1 65,.str 2 31322] .fix)) h2)=some (.cells [.str 4 1802661702,.str 1 65,.str 2 31322] .fix):=by simp
  have e3:=e2.trans (E0 h2 nx1.succ (.cells [.str 4 1802661702,.str 1 65,.str 2 31322] .fix));have Qd:ae nx1 (ar nx1.succ (some (.cells [.str 4 1802661702,.str 1 65,.str 2 31322] .fix)) h2)=some (.cells [I 2,I 0,.str 0 0,.nils] .fix):=by rw[al (by omega)];exact bv2
  generalize ar nx1.succ (some (.cells [.str 4 1802661702,.str 1 65,.str 2 31322] .fix)) h2=h3 at *;have hg1:=G.hi;refine(sI S hc qs (by omega) (m:=3) (by omega) (by omega) (G.ext e3)).mono ?_;rintro o h4 sw ⟨⟨y,rfl,hy⟩,G4,rfl,f4⟩;have ET:ae nx h4=some (.cells z4 .fix):=by rw[f4 nx OC,e3.g nx LZ];exact bo
  have v44:ae nx1.succ h4=some (.cells [.str 4 1802661702,.str 1 65,.str 2 31322] .fix):=by rw[f4 nx1.succ (ay (by omega))];exact v49
  have OM:ae nx1 h4=some (.cells [I 2,I 0,.str 0 0,.nils] .fix):=by rw[f4 nx1 (ay (by omega))];exact Qd
  have F4:=F.trans ((um.of e3).trans (um.Qz f4));have aiK:nx1≠g:=ay (by omega);have key:=fun {A B:Nat} (hAB:qo A B=true∧A<18446744073709551616∧B<256^A) tm q0 q1 q4 q6=>Rs S (tm:=tm) hc qs (hM e he) ha hd he (a0:=a+1+1) (by omega) (k:=3) (A:=A) (B:=B) (.inr ⟨rfl,hAB⟩) (v1:=nx1) (h1:=ar nx1 (some (.cells [I 3,I 0,.str A B,.nils] .fix)) h4) (G4.put aiK _) hg LZ (by omega) (F4.put (by omega) _) (by rw[al LZ];exact ET) (by rw[gTSm]) (fun h1 h2=>ih e he h1 h2) q0 q1 q4 q6;simp at key;have hy3:y=0∨y=1∨y=2:=by omega
  rcases hy3 with rfl|rfl|rfl
  all_goals
   simp[v44,g4,OM,eL];refine key ?_ ?_ ?_ _ ?_ ?_ ?_ ?_
   all_goals first|(simp[g0,g1,g4];done)|exact(BN (by simp)).1|exact(BN (by simp)).2.1|exact(BN (by simp)).2.2
theorem HK{g:Key}{c:AV}{l:List Int}(hc:(c=.nils∧l=[])∨c=.sl (an eI l) l.length 1 .any)(qs:∀n∈l,eB n){a d M:Nat}(hM:∀e,d=e+1→a+3+3*(4*4^e)<M)(ha:a<400000)(hd:d≤5){h:T ab}{nx:Key}(G:Df g c a h nx)
  (ih:∀e,d=e+1→∀{a:Nat} {h:T ab} {nx:Key},a<M→Df g c a h nx→ax C bx [.ptr g 0,I e] h nx (Tg g c a e h nx)):ax C bx [.ptr g 0,I d] h nx (Tg g c a d h nx):=by
 have qN:C.raw aY=false:=S.nr (by decide);have s1:=kTSu nx;have hgn:=G.hi;refine S.wY.call ?_;simp[tE];simp[uS];have e1:=E0 h nx (.cells z4 .fix);have Ow:ae nx (ar nx (some (.cells z4 .fix)) h)=some (.cells z4 .fix):=by simp
 have G1:=G.ext e1;unfold z4 at Ow e1 G1;generalize ar nx (some (.cells [.int .i64 (.lit 0),.int .i64 (.lit 0),.str 0 0,.nils] .fix)) h=h1 at *;simp[uT,qN];refine(sI S hc qs (by omega) (m:=7) (by omega) (by omega) G1).mono ?_;rintro o h2 aP ⟨⟨k,rfl,hk⟩,G2,rfl,f2⟩;have Hr:ae nx h2=some (.cells z4 .fix):=by rw[f2 nx (ay (by omega))];exact Ow
 have F2:=(um.of (g:=g) e1).trans (um.Qz f2);have key:=fun kk hk VR tm q0 q1 q4 q5=>adw S hc qs hM ha hd G2 hgn (by omega) F2 Hr (fun e he=>ih e he) (tm:=tm) q0 q1 q4 (kk:=kk) hk VR q5;unfold Xg at key;simp at key;by_cases hd0:d=0
 ·subst hd0;have hk7:k=0∨k=1∨k=2∨k=3∨k=4∨k=5∨k=6:=by omega
  simp;simp[nb];rcases hk7 with rfl|rfl|rfl|rfl|rfl|rfl|rfl
  ·simp[cF];exact key 0 (by omega) (by omega) _ (by simp) (by simp) (by simp) (by simp)
  ·simp[cF];exact key 1 (by omega) (by omega) _ (by simp) (by simp) (by simp) (by simp)
  ·simp[cF];exact key 2 (by omega) (by omega) _ (by simp) (by simp) (by simp) (by simp)
  ·simp[cF];exact key 3 (by omega) (by omega) _ (by simp) (by simp) (by simp) (by simp)
  ·simp[cF];exact key 0 (by omega) (by omega) _ (by simp) (by simp) (by simp) (by simp)
  ·simp[cF];exact key 1 (by omega) (by omega) _ (by simp) (by simp) (by simp) (by simp)
  ·simp[cF];exact key 2 (by omega) (by omega) _ (by simp) (by simp) (by simp) (by simp)
 ·have Fy:((d:Int)==0)=false:=bq (by omega);simp;simp[nb,Fy];exact key k hk (by omega) _ (by simp) (by simp) (by simp) (by simp)
theorem X7{g:Key}{c:AV}{l:List Int}(hc:(c=.nils∧l=[])∨c=.sl (an eI l) l.length 1 .any)(qs:∀n∈l,eB n):∀(d:Nat),d≤5→∀{a:Nat} {h:T ab} {nx:Key},a<400000-5000*d→Df g c a h nx→ax C bx [.ptr g 0,I d] h nx (Tg g c a d h nx):=by
 intro d
 induction d with
 |zero=>intro hd a h nx ha G;exact HK S hc qs (M:=0) (fun e he=>by omega) (by omega) hd G (fun e he=>by omega)
 |succ e ihe=>
  intro hd a h nx ha G;have h4e:4^e≤4^4:=Nat.pow_le_pow_right (by omega) (by omega);have h45:(4:Nat)^4=256:=rfl;refine HK S hc qs (M:=400000-5000*e) (fun e' he=>?_) (by omega) hd G (fun e' he=>?_)
  ·obtain rfl:e'=e:=by omega
   omega
  ·obtain rfl:e'=e:=by omega
   intro a h nx ha G;exact ihe (by omega) ha G
end Ln
namespace Ln
open Go.Sx Go
variable{C:cX}(S:tq C)
include S
theorem Qr{c:AV}{l:List Int}(hc:py 1 eI c l)(qs:∀n∈l,eB n){p:Nat}(hp:p≤1000){h:T ab}{nx:Key}:ax C jP [c,I p] h nx (fun o h' nx'=>(∃v,o=.ret (.agg (eV v))∧On v 64)∧Ext h nx h' nx'):=by
 have qG:C.raw bx=false:=S.nr (by decide);have s1:=kTSu nx;have s2:=kTSu nx.succ;have hz:∀v n H,aO (aK n) (eV v) H=(eV v,H):=fun v n H=>aG (dq.sg v);refine S.zR.call ?_;simp[yg];simp[yh];have e1:=E0 h nx (.cells z4 .fix);have Ow:ae nx (ar nx (some (.cells z4 .fix)) h)=some (.cells z4 .fix):=by simp
 unfold z4 at Ow e1;generalize ar nx (some (.cells [.int .i64 (.lit 0),.int .i64 (.lit 0),.str 0 0,.nils] .fix)) h=h1 at *;have Qs:¬(p:Int)<0:=by omega
 have fin:∀(cg:AV) (m:List Int),((cg=.nils∧m=[])∨cg=.sl (an eI m) m.length 1 .any)→(∀n∈m,eB n)→∀dR:T AV,ae (K 4) dR=some (.ptr nx 0)→ae (K 5) dR=some (.ptr nx.succ 0)→il C ((av.ops qY).seq av.ret) (eO [RV.cell (K 4) true 4] fun o h' nx'=>(∃v,o=.ret (.agg (eV v))∧On v 64)∧Ext h nx h' nx') dR (ar nx.succ (some (.cells [cg,I 0] .fix)) h1) nx.succ.succ:=by
  intro cg m hcg hm dR q4 q5;have G:Df nx.succ cg 0 (ar nx.succ (some (.cells [cg,I 0] .fix)) h1) nx.succ.succ:=⟨by rw[gTSm];rfl,by omega⟩;have Hr:ae nx (ar nx.succ (some (.cells [cg,I 0] .fix)) h1)=some (.cells z4 .fix):=by rw[al (by omega)];exact Ow
  have E2:Ext h nx (ar nx.succ (some (.cells [cg,I 0] .fix)) h1) nx.succ.succ:=⟨by omega,fun b hb=>by rw[al (by omega)];exact e1.g b hb⟩;generalize ar nx.succ (some (.cells [cg,I 0] .fix)) h1=h2 at *;simp;simp[qY,q5,qG];refine(X7 S hcg hm 2 (by omega) (by omega) G).mono ?_;rintro o h3 bu ⟨⟨v,rfl,hv⟩,⟨a',G3,_⟩,F3⟩;have Gz:=cZ v;have XW:=ew v;have JH:=dI v;have Cq:ae nx h3=some (.cells z4 .fix):=by rw[F3.2 nx (by omega) (ay (by omega))];exact Hr
  unfold z4 at Cq;simp[q4,Cq,Gz,XW,JH,hz];exact⟨⟨v,rfl,hv⟩,by have:=F3.1;omega,fun b hb=>by rw[al hb,F3.2 b (by omega) (ay (by omega))];exact E2.g b hb⟩
 simp only[Iy,v8]at fin;rcases hc with⟨rfl,rfl⟩|rfl
 ·by_cases p0:p=0
  ·subst p0;simp[iw,eL];exact fin .nils [] (.inl ⟨rfl,rfl⟩) (by simp) _ (by simp) (by simp)
  ·have p1:0<p:=by omega
   simp[iw,Qs,p1,eL];exact fin .nils [] (.inl ⟨rfl,rfl⟩) (by simp) _ (by simp) (by simp)
 ·have Et:=BL l;by_cases nH:(l.length:Int)<p
  ·have uJ:l.length<p:=by omega
   simp[iw,Qs,nH,uJ,eL,Et];exact fin (.sl [] 0 1 .any) [] (.inr rfl) (by simp) _ (by simp) (by simp)
  ·have uJ:¬l.length<p:=by omega
   have X8:p≤l.length:=by omega
   simp[iw,Qs,nH,uJ,X8,eL,Et];have ed:List.drop p (an eI l)=an eI (l.drop p):=by have:=Qt.drop l p;rw[Nat.mul_one]at this;exact this
   have et:List.take (l.length-p) (an eI (l.drop p))=an eI (l.drop p):=Hf (by rw[BL,List.length_drop];omega);rw[ed,et];have el:l.length-p=(l.drop p).length:=by rw[List.length_drop]
   rw[el];exact fin (.sl (an eI (l.drop p)) (l.drop p).length 1 .any) (l.drop p) (.inr rfl) (fun n hn=>qs n (List.mem_of_mem_drop hn)) _ (by simp) (by simp)
end Ln
