/- A part of the proof. No condition. -/
import Derived.Test.YtecbfpngkfdkoaaGreatP35
import Derived.Test.YtecbfpngkfdkoaaGreatP34
set_option linter.unusedSimpArgs false
set_option linter.unusedVariables false
set_option linter.unusedSectionVars false
namespace Ln
open Go.Sx Go
structure Srw(l:List (Cf St))(br bm b4:Key)(n0:Key)(cS:AV)(oC oS:Option Key)(E:List Bk)(cs:List AV)(h:T ah)(nx:Key):Prop where
 G:Gr 1 cS cs cs.length h nx oS
 wU:∀y∈cs,KD y∧y.aM=true
 ap:∀b,oS=some b→b≠br∧b≠bm∧b≠b4∧oC≠some b∧(∀e∈E,e.o≠some b)∧n0.toNat≤b.toNat
variable{C:bP}{X:Kn}(S:Std C X)(H:O0 C)
theorem ayt{n0:Key}{l:List (Cf St)}{st:List (Nat×Nat)}{br bm b4 b6:Key}{cC cS c6:AV}{oC o6 oS:Option Key}{E:List Bk}{cs:List AV}{h:T ah}{nx:Key}(Oc:cs.length≤1100)(A:Exp n0 l st br bm b4 b6 cC cS c6 oC o6 E h nx)(B:Srw l br bm b4 n0 cS oC oS E cs h nx)(hn0:n0.toNat≤nx.toNat)(h6S:∀b,o6=some b→oS≠some b){Q:cH}{tm:T AV}(g4:ag (K 4) tm=some (.ptr b4 0))(g6:ag (K 6) tm=some (.ptr b6 0))
  (hQ:∀aD h' nx' cS' oS' c6',nW 2 eT c6' st→Vg n0 l br bm cC cS' oC E h' nx'→Srw l br bm b4 n0 cS' oC oS' E (cs ++ [c6']) h' nx'→nx.toNat≤nx'.toNat→(∀b:Key,b.toNat<nx.toNat→b≠br→oS≠some b→o6≠some b→ag b h'=ag b h)→(∀b,oS'=some b→oS=some b∨nx.toNat≤b.toNat)→(∀k,(k=K 0∨k=K 2∨k=K 3∨k=K 4∨k=K 5)→ag k aD=ag k tm)→Q .norm aD h' nx') :
  iT C (.staged iB ⟨[K 52,K 53,K 54,K 55,K 56,K 57,K 58,K 59,K 60,K 61],[]⟩) Q tm h nx:=by
 have s1:=kTSu nx;have k6:=A.G6.cell;have kS:=B.G.cell;have e1:=E0 h nx (.cells [c6] .fix);have G6:=A.G6.ext e1;obtain⟨hi6,hf6⟩:=Gr.aaF hJ G6 9998;have Yl:bA (aS 9999) [c6] (aw nx (QZ [c6]) h)=([(aS 9999 c6 (aw nx (QZ [c6]) h)).1],(aS 9999 c6 (aw nx (QZ [c6]) h)).2):=by simp only[bA]
 generalize hc7:(aS 9999 c6 (aw nx (QZ [c6]) h)).1=c7 at *;generalize hh2:(aS 9999 c6 (aw nx (QZ [c6]) h)).2=h2 at *;have k7:=hi6.cell;have st7:KD c7:=hi6.wU;have k2:∀b:Key,b.toNat<nx.toNat→o6≠some b→ag b h2=ag b h:=fun b hb ho=>by rw[hf6 b ho];exact e1.g b hb
 have GS2:Gr 1 cS cs cs.length h2 nx.succ oS:=B.G.cv (by omega) fun b hb=>k2 b (B.G.lt b hb) (fun e=>h6S b e hb);obtain⟨c8,h3,dZ,o8,ha,G8,F8⟩:=GS2.add (new:=[c7]) (m:=1) (by decide) (by decide) (by decide) (fun y hy=>(B.wU y hy).1) rfl (by omega) (by simp[k7.1]);have n3:=F8.n;have k8:=G8.cell;have l4:=A.lt.1;have lr:=A.R.brn;have lm:=A.R.bmn;have k3:∀b:Key,b.toNat<nx.toNat→oS≠some b→o6≠some b→ag b h3=ag b h:=fun b hb h1 h2=>by rw[F8.g b (by omega) h1,k2 b hb h2]
 have v43:ag b4 h3=QZ [.ptr br 0]:=by rw[k3 b4 l4 (fun e=>(B.ap b4 e).2.2.1 rfl) (fun e=>(A.o6 b4 e).2.2.1 rfl)];exact A.v4
 have br3:ag br h3=QZ [cC,cS,.map bm]:=by rw[k3 br lr (fun e=>(B.ap br e).1 rfl) (fun e=>(A.o6 br e).1 rfl)];exact A.R.BO
 have pq:AV.beq (.ptr br 0) (.ptr br 0)=true:=beq_refl _ rfl;simp[-appendTo,iB,g4,g6,A.v4,A.v6,A.R.BO,k6.1,k6.2,Yl,ha,v43,br3,k8.1,k8.2];refine⟨pq,?_⟩;have o8n:∀b:Key,o8=some b→oS=some b∨nx.toNat≤b.toNat:=fun b hb=>by
  rcases F8.o with e|⟨y,e,hy⟩
  ·rw[e]at hb;exact .inl hb
  ·rw[e]at hb;cases hb;exact .inr (by omega)
 have o8b:∀b:Key,o8=some b→b≠br∧b≠bm∧b≠b4∧oC≠some b∧(∀e∈E,e.o≠some b)∧n0.toNat≤b.toNat:=fun b hb=>by
  rcases o8n b hb with h1|h1
  ·exact B.ap b h1
  ·exact⟨fun e=>by rw[e]at h1;omega,fun e=>by rw[e]at h1;omega,fun e=>by rw[e]at h1;omega,fun e=>by have:=A.R.olt (.inl e);omega,fun e he ho=>by have:=A.R.olt (.inr ⟨e,he,ho⟩);omega,by omega⟩
 have k4:∀b:Key,b.toNat<nx.toNat→b≠br→oS≠some b→o6≠some b→ag b (aw br (QZ [cC,c8,.map bm]) h3)=ag b h:=fun b hb h0 h1 h2=>by rw[aP _ _ _ _ h0,k3 b hb h1 h2]
 have ow:∀b,(oC=some b∨∃e∈E,e.o=some b)→ag b (aw br (QZ [cC,c8,.map bm]) h3)=ag b h:=fun b hb=>by
  refine k4 b (A.R.olt hb) (A.R.ow b hb).1 (fun e=>?_) (fun e=>(A.ap b hb).2.2 e);have h1:=B.ap b e;rcases hb with hb|⟨y,hy,hb⟩
  ·exact h1.2.2.2.1 hb
  ·exact h1.2.2.2.2.1 y hy hb
 refine hQ _ _ _ c8 o8 c7 hi6 ⟨by simp,?_,by omega,by omega,A.R.C.cv (by omega) fun b hb=>ow b (.inl hb),fun e he=>(A.R.B e he).cv (by omega) fun b hb=>ow b (.inr ⟨e,he,hb⟩),A.R.nd,A.R.cov,A.R.ai9,A.R.sep,A.R.ow,k8,A.R.bb⟩ ⟨?_,?_,o8b⟩ (by omega) k4 o8n ?_
 ·rw[k4 bm lm (Ne.symm A.R.bb.1) (fun e=>(B.ap bm e).2.1 rfl) (fun e=>(A.o6 bm e).2.1 rfl)];exact A.R.map
 ·have:=G8.cv (h':=aw br (QZ [cC,c8,.map bm]) h3) (fE _) fun b hb=>aP _ _ _ _ (o8b b hb).1;simpa using this
 ·intro y hy;rcases List.mem_append.1 hy with hy|hy
  ·exact B.wU y hy
  ·simp at hy;subst hy;exact⟨st7,k7.1⟩
 ·rintro k (rfl|rfl|rfl|rfl|rfl)<;>simp
end Ln
namespace Ln
open Go.Sx Go
def AtH(bj b4 r2 r3 b:Key):Prop:=b=bj∨b=b4∨b=r2∨b=r3
structure ExA(X:Kn)(mi:Nat)(os:List Op)(cO:AV)(c0:Cf St)(bj b4 r2 r3 br bm n0:Key)(h0:T ah)(i:Nat)(l:List (Cf St))(cC cS:AV)(oC oS:Option Key)(E:List Bk)(cs:List AV)(ds:List Key)(tm:T AV)(h:T ah)(nx:Key):Prop where
 g0:ag (K 0) tm=some (.ptr bj 0)
 g2:ag (K 2) tm=some (.ptr r2 0)
 g3:ag (K 3) tm=some (.ptr r3 0)
 g4:ag (K 4) tm=some (.ptr b4 0)
 g5:ag (K 5) tm=some (I (i:Int))
 R:Vg n0 l br bm cC cS oC E h nx
 B:Srw l br bm b4 n0 cS oC oS E cs h nx
 csl:cs.length=i
 row:∀q (hq:q<cs.length),∃c,l[q]?=some c∧nW 2 eT cs[q] (rowOf (aY X mi os) l c)
 v4:ag b4 h=QZ [.ptr br 0]
 vj:ag bj h=QZ (jB X mi cO (bJ mi) (im os os.length))
 w2:∃u,ag r2 h=QZ [u]
 w3:∃u,ag r3 h=QZ [u]
 lt:bj.toNat<nx.toNat∧b4.toNat<nx.toNat∧r2.toNat<nx.toNat∧r3.toNat<nx.toNat
 sep:∀b,AtH bj b4 r2 r3 b→b≠br∧b≠bm∧oC≠some b∧(∀e∈E,e.o≠some b)∧oS≠some b
 r23:r2≠r3
 ge:n0.toNat≤b4.toNat∧n0.toNat≤r2.toNat∧n0.toNat≤r3.toNat
 kp:Kept (aY X mi os) i l
 fst:l[0]?=some c0
 bf:ZD (aY X mi os) (1025-i) i l=ZD (aY X mi os) 1025 0 [c0]
 ok:∀x∈l,jL mi x.2
 il:i≤l.length
 d:lX n0 ds h nx
 e:Ext h0 n0 h nx
def ExI(X:Kn)(mi:Nat)(os:List Op)(cO:AV)(c0:Cf St)(bj b4 r2 r3 br bm n0:Key)(h0:T ah)(m:Nat)(ds:List Key)(tm:T AV)(h:T ah)(nx:Key):Prop:=∃(i:Nat) (l:List (Cf St)) (cC cS:AV) (oC oS:Option Key) (E:List Bk) (cs:List AV),m=1024-i∧ExA X mi os cO c0 bj b4 r2 r3 br bm n0 h0 i l cC cS oC oS E cs ds tm h nx
variable{C:bP}{X:Kn}(S:Std C X)(H:O0 C)
include S H
theorem asz{mi:Nat}(hi:mi<3){os:List Op}(BK:yx mi os=0)(wK:∀o∈os,before o o=false)(ho:os.length≤16){cO:AV}(hcO:nW 10 eO cO os){c0:Cf St}{bj b4 r2 r3 br bm n0:Key}{h0:T ah}{Q:qo}{m:Nat}{ds:List Key}{tm:T AV}{h1:T ah}{bw:Key}(A:ExI X mi os cO c0 bj b4 r2 r3 br bm n0 h0 m ds tm h1 bw)
  (zm:∀ds aD h' nx',ag (K 2) aD=some (.ptr r2 0)→ag (K 3) aD=some (.ptr r3 0)→ag r2 h'=QZ [.nilp]→ag r3 h'=QZ [I 4]→ZD (aY X mi os) 1025 0 [c0]=none→lX n0 ds h' nx'→Ext h0 n0 h' nx'→Q .ret ds aD h' nx')
  (gJ:∀ds aD h' nx' l cC cS oC oS E cs,ExA X mi os cO c0 bj b4 r2 r3 br bm n0 h0 l.length l cC cS oC oS E cs ds aD h' nx'→ZD (aY X mi os) 1025 0 [c0]=some l→Q .norm ds aD h' nx') :
  V C (.loop jh) (xh 0 Q) ds tm h1 bw:=by
 have rS:=S.r fD;have hSo:=Ra X mi os;refine V.fh (ExI X mi os cO c0 bj b4 r2 r3 br bm n0 h0) A ?_;rintro m ds dc h nx ⟨i,l,cC,cS,oC,oS,E,cs,rfl,A⟩;have hR:=A.R.C.rd;have hl:=A.kp.len;have nE:=A.e.n;have s1:=kTSu nx;refine uV ?_;simp[jh];by_cases RJ:i<l.length
 ·have hii:(i:Int)<l.length:=by omega
  have hci:l[i]?=some l[i]:=pY RJ;have Kw:=LA RJ;simp[↓hR.ln,jg,A.g4,A.g5,A.v4,A.R.BO,hii];simp[oV];have e1:=E0 h nx (.cells [.nils] .fix);have v6:ag nx (aw nx (QZ [.nils]) h)=QZ [.nils]:=by simp
  generalize aw nx (QZ [.nils]) h=h2 at *;have R2:=A.R.ext e1;have hR2:=R2.C.rd;have v42:ag b4 h2=QZ [.ptr br 0]:=by rw[e1.g b4 A.lt.2.1];exact A.v4
  simp[↓hR2.ix xU RJ,oW,A.g0,A.g4,A.g5,v42,R2.BO,rS,S7];refine(ajz S).mono ?_;rintro o h3 dZ ⟨rfl,b23,b33,rfl,e3⟩;have s3:=kTSu nx.succ;have s4:=kTSu nx.succ.succ;have e13:=e1.trans e3;have dz:∀b:Key,b.toNat<nx.toNat→ag b h3=ag b h:=fun b hb=>e13.g b hb;have R3:=A.R.ext e13;have v63:ag nx h3=QZ [.nils]:=by rw[e3.g nx (by omega)];exact v6
  obtain⟨u2,w2⟩:=A.w2;obtain⟨u3,w3⟩:=A.w3;have hnx:∀b:Key,b.toNat<nx.toNat→b≠nx:=fun b hb e=>by rw[e]at hb;omega
  have l4:=A.lt.2.1;have s4':=A.sep b4 (.inr (.inl rfl));have EX:Exp n0 l [] br bm b4 nx cC cS .nils oC none E h3 nx.succ.succ.succ:=by
   refine⟨R3,by rw[dz b4 l4];exact A.v4,v63,Gr.nil _ _ _,by omega,⟨s4'.1,s4'.2.1,hnx b4 l4,fun e=>hnx br A.R.brn e.symm,fun e=>hnx bm A.R.bmn e.symm⟩,?_,by simp,by have:=A.ge;omega⟩;intro b hb;have FL:=A.R.olt hb;refine⟨fun e=>?_,hnx b FL,by simp⟩;subst e;rcases hb with hb|⟨y,hy,hb⟩
   ·exact s4'.2.2.1 hb
   ·exact s4'.2.2.2.1 y hy hb
  have notM:∀b:Key,b.toNat<nx.toNat→b≠br→b≠bm→oC≠some b→(∀e∈E,e.o≠some b)→¬j8 br bm nx oC none E b:=fun b hb h1 h2 h3 h4 hm=>by
   rcases hm with hm|hm|hm|hm|⟨y,hy,hm⟩|hm
   ·exact h1 hm
   ·exact h2 hm
   ·exact hnx b hb hm
   ·exact h3 hm
   ·exact h4 y hy hm
   ·cases hm
  have ltA:=A.lt;have apr:∀b,AtH bj b4 r2 r3 b→b.toNat<nx.toNat→¬j8 br bm nx oC none E b:=fun b hb hn=>by have h1:=A.sep b hb;exact notM b hn h1.1 h1.2.1 h1.2.2.1 h1.2.2.2.1
  have aDi:∀b:Key,nx.toNat<b.toNat→¬j8 br bm nx oC none E b:=fun b hb hm=>by
   rcases hm with hm|hm|hm|hm|⟨y,hy,hm⟩|hm
   ·have:=A.R.brn;rw[hm]at hb;omega
   ·have:=A.R.bmn;rw[hm]at hb;omega
   ·rw[hm]at hb;omega
   ·have:=A.R.olt (.inl hm);omega
   ·have:=A.R.olt (.inr ⟨y,hy,hm⟩);omega
   ·cases hm
  have hgm:∀b,(b=bj∨b=nx.succ∨b=nx.succ.succ∨b=r2∨b=r3)→¬j8 br bm nx oC none E b:=fun b hb=>by
   rcases hb with rfl|rfl|rfl|rfl|rfl
   ·exact apr _ (.inl rfl) ltA.1
   ·exact aDi _ (by omega)
   ·exact aDi _ (by omega)
   ·exact apr _ (.inr (.inr (.inl rfl))) ltA.2.2.1
   ·exact apr _ (.inr (.inr (.inr rfl))) ltA.2.2.2
  have Gg:=A.bf;rw[show 1025-i=(1024-i)+1 by omega,aps hci]at Gg;have D3:=A.d.ext e13;simp;refine aoQ S H hi BK wK ho hcO hl A.kp.nodup A.ok Kw (A.kp.lt _ Kw) (b2:=nx.succ) (b3:=nx.succ.succ) (r2:=r2) (r3:=r3) (bj:=bj) EX (by omega) (by rw[dz bj ltA.1];exact A.vj) b23 b33 (by rw[dz r2 ltA.2.2.1];exact w2) (by rw[dz r3 ltA.2.2.2];exact w3) (by omega) hgm A.r23 A.ge.2 D3 ?_ ?_ ?_ ?_ ?_ ?_ ?_
  ·simp
  ·simp[A.g2]
  ·simp[A.g3]
  ·simp[A.g4]
  ·simp
  ·intro d Ce h' nx' hds DN q2 q3 D' fr hn;rw[DN]at Gg;simp;exact zm _ _ _ _ (by simp[A.g2]) (by simp[A.g3]) q2 q3 Gg.symm D' ⟨by omega,fun b hb=>by rw[fr b hb,dz b (by omega)];exact A.e.g b hb⟩
  ·intro d Ce h' nx' l' cC' c6' MA o6' E' hds DN A' how D' fr hn;rw[DN]at Gg;have aLk:ZD (aY X mi os) (1024-i) (i+1) l'=ZD (aY X mi os) 1025 0 [c0]:=Gg;have hsp:=qd DN;obtain⟨t,et⟩:=hsp.1;have oSn:∀b:Key,oS=some b→b.toNat<nx.toNat:=fun b hb=>A.B.G.lt b hb;have oSM:∀b:Key,oS=some b→¬j8 br bm nx oC none E b:=fun b hb=>by have h1:=A.B.ap b hb;exact notM b (oSn b hb) h1.1 h1.2.1 h1.2.2.2.1 h1.2.2.2.2.1
   have ays:∀b:Key,oS=some b→¬j8 br bm nx MA o6' E' b:=fun b hb hm=>by
    rcases how b hm with h1|h1
    ·exact oSM b hb h1
    ·have:=oSn b hb;omega
   have I6:∀b:Key,b.toNat<nx.toNat→¬j8 br bm nx oC none E b→ag b h'=ag b h:=fun b hb hm=>by rw[fr b (by omega) hm,dz b hb]
   have B':Srw l' br bm b4 n0 cS MA oS E' cs h' nx':=by refine⟨A.B.G.cv (by omega) fun b hb=>I6 b (oSn b hb) (oSM b hb),A.B.wU,fun b hb=>?_⟩;have h1:=A.B.ap b hb;exact⟨h1.1,h1.2.1,h1.2.2.1,fun e=>ays b hb (.inr (.inr (.inr (.inl e)))),fun e he ho=>ays b hb (.inr (.inr (.inr (.inr (.inl ⟨e,he,ho⟩))))),h1.2.2.2.2.2⟩
   have amu:=A.csl;simp;refine ayt (C:=C) (by omega) A' B' (by omega) (fun b hb e=>ays b e (.inr (.inr (.inr (.inr (.inr hb)))))) (by simp[A.g4]) (by simp) (fun tm2 h5 Z8 cS2 oS2 c62 N7 R5 B5 hn5 k5 hoS hk=>?_);have p0:=hk (K 0) (.inl rfl);have p2:=hk (K 2) (.inr (.inl rfl));have p3:=hk (K 3) (.inr (.inr (.inl rfl)));have p4:=hk (K 4) (.inr (.inr (.inr (.inl rfl))));have p5:=hk (K 5) (.inr (.inr (.inr (.inr rfl))));simp[A.g0]at p0;simp[A.g2]at p2;simp[A.g3]at p3;simp[A.g4]at p4;simp[A.g5]at p5;have aDj:∀b:Key,AtH bj b4 r2 r3 b→b.toNat<nx.toNat→¬j8 br bm nx MA o6' E' b:=fun b hb hn' hm=>by
    rcases how b hm with h1|h1
    ·exact apr b hb hn' h1
    ·omega
   have at5:∀b:Key,AtH bj b4 r2 r3 b→b.toNat<nx.toNat→ag b h5=ag b h:=fun b hb hn'=>by have hm:=aDj b hb hn';have h1:=A.sep b hb;rw[k5 b (by omega) h1.1 h1.2.2.2.2 (fun e=>hm (.inr (.inr (.inr (.inr (.inr e)))))),I6 b hn' (apr b hb hn')]
   simp;simp[ny,p5];rw[aO (by omega) (by omega)];have aLm:i+1≤l'.length:=by rw[et,DG];omega
   refine⟨1024-(i+1),by omega,i+1,l',cC',cS2,MA,oS2,E',cs ++ [c62],rfl,?_⟩;refine⟨by simp[p0],by simp[p2],by simp[p3],by simp[p4],by simp,R5,B5,by simp[amu],?_,by rw[at5 b4 (.inr (.inl rfl)) ltA.2.1];exact A.v4,by rw[at5 bj (.inl rfl) ltA.1];exact A.vj,⟨u2,by rw[at5 r2 (.inr (.inr (.inl rfl))) ltA.2.2.1];exact w2⟩,⟨u3,by rw[at5 r3 (.inr (.inr (.inr rfl))) ltA.2.2.2];exact w3⟩,by omega,?_,A.r23,A.ge,A.kp.next hSo hci DN,by rw[et,List.getElem?_append_left (by omega)];exact A.fst,?_,?_,aLm,?_,?_⟩
   ·intro q hq;by_cases hqc:q<cs.length
    ·obtain⟨c,h1,h2⟩:=A.row q hqc;have SZ:∀x∈(aY X mi os).steps c,x.2∈l:=A.kp.done q c (by omega) h1;refine⟨c,by rw[et,List.getElem?_append_left (by omega)];exact h1,?_⟩;rw[List.getElem_append_left hqc,et,akF SZ];exact h2
    ·have hqe:q=cs.length:=by simp at hq;omega
     subst hqe;refine⟨l[i],by rw[et,amu,List.getElem?_append_left RJ];exact hci,?_⟩;rw[List.getElem_append_right (fE _)];simpa using N7
   ·intro b hb;have FL:b.toNat<nx.toNat:=by rcases hb with rfl|rfl|rfl|rfl<;>omega
    have h1:=A.sep b hb;have hm:=aDj b hb FL;refine⟨h1.1,h1.2.1,fun e=>hm (.inr (.inr (.inr (.inl e)))),fun e he ho=>hm (.inr (.inr (.inr (.inr (.inl ⟨e,he,ho⟩))))),fun e=>?_⟩;rcases hoS b e with h2|h2
    ·exact h1.2.2.2.2 h2
    ·omega
   ·rw[show 1025-(i+1)=1024-i by omega];exact aLk
   ·intro y hy;rcases hsp.2.2.2.2 y hy with h1|h1
    ·exact A.ok y h1
    ·obtain⟨z,hz,rfl⟩:=NI.1 h1;exact Wn S hi BK (A.ok _ Kw) z hz
   ·refine D'.cv (by omega) fun b hb hg=>?_;rw[k5 b hb (by rintro rfl;rw[A'.R.BO]at hg;cases hg) (fun e=>by rcases B'.G.ct e with⟨_,_,h1⟩|h1<;>rw[hg]at h1<;>cases h1) (fun e=>by rcases A'.G6.ct e with⟨_,_,h1⟩|h1<;>rw[hg]at h1<;>cases h1)];exact hg
   ·refine⟨by omega,fun b hb=>?_⟩;have hbM:¬j8 br bm nx oC none E b:=fun hm=>by have:=EX.ge' hm;omega
    rw[k5 b (by omega) (fun e=>by have:=A.R.bb.2.1;rw[←e]at this;omega) (fun e=>by have:=(A.B.ap b e).2.2.2.2.2;omega) (fun e=>by have:=(A'.o6 b e).2.2.2.2;omega),I6 b (by omega) hbM];exact A.e.g b hb
 ·have Qu:i=l.length:=by have:=A.il;omega
  subst Qu;have Gg:=A.bf;rw[as5 (by omega)]at Gg;simp[↓hR.ln,jg,A.g4,A.g5,A.v4,A.R.BO];refine gJ _ _ _ _ l cC cS oC oS E cs {A with g0:=?_,g2:=?_,g3:=?_,g4:=?_,g5:=?_} Gg.symm
  ·simp[A.g0]
  ·simp[A.g2]
  ·simp[A.g3]
  ·simp[A.g4]
  ·simp[A.g5]
end Ln
namespace Ln
open Go.Sx Go
structure ExG(X:Kn)(mi:Nat)(os:List Op)(n0:Key)(l:List (Cf St))(br:Key)(cC cS:AV)(cs:List AV)(h:T ah)(nx:Key):Prop where
 R:∃bm oC E,Vg n0 l br bm cC cS oC E h nx
 B:∃oS,Gr 1 cS cs cs.length h nx oS
 wU:∀y∈cs,KD y∧y.aM=true
 csl:cs.length=l.length
 row:∀q (hq:q<cs.length),∃c,l[q]?=some c∧nW 2 eT cs[q] (rowOf (aY X mi os) l c)
def ExR(X:Kn)(mi:Nat)(os:List Op)(c0:Cf St)(h:T ah)(nx:Key)(o:Out)(h':T ah)(nx':Key):Prop:=Ext h nx h' nx'∧
 ((ZD (aY X mi os) 1025 0 [c0]=none∧o=.ret (.tuple [.nilp,I 4]))∨
  ∃l br cC cS cs,ZD (aY X mi os) 1025 0 [c0]=some l∧o=.ret (.tuple [.ptr br 0,I 0])∧Kept (aY X mi os) l.length l∧l[0]?=some c0∧(∀x∈l,jL mi x.2)∧ExG X mi os nx l br cC cS cs h' nx')
theorem aoM{r2 r3 n0:Key}{v2 v3:AV}{ds:List Key}{tm:T AV}{h:T ah}{nx':Key}{R:Out→T ah→Key→Prop}(g2:ag (K 2) tm=some (.ptr r2 0))(g3:ag (K 3) tm=some (.ptr r3 0))(w2:ag r2 h=QZ [v2])(w3:ag r3 h=QZ [v3])(z2:∀H,aS 9999 v2 H=(v2,H))(z3:∀H,aS 9999 v3 H=(v3,H))(D:lX n0 ds h nx')(hR:∀h2:T ah,(∀b,b∉ds→ag b h2=ag b h)→R (.ret (.tuple [v2,v3])) h2 nx') :
  aoN [.cell (K 2) false 1,.cell (K 3) false 1] R .ret ds tm h nx':=by
 refine⟨D.nodup,D.get,fun h2 h3=>?_⟩;have n2:r2∉ds:=fun hm=>by have:=D.get r2 hm;rw[w2]at this;cases this
 have n3:r3∉ds:=fun hm=>by have:=D.get r3 hm;rw[w3]at this;cases this
 have b2:ag r2 h2=QZ [v2]:=by rw[h3 r2 n2];exact w2
 have b3:ag r3 h2=QZ [v3]:=by rw[h3 r3 n3];exact w3
 have hz:bA (aS 9999) [v2,v3] h2=([v2,v3],h2):=by simp only[bA,z2,z3]
 refine⟨[v2,v3],by simp[g2,g3,b2,b3],?_⟩;rw[hz];exact hR h2 h3
theorem aCt{n0:Key}{ds:List Key}{h:T ah}{nx b:Key}(D:lX n0 ds h nx)(hb:(∃l k,ag b h=some (.cells l k))∨ag b h=some .tok∨∃l,ag b h=some (.map l)):b∉ds:=fun hm=>by have:=D.get b hm;rcases hb with⟨_,_,e⟩|e|⟨_,e⟩<;>rw[this]at e<;>cases e
variable{C:bP}{X:Kn}(S:Std C X)(H:O0 C)
include S H
theorem aer{mi:Nat}(hi:mi<3){os:List Op}(BK:yx mi os=0)(wK:∀o∈os,before o o=false)(ho:os.length≤16){cO:AV}(hcO:nW 10 eO cO os){h:T ah}{nx bj:Key}(vj:ag bj h=QZ (jB X mi cO (bJ mi) (im os os.length)))(bjn:bj.toNat<nx.toNat) :
  aJ C dV [.ptr bj 0] h nx (ExR X mi os (0,bJ mi) h nx):=by
 have rA:=S.r di;have s1:=kTSu nx;have s2:=kTSu nx.succ;have s3:=kTSu nx.succ.succ;have s4:=kTSu nx.succ.succ.succ;have s5:=kTSu nx.succ.succ.succ.succ;refine S.qq.callV ?_;simp[kU];simp[oD];simp[oG]
 try simp only[show(AV.int IntKind.i64 (SI.lit 0))=I 0 from rfl]
 obtain⟨br,hbr⟩:∃br,br=nx.succ.succ.succ:=⟨_,rfl⟩;obtain⟨b4,hb4⟩:∃b4,b4=nx.succ.succ.succ.succ:=⟨_,rfl⟩;obtain⟨bm,hbm⟩:∃bm,bm=nx.succ.succ:=⟨_,rfl⟩;obtain⟨r3,hr3⟩:∃r3,r3=nx.succ:=⟨_,rfl⟩;have e1:=((((E0 h nx (.cells [.nilp] .fix)).trans (E0 _ nx.succ (.cells [I 0] .fix))).trans (E0 _ nx.succ.succ (.map []))).trans (E0 _ nx.succ.succ.succ (.cells [.nils,.nils,.map nx.succ.succ] .fix))).trans (E0 _ nx.succ.succ.succ.succ (.cells [.ptr nx.succ.succ.succ 0] .fix));have q4:ag b4 (aw nx.succ.succ.succ.succ (QZ [.ptr nx.succ.succ.succ 0]) (aw nx.succ.succ.succ (QZ [.nils,.nils,.map nx.succ.succ]) (aw nx.succ.succ (some (.map [])) (aw nx.succ (QZ [I 0]) (aw nx (QZ [.nilp]) h)))))=QZ [.ptr br 0]:=by rw[hb4,hbr];simp
 have qr:ag br (aw nx.succ.succ.succ.succ (QZ [.ptr nx.succ.succ.succ 0]) (aw nx.succ.succ.succ (QZ [.nils,.nils,.map nx.succ.succ]) (aw nx.succ.succ (some (.map [])) (aw nx.succ (QZ [I 0]) (aw nx (QZ [.nilp]) h)))))=QZ [.nils,.nils,.map bm]:=by rw[hbr,hbm,aA (by omega)];simp
 have qm:ag bm (aw nx.succ.succ.succ.succ (QZ [.ptr nx.succ.succ.succ 0]) (aw nx.succ.succ.succ (QZ [.nils,.nils,.map nx.succ.succ]) (aw nx.succ.succ (some (.map [])) (aw nx.succ (QZ [I 0]) (aw nx (QZ [.nilp]) h)))))=some (.map []):=by rw[hbm,aA (by omega),aA (by omega)];simp
 have q3:ag r3 (aw nx.succ.succ.succ.succ (QZ [.ptr nx.succ.succ.succ 0]) (aw nx.succ.succ.succ (QZ [.nils,.nils,.map nx.succ.succ]) (aw nx.succ.succ (some (.map [])) (aw nx.succ (QZ [I 0]) (aw nx (QZ [.nilp]) h)))))=QZ [I 0]:=by rw[hr3,aA (by omega),aA (by omega),aA (by omega)];simp
 have q2:ag nx (aw nx.succ.succ.succ.succ (QZ [.ptr nx.succ.succ.succ 0]) (aw nx.succ.succ.succ (QZ [.nils,.nils,.map nx.succ.succ]) (aw nx.succ.succ (some (.map [])) (aw nx.succ (QZ [I 0]) (aw nx (QZ [.nilp]) h)))))=QZ [.nilp]:=by rw[aA (by omega),aA (by omega),aA (by omega),aA (by omega)];simp
 have n4:b4.toNat=nx.toNat+4:=by rw[hb4];omega
 have nr:br.toNat=nx.toNat+3:=by rw[hbr];omega
 have nm:bm.toNat=nx.toNat+2:=by rw[hbm];omega
 have n3:r3.toNat=nx.toNat+1:=by rw[hr3];omega
 rw[←hb4,←hr3]at *;generalize aw b4 _ _=h1 at *;have s6:=kTSu b4;have vj1:ag bj h1=QZ (jB X mi cO (bJ mi) (im os os.length)):=by rw[e1.g bj bjn];exact vj
 have hj5:List.take 5 (List.drop 5 (jB X mi cO (bJ mi) (im os os.length)))=eC (0,bJ mi):=rfl;have da:(jB X mi cO (bJ mi) (im os os.length)).length=11:=rfl;have aKn:(bJ mi).kids.length≤3:=aab (YR hi);have R1:Vg nx [] br bm .nils .nils none [] h1 b4.succ:=by refine⟨qr,qm,by omega,by omega,Gr.nil _ _ _,by simp,by simp,by simp,by simp,by simp,by simp,⟨rfl,rfl⟩,⟨fun e=>by rw[e]at nr;omega,by omega,by omega⟩⟩
 simp[oH,q4,vj1,hj5,da,rA,S7];refine(amg S H (l:=[]) (by simp) (by simp) (x:=(0,bJ mi)) aKn (by omega) R1).mono ?_;rintro o h2 bu ⟨⟨j,cC,oC,E,hj,rfl,R2,how⟩,n2,k2⟩;have DN:fu ([]:List (Cf St)) (0,bJ mi)=[(0,bJ mi)]:=rfl;rw[DN]at R2;simp;simp[oU];have k2':∀b:Key,b.toNat<b4.succ.toNat→b≠br→b≠bm→ag b h2=ag b h1:=fun b hb h1 h2=>k2 b hb h1 h2 (by simp) (by simp);have own:∀b,(oC=some b∨∃e∈E,e.o=some b)→b4.succ.toNat≤b.toNat:=fun b hb=>by
  rcases how b hb with(h1|⟨e,he,_⟩)|h1
  ·cases h1
  ·simp at he
  ·exact h1
 have ne:∀b:Key,b.toNat≠nx.toNat+3→b.toNat≠nx.toNat+2→b≠br∧b≠bm:=fun b h1 h2=>⟨fun e=>h1 (by rw[e];exact nr),fun e=>h2 (by rw[e];exact nm)⟩;have A0:ExA X mi os cO (0,bJ mi) bj b4 nx r3 br bm nx h 0 [(0,bJ mi)] cC .nils oC none E [] [] (aw (K 5) (some (I 0)) (aw (K 17) (some (I j)) (aw (K 4) (some (.ptr b4 0)) (aw (K 3) (some (.ptr r3 0)) (aw (K 2) (some (.ptr nx 0)) (aw (K 0) (some (.ptr bj 0)) .nil)))))) h2 bu:=by
  refine⟨by simp,by simp,by simp,by simp,by simp,R2,⟨Gr.nil _ _ _,by simp,by simp⟩,rfl,by simp,?_,?_,⟨.nilp,?_⟩,⟨I 0,?_⟩,by omega,?_,fun e=>by rw[←e]at n3;omega,by omega,Kept.start (by omega),rfl,rfl,?_,by simp,lX.nil _ _ _,?_⟩
  ·have h1:=ne b4 (by omega) (by omega);rw[k2' b4 (by omega) h1.1 h1.2];exact q4
  ·have h1:=ne bj (by omega) (by omega);rw[k2' bj (by omega) h1.1 h1.2];exact vj1
  ·have h1:=ne nx (by omega) (by omega);rw[k2' nx (by omega) h1.1 h1.2];exact q2
  ·have h1:=ne r3 (by omega) (by omega);rw[k2' r3 (by omega) h1.1 h1.2];exact q3
  ·intro b hb;have FL:b.toNat<b4.succ.toNat∧b.toNat≠nx.toNat+3∧b.toNat≠nx.toNat+2:=by rcases hb with rfl|rfl|rfl|rfl<;>omega
   have h1:=ne b FL.2.1 FL.2.2;refine⟨h1.1,h1.2,fun e=>by have:=own b (.inl e);omega,fun e he ho=>by have:=own b (.inr ⟨e,he,ho⟩);omega,by simp⟩
  ·intro y hy;simp at hy;subst hy;exact YR hi
  ·refine⟨by omega,fun b hb=>?_⟩;have h1:=ne b (by omega) (by omega);rw[k2' b (by omega) h1.1 h1.2];exact e1.g b hb
 refine asz S H hi BK wK ho hcO (c0:=(0,bJ mi)) (bj:=bj) (b4:=b4) (r2:=nx) (r3:=r3) (br:=br) (bm:=bm) (n0:=nx) (h0:=h) (m:=1024) ⟨0,[(0,bJ mi)],cC,.nils,oC,none,E,[],rfl,{A0 with g0:=?_,g2:=?_,g3:=?_,g4:=?_,g5:=?_}⟩ ?_ ?_
 ·simp
 ·simp
 ·simp
 ·simp
 ·simp
 ·intro ds aD h' nx' g2 g3 w2 w3 hb D e;refine aoM g2 g3 w2 w3 (fun _=>rfl) (fun _=>rfl) D fun h2 h3=>?_;refine⟨⟨e.n,fun b FL=>?_⟩,.inl ⟨hb,rfl⟩⟩;rw[h3 b (fun hm=>by have:=D.ge b hm;omega)];exact e.g b FL
 ·intro ds aD h' nx' l cC cS oC oS E cs A hb;obtain⟨u2,w2⟩:=A.w2;obtain⟨u3,w3⟩:=A.w3;have r23:=A.r23;have w33:∀B,ag r3 (aw nx B h')=QZ [u3]:=fun B=>by rw[aP _ _ _ _ (Ne.symm r23)];exact w3
  simp;simp[nu,A.g2,A.g3,A.g4,A.v4,w2,w33];have k5:∀b:Key,b≠nx→b≠r3→ag b (aw r3 (QZ [I 0]) (aw nx (QZ [.ptr br 0]) h'))=ag b h':=fun b h1 h2=>by rw[aP _ _ _ _ h2,aP _ _ _ _ h1]
  have z2:ag nx (aw r3 (QZ [I 0]) (aw nx (QZ [.ptr br 0]) h'))=QZ [.ptr br 0]:=by rw[aP _ _ _ _ r23];simp
  have z3:ag r3 (aw r3 (QZ [I 0]) (aw nx (QZ [.ptr br 0]) h'))=QZ [I 0]:=by simp
  have D5:lX nx ds (aw r3 (QZ [I 0]) (aw nx (QZ [.ptr br 0]) h')) nx':=A.d.cv (fE _) fun b _ hg=>by rw[k5 b (by rintro rfl;rw[w2]at hg;cases hg) (by rintro rfl;rw[w3]at hg;cases hg)];exact hg
  generalize aw r3 (QZ [I 0]) (aw nx (QZ [.ptr br 0]) h')=h5 at *;refine aoM (by simp[A.g2]) (by simp[A.g3]) z2 z3 (fun _=>rfl) (fun _=>rfl) D5 fun h2 h3=>?_;have cv:∀b:Key,((∃l k,ag b h'=some (.cells l k))∨ag b h'=some .tok∨∃l,ag b h'=some (.map l))→b≠nx→b≠r3→ag b h2=ag b h':=fun b hb h1 h4=>by have h6:=k5 b h1 h4;rw[h3 b (aCt D5 (by rw[h6];exact hb)),h6]
  have aoO:=A.sep nx (.inr (.inr (.inl rfl)));have aoP:=A.sep r3 (.inr (.inr (.inr rfl)));refine⟨⟨A.e.n,fun b FL=>?_⟩,.inr ⟨l,br,cC,cS,cs,hb,rfl,A.kp,A.fst,A.ok,⟨⟨bm,oC,E,A.R.cv (fE _) fun b hb=>?_⟩,⟨oS,A.B.G.cv (fE _) fun b hb=>?_⟩,A.B.wU,A.csl,A.row⟩⟩⟩
  ·rw[h3 b (fun hm=>by have:=D5.ge b hm;omega),k5 b (fun e=>by rw[e]at FL;omega) (fun e=>by rw[e]at FL;omega)];exact A.e.g b FL
  ·rcases hb with rfl|rfl|hb|⟨e,he,hb⟩
   ·exact cv _ (.inl ⟨_,_,A.R.BO⟩) (Ne.symm aoO.1) (Ne.symm aoP.1)
   ·exact cv _ (.inr (.inr ⟨_,A.R.map⟩)) (Ne.symm aoO.2.1) (Ne.symm aoP.2.1)
   ·refine cv b ?_ (fun e=>aoO.2.2.1 (by rw[←e];exact hb)) (fun e=>aoP.2.2.1 (by rw[←e];exact hb));rcases A.R.C.ct hb with h1|h1
    ·exact .inl h1
    ·exact .inr (.inl h1)
   ·refine cv b ?_ (fun e'=>aoO.2.2.2.1 e he (by rw[←e'];exact hb)) (fun e'=>aoP.2.2.2.1 e he (by rw[←e'];exact hb));rcases (A.R.B e he).ct hb with h1|h1
    ·exact .inl h1
    ·exact .inr (.inl h1)
  ·refine cv b ?_ (fun e=>aoO.2.2.2.2 (by rw[←e];exact hb)) (fun e=>aoP.2.2.2.2 (by rw[←e];exact hb));rcases A.B.G.ct hb with h1|h1
   ·exact .inl h1
   ·exact .inr (.inl h1)
end Ln
namespace Ln
open Go.Sx Go
def fy(l:List Bool):List AV:=l.map fun b=>.bool b
theorem Io(l:List Bool):(fy l).length=l.length:=List.length_map ..
theorem Ip{l:List Bool}{i:Nat}(h:i<l.length):(fy l)[i]?=some (.bool l[i]):=by unfold fy;rw[List.getElem?_map,pY h];rfl
theorem Wv{l:List Bool}{i:Nat}(h:i<l.length)(v:Bool):List.take i (fy l) ++ .bool v ::List.drop (i+1) (fy l)=fy (l.set i v):=by unfold fy;rw[List.map_set,List.set_eq_take_append_cons_drop,if_pos (by rw[List.length_map];exact h)]
def Jj(base:List Bool)(row:List (Nat×Nat)):Bool:=row.any fun t=>base.getD t.2 false
def GdI(row:List (Nat×Nat))(base:List Bool)(p:Nat)(v0:Bool)(c77:AV)(b14 bg:Key)(h:T ah)(nx:Key)(P:T AV→Prop)(m:Nat)(aD:T AV)(h':T ah)(nx':Key):Prop:=∃j:Nat,m=row.length-j∧j≤row.length∧P aD∧ag (K 14) aD=some (.ptr b14 0)∧ag (K 15) aD=some (I (p:Int))∧ag (K 77) aD=some c77∧ag (K 78) aD=some (I row.length)∧ag (K 79) aD=some (I j)∧ag bg h'=QZ (fy (base.set p (v0||Jj base (row.take j))))∧nx.toNat≤nx'.toNat∧∀b:Key,b.toNat<nx.toNat→b≠bg→ag b h'=ag b h
variable{C:bP}{X:Kn}(S:Std C X)(H:O0 C)
theorem avM{row:List (Nat×Nat)}{c77:AV}(N7:nW 2 eT c77 row)(hrl:row.length≤1000){base:List Bool}{p:Nat}(hp:p<base.length)(LK:base.length≤1024)(hto:∀t∈row,p<t.2∧t.2<base.length){v0:Bool}{b14 bg:Key}{h:T ah}{nx:Key}(v14:ag b14 h=QZ [.slice bg 0 base.length 1])(aeb:b14.toNat<nx.toNat)(bgn:bg.toNat<nx.toNat)(bne:b14≠bg){P:T AV→Prop}(hP:∀tm k v,P tm→(k=K 17∨k=K 79∨(80≤k.toNat∧k.toNat≤97))→P (aw k v tm)){Q:cH}{m:Nat}{tm:T AV}{h1:T ah}{bw:Key}(A:GdI row base p v0 c77 b14 bg h nx P m tm h1 bw)
  (gJ:∀aD h' nx',P aD→ag (K 15) aD=some (I (p:Int))→ag (K 14) aD=some (.ptr b14 0)→ag bg h'=QZ (fy (base.set p (v0||Jj base row)))→nx.toNat≤nx'.toNat→(∀b:Key,b.toNat<nx.toNat→b≠bg→ag b h'=ag b h)→Q .norm aD h' nx') :
  W C (.loop zl) (aG 2 Q) tm h1 bw:=by
 refine W.fh (GdI row base p v0 c77 b14 bg h nx P) A ?_;rintro m dc h2 bu ⟨j,rfl,hj,hPt,g14,g15,g77,g78,g79,vg,hn,hf⟩;refine W.of ?_;simp[zl];by_cases da:j<row.length
 ·have L1:(j:Int)<row.length:=by omega
  have hR:=N7.rd h2 bu;have s2:=kTSu bu;have aqO:ag b14 h2=QZ [.slice bg 0 base.length 1]:=by rw[hf b14 aeb bne];exact v14
  obtain⟨ht1,ht2⟩:=hto _ (LA da);have Nu:Jj base (row.take (j+1))=(Jj base (row.take j)||base.getD row[j].2 false):=by unfold Jj;rw[zqu da,List.any_append];simp
  have hce:(eT row[j]).all AV.aM=true:=sF.2 (hJ.cell _);have hle:(eT row[j]).length=2:=rfl;have he1:(eT row[j])[1]?=some (I (row[j].2:Int)):=rfl;simp[wV,g78,g79,L1];simp only[EA,sM,xK,xL,sN,xM,sO,xN,xO,sP,sQ,xP,xQ,xR,xS];simp[↓hR.ix hJ da,g77,g79,hce,hle];generalize row[j]=t at *;generalize hv:(v0||Jj base (row.take j))=vj at *;have e3:=E0 h2 bu (.cells (eT t) .fix);have v17:ag bu (aw bu (QZ (eT t)) h2)=QZ (eT t):=by simp
  have v143:ag b14 (aw bu (QZ (eT t)) h2)=QZ [.slice bg 0 base.length 1]:=by rw[e3.g b14 (by omega)];exact aqO
  have vg3:ag bg (aw bu (QZ (eT t)) h2)=QZ (fy (base.set p vj)):=by rw[e3.g bg (by omega)];exact vg
  have k3:∀b:Key,b.toNat<nx.toNat→b≠bg→ag b (aw bu (QZ (eT t)) h2)=ag b h:=fun b hb bW=>by rw[e3.g b (by omega)];exact hf b hb bW
  generalize aw bu (QZ (eT t)) h2=h3 at *;have ZE:(base.set p vj).length=base.length:=List.length_set;have aqP:(fy (base.set p vj)).length=base.length:=by rw[Io,ZE]
  have hgp:(fy (base.set p vj))[p]?=some (.bool vj):=by rw[Ip (by rw[ZE];exact hp)];simp
  have Pt:(fy (base.set p vj))[t.2]?=some (.bool (base.getD t.2 false)):=by rw[Ip (by rw[ZE];exact ht2),List.getElem_set_ne (by omega),List.getD_eq_getElem?_getD,pY ht2];rfl
  have aqQ:∀hh,(fy (base.set p vj))[p]'hh=.bool vj:=fun hh=>by rw[pY hh]at hgp;exact Option.some.inj hgp
  have avP:∀hh,(fy (base.set p vj))[t.2]'hh=.bool (base.getD t.2 false):=fun hh=>by rw[pY hh]at Pt;exact Option.some.inj Pt
  have SQ:=fun v=>Wv (l:=base.set p vj) (i:=p) (by rw[ZE];exact hp) v;simp only[List.set_set]at SQ;have h1p:p+1≤base.length:=hp;have fin:∀tm2:T AV,P tm2→ag (K 14) tm2=some (.ptr b14 0)→ag (K 15) tm2=some (I (p:Int))→ag (K 77) tm2=some c77→ag (K 78) tm2=some (I row.length)→ag (K 79) tm2=some (I j)→
    qy C (aW (fun tm h_1 aFT=>∃m,m<row.length-j∧GdI row base p v0 c77 b14 bg h nx P m tm h_1 aFT) (aG 2 Q)) wW tm2 (aw bg (QZ (fy (base.set p (vj||base.getD t.2 false)))) h3) bu.succ:=by
   intro tm2 hP2 q14 q15 q77 q78 q79;simp[-List.getD_eq_getElem?_getD,wW,q79];rw[aO (by omega) (by omega)];refine⟨row.length-(j+1),by omega,j+1,rfl,by omega,hP _ _ _ (hP _ _ _ hP2 (.inr (.inr ⟨by decide,by decide⟩))) (.inr (.inl rfl)),by simp[q14],by simp[q15],by simp[q77],by simp[q78],by simp,?_,by omega,fun b hb bW=>by rw[aP _ _ _ _ bW];exact k3 b hb bW⟩;rw[gTSm,Nu,←Bool.or_assoc,hv]
  cases hvj:vj with
  |true=>
   rw[hvj]at vg3 aqP aqQ avP SQ ZE fin;have hpt:=SQ true;simp only[Bool.true_or]at fin;simp[wX,g14,g15,v143,vg3,hp,aqQ,aqP,h1p,hpt];refine fin _ ?_ ?_ ?_ ?_ ?_ ?_
   ·repeat' (first|exact hPt|refine hP _ _ _ ?_ (by first|exact .inl rfl|exact .inr (.inl rfl)|exact .inr (.inr ⟨by decide,by decide⟩)))
   ·simp[g14]
   ·simp[g15]
   ·simp[g77]
   ·simp[g78]
   ·simp[g79]
  |false=>
   rw[hvj]at vg3 aqP aqQ avP SQ ZE fin;have hpt:=SQ (base.getD t.2 false);simp only[Bool.false_or]at fin;simp[-List.getD_eq_getElem?_getD,wX,g14,g15,v143,v17,vg3,hp,aqQ,avP,ht2,he1,aqP,h1p,hpt];refine fin _ ?_ ?_ ?_ ?_ ?_ ?_
   ·repeat' (first|exact hPt|refine hP _ _ _ ?_ (by first|exact .inl rfl|exact .inr (.inl rfl)|exact .inr (.inr ⟨by decide,by decide⟩)))
   ·simp[g14]
   ·simp[g15]
   ·simp[g77]
   ·simp[g78]
   ·simp[g79]
 ·have Jk:j=row.length:=by omega
  subst Jk;rw[List.take_length]at vg;simp[wV,g78,g79];refine gJ _ _ _ (hP _ _ _ hPt (.inr (.inr ⟨by decide,by decide⟩))) (by simp[g15]) (by simp[g14]) vg hn hf
end Ln
namespace Go.Sx
theorem Rd.ix1{c:AV}{cs:List AV}{h:T ah}{nx:Key}(g:Rd 1 c cs cs.length h nx){i:Nat}(hi:i<cs.length){C:bP}{Q:cH}{L:List aC}{tm:T AV}{n2 k1 k2 d1 d2:Key}(h1:ag k1 tm=some c)(h2:ag k2 tm=some (I i)) :
  qy C Q (⟨some d1,.indexL 1 (.t k1) (.t k2),none⟩ ::⟨some d2,.load false 1 (.t d1),none⟩ ::L) tm h n2=qy C Q L (aw d2 (some cs[i]) (aw d1 (some (IN 1 i c)) tm)) h n2:=by
 have tx:1≤cs.length-i:=by omega
 have hx:cs[i]?=some cs[i]:=pY hi;have hd:List.take 1 (List.drop i cs)=[cs[i]]:=by rw[zqt hi];rfl
 rcases g with⟨_,_,e⟩|⟨f,rfl⟩|⟨b,k,rfl,hb,_,_⟩
 ·omega
 ·simp[h1,h2,hi,tx,hx,hd,IN]
 ·simp[h1,h2,hi,tx,hx,hd,IN,hb]
end Go.Sx
namespace Ln
open Go.Sx Go
noncomputable def jx(S:Sys St)(l:List (Cf St))(q:Nat):Bool:=match l[q]? with|some c=>qT S c|none=>false
noncomputable def dj(S:Sys St)(l:List (Cf St))(a:Nat):List Bool:=(List.range l.length).map fun q=>decide (a≤q)&&jx S l q
theorem qf(S:Sys St)(l:List (Cf St))(a:Nat):(dj S l a).length=l.length:=by simp[dj]
theorem Oa{S:Sys St}{l:List (Cf St)}{a q:Nat}(hq:q<l.length):(dj S l a).getD q false=(decide (a≤q)&&jx S l q):=by unfold dj;rw[List.getD_eq_getElem?_getD,List.getElem?_map,List.getElem?_range hq];rfl
theorem aep(S:Sys St)(l:List (Cf St)):dj S l l.length=List.replicate l.length false:=by refine List.ext_getElem (by simp[dj]) fun q h1 h2=>?_;simp[dj]at h1 ⊢;intro hle;omega
theorem aem{S:Sys St}{l:List (Cf St)}{p:Nat}(hp:p<l.length):dj S l p=(dj S l (p+1)).set p (jx S l p):=by
 refine List.ext_getElem (by simp[dj]) fun q h1 h2=>?_;rw[List.getElem_set];by_cases e:p=q
 ·subst e;rw[if_pos rfl];simp[dj]
 ·rw[if_neg e];simp[dj];have:p≤q↔p+1≤q:=by omega
  simp[this]
theorem aaH{S:Sys St}(hS:S.Ok){l:List (Cf St)}(hk:Kept S l.length l){p:Nat}(hp:p<l.length):(∀t∈rowOf S l l[p],p<t.2∧t.2<l.length)∧(S.acc l[p].1||Jj (dj S l (p+1)) (rowOf S l l[p]))=jx S l p:=by
 have hcp:l[p]?=some l[p]:=pY hp;have yI:∀x∈S.steps l[p],x.2∈l:=hk.done p l[p] hp hcp;have hup:∀x∈S.steps l[p],p<l.idxOf x.2∧l.idxOf x.2<l.length:=fun x hx=>by obtain⟨q,c'⟩:=x;exact⟨hk.up hS hcp (Ix (yI _ hx)) hx,List.idxOf_lt_length_of_mem (yI _ hx)⟩
 refine⟨fun t ht=>?_,?_⟩
 ·obtain⟨x,hx,rfl⟩:=NI.1 ht;exact hup x hx
 ·have hgp:jx S l p=qT S l[p]:=by unfold jx;rw[hcp]
  rw[hgp,acV];congr 1;unfold Jj rowOf;rw[List.any_map];rw[Bool.eq_iff_iff,List.any_eq_true,List.any_eq_true];have key:∀x∈S.steps l[p],((fun t:Nat×Nat=>(dj S l (p+1)).getD t.2 false) ∘ fun x:Nat×Cf St=>(x.1,l.idxOf x.2)) x=qT S x.2:=fun x hx=>by
   obtain⟨h1,h2⟩:=hup x hx;show(dj S l (p+1)).getD (l.idxOf x.2) false=_;rw[Oa h2];have h3:jx S l (l.idxOf x.2)=qT S x.2:=by unfold jx;rw[Ix (yI x hx)]
   rw[h3,decide_eq_true (by omega),Bool.true_and]
  constructor
  ·rintro⟨x,hx,h⟩;exact⟨x,hx,by rw[key x hx]at h;exact h⟩
  ·rintro⟨x,hx,h⟩;exact⟨x,hx,by rw[key x hx];exact h⟩
def Kpt(wL tm:T AV):Prop:=∀k,(k=K 8∨k=K 9∨k=K 10∨k=K 11∨k=K 12∨k=K 13)→ag k tm=ag k wL
theorem Kpt.refl(tm:T AV):Kpt tm tm:=fun _ _=>rfl
theorem Kpt.set{wL tm:T AV}(h:Kpt wL tm){k:Key}{v:Option AV}(hk:14≤k.toNat):Kpt wL (aw k v tm):=fun k' Jn=>by
 have h8:(K 8).toNat=8:=by decide
 have h9:(K 9).toNat=9:=by decide
 have h10:(K 10).toNat=10:=by decide
 have h11:(K 11).toNat=11:=by decide
 have h12:(K 12).toNat=12:=by decide
 have h13:(K 13).toNat=13:=by decide
 rw[aP]
 ·exact h k' Jn
 ·rintro rfl;rcases Jn with rfl|rfl|rfl|rfl|rfl|rfl<;>omega
structure FdH(X:Kn)(mi:Nat)(os:List Op)(cO:AV)(l:List (Cf St))(bj br bm:Key)(cC cS:AV)(cs:List AV)(h:T ah)(nx:Key):Prop where
 vj:ag bj h=QZ (jB X mi cO (bJ mi) (im os os.length))
 vr:ag br h=QZ [cC,cS,.map bm]
 C:Rd 5 cC (aq eC l) l.length h nx
 S:Rd 1 cS cs cs.length h nx
 lt:bj.toNat<nx.toNat∧br.toNat<nx.toNat
 csl:cs.length=l.length
 row:∀q (hq:q<cs.length),∃c,l[q]?=some c∧nW 2 eT cs[q] (rowOf (aY X mi os) l c)
theorem FdH.ext{X:Kn}{mi:Nat}{os:List Op}{cO:AV}{l:List (Cf St)}{bj br bm:Key}{cC cS:AV}{cs:List AV}{h h':T ah}{nx nx':Key}(F:FdH X mi os cO l bj br bm cC cS cs h nx)(e:Ext h nx h' nx'):FdH X mi os cO l bj br bm cC cS cs h' nx':=
 ⟨by rw[e.g _ F.lt.1];exact F.vj,by rw[e.g _ F.lt.2];exact F.vr,F.C.ext e,F.S.ext e,by have:=F.lt;have:=e.n;omega,F.csl,F.row⟩
def GvI(X:Kn)(mi:Nat)(os:List Op)(l:List (Cf St))(bj br b14 bg:Key)(h0:T ah)(nx0:Key)(wL:T AV)(m:Nat)(aD:T AV)(h':T ah)(nx':Key):Prop:=∃a:Nat,m=a∧a≤l.length∧Kpt wL aD∧ag (K 11) aD=some (.ptr bj 0)∧ag (K 13) aD=some (.ptr br 0)∧ag (K 14) aD=some (.ptr b14 0)∧ag (K 15) aD=some (I ((a:Int)-1))∧
 ag b14 h'=QZ [.slice bg 0 l.length 1]∧ag bg h'=QZ (fy (dj (aY X mi os) l a))∧b14.toNat<nx'.toNat∧bg.toNat<nx'.toNat∧Ext h0 nx0 h' nx'
variable{C:bP}{X:Kn}(S:Std C X)(H:O0 C)
include S
theorem ajb{mi:Nat}{os:List Op}(ho:os.length≤16){cO:AV}{l:List (Cf St)}(hk:Kept (aY X mi os) l.length l){bj br bm b14 bg:Key}{cC cS:AV}{cs:List AV}{h0:T ah}{nx0:Key}(F:FdH X mi os cO l bj br bm cC cS cs h0 nx0)(ge:nx0.toNat≤b14.toNat∧nx0.toNat≤bg.toNat)(bne:b14≠bg){wL:T AV}{Q:cH}{m:Nat}{tm:T AV}{h1:T ah}{bw:Key}(A:GvI X mi os l bj br b14 bg h0 nx0 wL m tm h1 bw)
  (gJ:∀aD h' nx',Kpt wL aD→ag (K 11) aD=some (.ptr bj 0)→ag (K 13) aD=some (.ptr br 0)→ag (K 14) aD=some (.ptr b14 0)→ag b14 h'=QZ [.slice bg 0 l.length 1]→ag bg h'=QZ (fy (dj (aY X mi os) l 0))→b14.toNat<nx'.toNat→bg.toNat<nx'.toNat→Ext h0 nx0 h' nx'→Q .norm aD h' nx') :
  W C (.loop zy) (aG 0 Q) tm h1 bw:=by
 have rA:=S.r cq;have hSo:=Ra X mi os;have hl:=hk.len;refine W.fh (GvI X mi os l bj br b14 bg h0 nx0 wL) A ?_;rintro m dc h nx ⟨a,rfl,ha,hKp,g11,g13,g14,g15,v14,vg,aeb,bgn,e0⟩;refine W.of ?_;simp[zy];cases m with
 |zero=>
  have aAN:((0:Nat):Int)-1<0:=by omega
  simp at g15;simp[zz,g15];exact gJ _ _ _ ((hKp.set (by decide)).set (by decide)) (by simp[g11]) (by simp[g13]) (by simp[g14]) v14 vg aeb bgn e0
 |succ p=>
  have hp:p<l.length:=by omega
  have amh:ag (K 15) dc=some (I (p:Int)):=by
   rw[g15];have:((p+1:Nat):Int)-1=(p:Int):=by omega
   rw[this]
  have F1:=F.ext e0;obtain⟨hto,avZ⟩:=aaH hSo hk hp;have cQ:=hk.lt _ (LA hp);have hd:l[p].1<65536:=O5 cQ (zC ho);have hpc:p<cs.length:=by rw[F.csl];exact hp
  obtain⟨c,hc1,N7⟩:=F.row p hpc;have hcp:c=l[p]:=by rw[pY hp]at hc1;exact(Option.some.inj hc1).symm
  subst hcp;have hnn:¬(p:Int)<0:=by omega
  simp[zz,amh,hnn];simp[↓Rd.aAO xU F1.C hp,EE,g11,g13,g14,amh,v14,F1.vr,rA,S7];refine(ahq S ho hd F1.vj F1.lt.1).mono ?_;rintro o h2 bu ⟨rfl,e2⟩;have n2:=e2.n;have aqO:ag b14 h2=QZ [.slice bg 0 l.length 1]:=by rw[e2.g _ aeb];exact v14
  have vg2:ag bg h2=QZ (fy (dj (aY X mi os) l (p+1))):=by rw[e2.g _ bgn];exact vg
  have sq:AV.beq (.slice bg 0 l.length 1) (.slice bg 0 l.length 1)=true:=beq_refl _ rfl;have LK:(fy (dj (aY X mi os) l (p+1))).length=l.length:=by rw[Io,qf]
  have h1p:p+1≤l.length:=hp;have SQ:=Wv (l:=dj (aY X mi os) l (p+1)) (i:=p) (by rw[qf];exact hp) (FP os l[p].1);have e02:=e0.trans e2;have F2:=F.ext e02;simp[g14,amh,aqO,vg2,sq,hp,LK,h1p,SQ];have e3:Ext h0 nx0 (aw bg (QZ (fy ((dj (aY X mi os) l (p+1)).set p (FP os l[p].1)))) h2) bu:=e02.put ge.2;have v143:ag b14 (aw bg (QZ (fy ((dj (aY X mi os) l (p+1)).set p (FP os l[p].1)))) h2)=QZ [.slice bg 0 (dj (aY X mi os) l (p+1)).length 1]:=by rw[aP _ _ _ _ bne,qf];exact aqO
  have vg3:ag bg (aw bg (QZ (fy ((dj (aY X mi os) l (p+1)).set p (FP os l[p].1)))) h2)=QZ (fy ((dj (aY X mi os) l (p+1)).set p (FP os l[p].1))):=by simp
  generalize aw bg (QZ (fy ((dj (aY X mi os) l (p+1)).set p (FP os l[p].1)))) h2=h3 at *;have F3:=F.ext e3;have hR3:=N7.rd h3 bu;have ami:(rowOf (aY X mi os) l l[p]).length≤1000:=by unfold rowOf Sys.steps;rw[List.length_map];have:=List.length_filterMap_le ((aY X mi os).step l[p]) (List.range (aY X mi os).n);rw[List.length_range]at this;have hn:(aY X mi os).n=os.length:=rfl;omega
  have hg0:(dj (aY X mi os) l (p+1)).length=l.length:=qf _ _ _;simp[↓F3.S.ix1 hpc,↓hR3.ln,EF,g13,amh,F3.vr];refine avM (C:=C) N7 ami (base:=dj (aY X mi os) l (p+1)) (p:=p) (by rw[hg0];exact hp) (by rw[hg0];exact hl) (fun t ht=>by rw[hg0];exact hto t ht) (v0:=FP os l[p].1) (b14:=b14) (bg:=bg) (h:=h3) (nx:=bu) v143 (by omega) (by omega) bne (P:=fun tm=>Kpt wL tm∧ag (K 11) tm=some (.ptr bj 0)∧ag (K 13) tm=some (.ptr br 0)) ?_ (m:=(rowOf (aY X mi os) l l[p]).length) ⟨0,by simp,by omega,⟨?_,by simp[g11],by simp[g13]⟩,by simp[g14],by simp[amh],by simp,by simp,by simp,?_,fE _,fun _ _ _=>rfl⟩ ?_
  ·rintro tm k v ⟨h1,h2,h3⟩ Jn;have Nv:14≤k.toNat:=by
    have h17:(K 17).toNat=17:=by decide
    have h79:(K 79).toNat=79:=by decide
    rcases Jn with rfl|rfl|h<;>omega
   have h11:(K 11).toNat=11:=by decide
   have h13:(K 13).toNat=13:=by decide
   have n11:(K 11)≠k:=fun e=>by rw[e]at h11;omega
   have n13:(K 13)≠k:=fun e=>by rw[e]at h13;omega
   exact⟨h1.set Nv,by rw[aP _ _ _ _ n11];exact h2,by rw[aP _ _ _ _ n13];exact h3⟩
  ·repeat' (first|exact hKp|refine Kpt.set ?_ (by decide))
  ·have:Jj (dj (aY X mi os) l (p+1)) (List.take 0 (rowOf (aY X mi os) l l[p]))=false:=by rw[List.take_zero];rfl
   rw[this,Bool.or_false];exact vg3
  ·rintro aD h' nx' ⟨q,q11,q13⟩ q15 q14 vg' hn' hf';have hga:(FP os l[p].1||Jj (dj (aY X mi os) l (p+1)) (rowOf (aY X mi os) l l[p]))=jx (aY X mi os) l p:=avZ;rw[hga,←aem hp]at vg';simp;simp[EG,q15];rw[aO (by omega) (by omega)];refine⟨p,by omega,p,rfl,by omega,?_,by simp[q11],by simp[q13],by simp[q14],by simp,by rw[hf' b14 (by omega) bne];rw[←hg0];exact v143,vg',by omega,by omega,⟨by have:=e3.n;omega,fun b hb=>?_⟩⟩
   ·repeat' (first|exact q|refine Kpt.set ?_ (by decide))
   ·have:=e3.n;have g1:=ge.1;have g2:=ge.2;rw[hf' b (by omega) (fun e=>by rw[e]at hb;omega)];exact e3.g b hb
end Ln
namespace Ln
open Go.Sx Go
def GdB(b14 bg:Key)(gv:List Bool)(h:T ah)(nx:Key):Prop:=ag b14 h=QZ [.slice bg 0 gv.length 1]∧ag bg h=QZ (fy gv)∧b14.toNat<nx.toNat∧bg.toNat<nx.toNat
theorem GdB.ext{b14 bg:Key}{gv:List Bool}{h h':T ah}{nx nx':Key}(g:GdB b14 bg gv h nx)(e:Ext h nx h' nx'):GdB b14 bg gv h' nx':=⟨by rw[e.g _ g.2.2.1];exact g.1,by rw[e.g _ g.2.2.2];exact g.2.1,by have:=g.2.2.1;have:=e.n;omega,by have:=g.2.2.2;have:=e.n;omega⟩
variable{C:bP}{X:Kn}(S:Std C X)
include S
theorem apu{b14 bg:Key}{gv:List Bool}{h:T ah}{nx:Key}(G:GdB b14 bg gv h nx){t:Nat×Nat}(ht:t.2<gv.length):aJ C fM [.agg (eT t),.ptr b14 0] h nx (fun o h' nx'=>o=.ret (.bool (gv.getD t.2 false))∧Ext h nx h' nx'):=by
 have s1:=kTSu nx;have hce:(eT t).all AV.aM=true:=sF.2 (hJ.cell _);have hle:(eT t).length=2:=rfl;have he1:(eT t)[1]?=some (I (t.2:Int)):=rfl;refine S.C2.call ?_;simp[-List.getD_eq_getElem?_getD,Ac];simp[-List.getD_eq_getElem?_getD,BE,hce,hle];have e1:=E0 h nx (.cells (eT t) .fix);have b1:ag nx (aw nx (QZ (eT t)) h)=QZ (eT t):=by simp
 generalize aw nx (QZ (eT t)) h=h1 at *;obtain⟨g1,g2,_,_⟩:=G.ext e1;have LK:(fy gv).length=gv.length:=Io gv;have Pt:∀hh,(fy gv)[t.2]'hh=.bool (gv.getD t.2 false):=fun hh=>by have:=Ip ht;rw[pY hh]at this;rw[Option.some.inj this,List.getD_eq_getElem?_getD,pY ht];rfl
 simp[-List.getD_eq_getElem?_getD,BF,b1,g1,g2,he1,ht,LK,Pt];exact e1
def aDk(gv:List Bool)(row:List (Nat×Nat))(j:Nat):Prop:=j<row.length∧gv.getD (row.getD j (0,0)).2 false=true∧∀q,q<j→gv.getD (row.getD q (0,0)).2 false=false
def IfI(row:List (Nat×Nat))(gv:List Bool)(c0:AV)(b14:Key)(h:T ah)(nx:Key)(m:Nat)(aD:T AV)(h':T ah)(nx':Key):Prop:=∃j:Nat,m=row.length-j∧j≤row.length∧ag (K 0) aD=some c0∧ag (K 1) aD=some (.fn fM [] [.ptr b14 0])∧ag (K 7) aD=some (I row.length)∧ag (K 8) aD=some (I j)∧Ext h nx h' nx'∧∀q,q<j→gv.getD (row.getD q (0,0)).2 false=false
theorem aqZ{b14 bg:Key}{gv:List Bool}{h:T ah}{nx:Key}(G:GdB b14 bg gv h nx){row:List (Nat×Nat)}(hrl:row.length≤1000)(hto:∀t∈row,t.2<gv.length)(amt:∃t∈row,gv.getD t.2 false=true){c0:AV}(hc:nW 2 eT c0 row) :
  aJ C bx [c0,.fn fM [] [.ptr b14 0]] h nx (fun o h' nx'=>(∃j,aDk gv row j∧o=.ret (I (j:Nat)))∧Ext h nx h' nx'):=by
 have r2:=S.r fM;have hR:=hc.rd h nx;refine S.fe.call ?_;simp[cV];simp[ei];simp[↓hR.ln,ej];refine W.fh (n:=row.length) (IfI row gv c0 b14 h nx) ⟨0,by simp,by omega,by simp,by simp,by simp,by simp,Ext.refl _ _,fun q hq=>absurd hq (by omega)⟩ ?_;rintro m dc h1 bw ⟨j,rfl,hj,g0,g1,g7,g8,e1,AB⟩;refine W.of ?_;simp[eF];by_cases da:j<row.length
 ·have L1:(j:Int)<row.length:=by omega
  have hR1:=hc.rd h1 bw;have hz:∀H,bA (aS 9998) (eT row[j]) H=(eT row[j],H):=fun H=>bF (hJ.wU _);have hgd:row.getD j (0,0)=row[j]:=by rw[List.getD_eq_getElem?_getD,pY da];rfl
  simp[ep,g7,g8,L1];simp[eu,g8];simp[↓hR1.ix hJ da,ew,g0,g1,r2,hz];refine(apu S (G.ext e1) (hto _ (LA da))).mono ?_;rintro o h2 bu ⟨rfl,e2⟩;cases hg:gv.getD row[j].2 false with
  |true=>simp;simp[ez];exact⟨⟨j,⟨da,by rw[hgd];exact hg,AB⟩,rfl⟩,e1.trans e2⟩
  |false=>
   simp;simp[eB,g8];rw[aO (by omega) (by omega)];refine⟨row.length-(j+1),by omega,j+1,rfl,by omega,by simp[g0],by simp[g1],by simp[g7],by simp,e1.trans e2,fun q hq=>?_⟩;by_cases e:q=j
   ·subst e;rw[hgd];exact hg
   ·exact AB q (by omega)
 ·exfalso;obtain⟨t,ht,Pt⟩:=amt;obtain⟨q,hq,rfl⟩:=List.getElem_of_mem ht;have:=AB q (by omega);rw[List.getD_eq_getElem?_getD (l:=row),pY hq]at this;have h2:gv.getD row[q].2 false=false:=this;rw[Pt]at h2;cases h2
end Ln
namespace Ln
open Go.Sx Go
variable{C:bP}{X:Kn}(S:Std C X)
include S
theorem amx{c:Cf St}(hk:c.2.kids.length≤3){h:T ah}{nx:Key}:aJ C fI [.agg (eC c)] h nx (fun o h' nx'=>o=.ret (.agg (eC c))∧Ext h nx h' nx'):=by
 have rV:=S.r dH;have s1:=kTSu nx;have s2:=kTSu nx.succ;refine S.CJ.call ?_;simp[zJ];simp[Bi,Te,ED];have e2:=(E0 h nx (.cells (eC c) .fix)).trans (E0 _ nx.succ (.cells [.int .i64 (.lit 0),.int .i64 (.lit 0),.int .i64 (.lit 0),.str 0 0,.nils] .fix));have b1:ag nx (aw nx.succ (QZ [.int .i64 (.lit 0),.int .i64 (.lit 0),.int .i64 (.lit 0),.str 0 0,.nils]) (aw nx (QZ (eC c)) h))=QZ (eC c):=by rw[aA (by omega)];simp
 have b2:ag nx.succ (aw nx.succ (QZ [.int .i64 (.lit 0),.int .i64 (.lit 0),.int .i64 (.lit 0),.str 0 0,.nils]) (aw nx (QZ (eC c)) h))=QZ [.int .i64 (.lit 0),.int .i64 (.lit 0),.int .i64 (.lit 0),.str 0 0,.nils]:=by simp
 generalize aw nx.succ (QZ [.int .i64 (.lit 0),.int .i64 (.lit 0),.int .i64 (.lit 0),.str 0 0,.nils]) (aw nx (QZ (eC c)) h)=h2 at *;have ec0:(eC c)[0]?=some (I c.1):=rfl;have amy:(eC c).head?=some (I c.1):=rfl;have et:List.take 4 (eC c).tail=eS c.2:=rfl;have iq:AV.beq (I c.1) (I c.1)=true:=beq_refl _ rfl;simp[Bj,b1,ec0,amy,et,ED,rV,Cx];refine aJ.known (S.s_Clone c.2 hk _ _) ?_;simp[b1,b2,ec0,amy,iq,lenS,CB,aaN];rw[zv,Cx];exact⟨rfl,e2.put (by omega)⟩
omit S in
theorem amz{l:List (Cf St)}{R0:List AV}{j:Nat}(hj:j<l.length)(hR:R0.length=l.length*5):List.take (j*5) (aq eC (l.take j)++R0.drop (j*5))++(eC l[j]++List.drop (j*5+5) (aq eC (l.take j)++R0.drop (j*5)))=aq eC (l.take (j+1))++R0.drop ((j+1)*5):=by
 have cQ:(l.take j).length=j:=by rw[UD];omega
 have hr:(aq eC (l.take j)).length=j*5:=by rw[xU.rows,cQ]
 rw[List.take_append_of_le_length (by omega),Lm (by omega),zqq,hr,List.drop_eq_nil_of_le (by omega),List.nil_append,List.drop_drop];rw[zqu hj,ju,iC,List.append_assoc];congr 3;omega
def CpI(l:List (Cf St))(c0:AV)(R0:List AV)(bn:Key)(h:T ah)(nx:Key)(m:Nat)(aD:T AV)(h':T ah)(nx':Key):Prop:=∃j:Nat,m=l.length-j∧j≤l.length∧ag (K 0) aD=some c0∧ag (K 1) aD=some (.fn fI [] [])∧ag (K 5) aD=some (.slice bn 0 l.length 5)∧ag (K 14) aD=some (I l.length)∧ag (K 15) aD=some (I j)∧ag bn h'=QZ (aq eC (l.take j)++R0.drop (j*5))∧bn.toNat<nx'.toNat∧Ext h nx h' nx'
theorem amn{l:List (Cf St)}(h0:0<l.length)(hl:l.length≤1024)(NP:∀y∈l,y.2.kids.length≤3){c0:AV}(hc:nW 5 eC c0 l){h:T ah}{nx:Key} :
  aJ C dm [c0,.fn fI [] []] h nx (fun o h' nx'=>o=.ret (.slice nx 0 l.length 5)∧ag nx h'=QZ (aq eC l)∧nx.toNat<nx'.toNat∧Ext h nx h' nx'):=by
 have r1:=S.r fI;have s1:=kTSu nx;have hR:=hc.rd h nx;have bW:¬l.length=0:=by omega
 have amA:l≠[]:=fun e=>bW (by rw[e];rfl);have SZ:l.length≤1048576:=by omega
 refine S.mo.call ?_;simp[jb];simp[lu];simp[↓hR.ln,lv,bW,amA];simp[↓hR.ln,lx,SZ,-repL_eq];have hR0:∀(n:Nat) (a b c d e:AV),(KI n [a,b,c,d,e] []).length=n*5:=fun n a b c d e=>by rw[repL_eq,List.append_nil];simp
 have amB:=hR0 l.length (.int .i64 (.lit 0)) (.int .i64 (.lit 0)) (.int .i64 (.lit 0)) (.str 0 0) .nils;generalize KI l.length [AV.int .i64 (.lit 0),.int .i64 (.lit 0),.int .i64 (.lit 0),.str 0 0,.nils] []=R0 at *;have e1:=E0 h nx (.cells R0 .fix);have b1:ag nx (aw nx (QZ R0) h)=QZ R0:=by simp
 generalize aw nx (QZ R0) h=h1 at *;have hR1:=hc.rd h1 nx.succ;simp[↓hR1.ln,ly];refine W.fh (n:=l.length) (CpI l c0 R0 nx h nx) ⟨0,by simp,by omega,by simp,by simp,by simp,by simp,by simp,by simpa using b1,by omega,e1⟩ ?_;rintro m dc h2 bu ⟨j,rfl,hj,g0,g1,g5,g14,g15,vb,bn,e2⟩;refine W.of ?_;simp[lz];by_cases da:j<l.length
 ·have L1:(j:Int)<l.length:=by omega
  have hR2:=hc.rd h2 bu;have SQ:=amz da amB;have LK:(aq eC (l.take j)++R0.drop (j*5)).length=l.length*5:=by rw[DG,xU.rows,List.length_drop,UD,amB];omega
  have Nu:j*5+5≤l.length*5:=by omega
  have htx:5≤l.length*5-j*5:=by omega
  simp[gD,g14,g15,L1];simp[lB,g15];simp[↓hR2.ix xU da,lD,g0,g1,g5,r1,S7];refine(amx S (NP _ (LA da))).mono ?_;rintro o h3 dZ ⟨rfl,e3⟩;have n3:=e3.n;have vb3:ag nx h3=QZ (aq eC (l.take j)++R0.drop (j*5)):=by rw[e3.g nx (by omega)];exact vb
  simp[vb3,da,LK,Nu,htx,ED,Te,SQ];simp[lF,g15];rw[aO (by omega) (by omega)];exact⟨l.length-(j+1),by omega,j+1,rfl,by omega,by simp[g0],by simp[g1],by simp[g5],by simp[g14],by simp,by simp,by omega,(e2.trans e3).put (fE _)⟩
 ·have Jk:j=l.length:=by omega
  subst Jk;have hd:R0.drop (l.length*5)=[]:=List.drop_eq_nil_of_le (by omega);rw[List.take_length,hd,List.append_nil]at vb;simp[gD,g14,g15];simp[lG,g5];exact⟨vb,by omega,e2⟩
end Ln
namespace Ln
open Go.Sx Go
theorem ajk{S:Sys St}(hS:S.Ok){l:List (Cf St)}(hk:Kept S l.length l){p:Nat}(hp:p<l.length)(hg:qT S l[p]=true)(ha:S.acc l[p].1=false):(∃t∈rowOf S l l[p],(dj S l 0).getD t.2 false=true)∧∀j,aDk (dj S l 0) (rowOf S l l[p]) j→∃(i q:Nat) (c':Cf St),(rowOf S l l[p])[j]?=some (i,q)∧l[q]?=some c'∧p<q∧qT S c'=true∧∀r,Path S c' r→Path S l[p] (i ::r):=by
 have hcp:l[p]?=some l[p]:=pY hp;have yI:∀x∈S.steps l[p],x.2∈l:=hk.done p l[p] hp hcp;have hgd:∀x∈S.steps l[p],(dj S l 0).getD (l.idxOf x.2) false=qT S x.2:=fun x hx=>by
  have h2:l.idxOf x.2<l.length:=List.idxOf_lt_length_of_mem (yI _ hx);rw[Oa h2];have h3:jx S l (l.idxOf x.2)=qT S x.2:=by unfold jx;rw[Ix (yI x hx)]
  rw[h3];simp
 refine⟨?_,fun j hj=>?_⟩
 ·rw[acV,ha,Bool.false_or,List.any_eq_true]at hg;obtain⟨x,hx,hgx⟩:=hg;exact⟨_,NI.2 ⟨x,hx,rfl⟩,by rw[hgd x hx];exact hgx⟩
 ·obtain⟨h1,h2,h3⟩:=hj;have hlen:(rowOf S l l[p]).length=(S.steps l[p]).length:=by unfold rowOf;rw[List.length_map]
  have hj':j<(S.steps l[p]).length:=by omega
  have FV:∀q (hq:q<(S.steps l[p]).length),(rowOf S l l[p])[q]?=some ((S.steps l[p])[q].1,l.idxOf (S.steps l[p])[q].2):=fun q hq=>by unfold rowOf;rw[List.getElem?_map,pY hq];rfl
  have hD:∀q (hq:q<(S.steps l[p]).length),(dj S l 0).getD ((rowOf S l l[p]).getD q (0,0)).2 false=qT S (S.steps l[p])[q].2:=fun q hq=>by rw[List.getD_eq_getElem?_getD (l:=rowOf S l l[p]),FV q hq];exact hgd _ (LA hq)
  have hx:=LA hj';rw[hD j hj']at h2;refine⟨_,_,(S.steps l[p])[j].2,FV j hj',Ix (yI _ hx),?_,h2,fun r hr=>?_⟩
  ·have hx2:((S.steps l[p])[j].1,(S.steps l[p])[j].2)∈S.steps l[p]:=hx;exact hk.up hS hcp (Ix (yI _ hx)) hx2
  ·refine Path.more (a:=(S.steps l[p]).take j) (b:=(S.steps l[p]).drop (j+1)) ha ?_ ?_ hr
   ·have:=List.take_append_drop j (S.steps l[p]);rw[zqt hj']at this;exact this.symm
   ·intro x hxa;obtain⟨q,hq,rfl⟩:=List.getElem_of_mem hxa;have hq1:q<j:=by rw[UD]at hq;omega
    have hq2:q<(S.steps l[p]).length:=by omega
    have:=h3 q hq1;rw[hD q hq2]at this;rw[List.getElem_take];exact WK.1 this
def OlI(X:Kn)(mi:Nat)(os:List Op)(l:List (Cf St))(bj br b14 bg:Key)(h0:T ah)(nx0:Key)(wL:T AV)(m:Nat)(aD:T AV)(h':T ah)(nx':Key):Prop:=∃(p:Nat) (pre:List Nat) (c19:AV) (o19:Option Key),m=l.length-p∧p<l.length∧jx (aY X mi os) l p=true∧pre.length≤p∧(∀r c,l[p]?=some c→Path (aY X mi os) c r→∃c0,l[0]?=some c0∧Path (aY X mi os) c0 (pre++r))∧Kpt wL aD∧
 ag (K 11) aD=some (.ptr bj 0)∧ag (K 13) aD=some (.ptr br 0)∧ag (K 14) aD=some (.ptr b14 0)∧ag (K 20) aD=some (I (p:Int))∧ag (K 19) aD=some c19∧Gr 1 c19 (aq eI (jU pre)) (jU pre).length h' nx' o19∧(∀b,o19=some b→nx0.toNat≤b.toNat∧b≠b14∧b≠bg)∧GdB b14 bg (dj (aY X mi os) l 0) h' nx'∧Ext h0 nx0 h' nx'
variable{C:bP}{X:Kn}(S:Std C X)
include S
theorem aes{mi:Nat}{os:List Op}(ho:os.length≤16){cO:AV}{l:List (Cf St)}(hk:Kept (aY X mi os) l.length l){bj br bm b14 bg:Key}{cC cS:AV}{cs:List AV}{h0:T ah}{nx0:Key}(F:FdH X mi os cO l bj br bm cC cS cs h0 nx0)(ge:nx0.toNat≤b14.toNat∧nx0.toNat≤bg.toNat){wL:T AV}{Q:cH}{m:Nat}{tm:T AV}{h1:T ah}{bw:Key}(A:OlI X mi os l bj br b14 bg h0 nx0 wL m tm h1 bw)
  (gJ:∀aD h' nx' pre c19 o19,(∃c0,l[0]?=some c0∧Path (aY X mi os) c0 pre)→Kpt wL aD→ag (K 19) aD=some c19→Gr 1 c19 (aq eI (jU pre)) (jU pre).length h' nx' o19→(∀b,o19=some b→nx0.toNat≤b.toNat)→Ext h0 nx0 h' nx'→Q .norm aD h' nx') :
  W C (.loop zH) (aG 4 Q) tm h1 bw:=by
 have rA:=S.r cq;have rI:=S.r bx;have hSo:=Ra X mi os;have hl:=hk.len;refine W.fh (OlI X mi os l bj br b14 bg h0 nx0 wL) A ?_;rintro m dc h nx ⟨p,pre,c19,o19,rfl,hp,hga,xz,atQ,hKp,g11,g13,g14,g20,g19,G19,aaM,GB,e0⟩;have F1:=F.ext e0;have cQ:=hk.lt _ (LA hp);have hd:l[p].1<65536:=O5 cQ (zC ho);have hcp:l[p]?=some l[p]:=pY hp;have hpc:p<cs.length:=by rw[F.csl];exact hp
 obtain⟨c,hc1,N7⟩:=F.row p hpc;have Nt:c=l[p]:=by rw[hcp]at hc1;exact(Option.some.inj hc1).symm
 subst Nt;have hgl:qT (aY X mi os) l[p]=true:=by
  have:jx (aY X mi os) l p=qT (aY X mi os) l[p]:=by unfold jx;rw[hcp]
  rw[←this];exact hga
 refine W.of ?_;simp[zH];simp[↓F1.C.ix xU hp,ER,g11,g13,g20,F1.vr,rA,S7];refine(ahq S ho hd F1.vj F1.lt.1).mono ?_;rintro o h2 bu ⟨rfl,e2⟩;have e02:=e0.trans e2;cases hac:FP os l[p].1 with
 |true=>
  obtain⟨c0,q1,q2⟩:=atQ [] l[p] hcp (.now hac);rw[List.append_nil]at q2;simp;refine gJ _ _ _ pre c19 o19 ⟨c0,q1,q2⟩ ?_ (by simp[g19]) (G19.ext e2) (fun b hb=>(aaM b hb).1) e02
  repeat' (first|exact hKp|refine Kpt.set ?_ (by decide))
 |false=>
  have F2:=F.ext e02;have hR2:=N7.rd h2 bu;have hz:∀H,aS 9999 cs[p] H=(cs[p],H):=fun H=>N7.wU _ _;have hzp:∀H,bA (aS 9998) [.ptr b14 0] H=([.ptr b14 0],H):=fun H=>rfl;obtain⟨amt,aGo⟩:=ajk hSo hk hp hgl hac;obtain⟨hto,_⟩:=aaH hSo hk hp;have aGp:(dj (aY X mi os) l 0).length=l.length:=qf _ _ _;have ami:(rowOf (aY X mi os) l l[p]).length≤1000:=by unfold rowOf Sys.steps;rw[List.length_map];have:=List.length_filterMap_le ((aY X mi os).step l[p]) (List.range (aY X mi os).n);rw[List.length_range]at this;have hn:(aY X mi os).n=os.length:=rfl;omega
  simp;simp[↓F2.S.ix1 hpc,ES,g13,g14,g20,F2.vr,rI,hz];refine(aqZ S (GB.ext e2) ami (fun t ht=>by rw[aGp];exact(hto t ht).2) amt N7).mono ?_;rintro o h3 dZ ⟨⟨j,hj,rfl⟩,e3⟩;obtain⟨ci,q,c',hjq,hq1,hpq,hgq,hpp⟩:=aGo j hj;have da:j<(rowOf (aY X mi os) l l[p]).length:=hj.1;have Jk:(rowOf (aY X mi os) l l[p])[j]=(ci,q):=by rw[pY da]at hjq;exact Option.some.inj hjq
  have DK:=hJ.at da;rw[Jk]at DK;have amu:cs[p]=.sl (aq eT (rowOf (aY X mi os) l l[p])) (rowOf (aY X mi os) l l[p]).length 2 .any:=by
   rcases N7 with⟨_,e⟩|e
   ·rw[e]at da;simp at da
   ·exact e
  have hrr:=hJ.rows (rowOf (aY X mi os) l l[p]);have h2r:2≤(rowOf (aY X mi os) l l[p]).length*2-j*2:=by omega
  have t0:(eT (ci,q))[0]?=some (I (ci:Int)):=rfl;have t0':(eT (ci,q)).head?=some (I (ci:Int)):=rfl;have t1:(eT (ci,q))[1]?=some (I (q:Int)):=rfl;have te:eT (ci,q)=[I (ci:Int),I (q:Int)]:=rfl;have s3:=kTSu dZ;have e03:=e02.trans e3;have F3:=F.ext e03;have G3:=(G19.ext e2).ext e3;have GB3:=(GB.ext e2).ext e3;have e4:=E0 h3 dZ (.cells [I (ci:Int)] .fix);have hol:(jU pre).length=pre.length:=List.length_map ..;obtain⟨UF,h5,Z8,UG,ha,G5,F5⟩:=(G3.ext e4).Z7 L0 (by decide) (by decide) (by omega) (ci:Int);have F35:=(Qs.ahp e4 o19).trans F5;have hej:eI (ci:Int)=[I (ci:Int)]:=rfl;rw[hej]at ha;have n35:=F35.n;have n03:=e03.n;have aQG:∀b:Key,o19=some b→b.toNat<dZ.toNat:=fun b hb=>G3.lt b hb;have amv:∀b,UG=some b→nx0.toNat≤b.toNat∧b≠b14∧b≠bg:=fun b hb=>by
   rcases F35.o with e|⟨y,e,hy⟩
   ·rw[e]at hb;exact aaM b hb
   ·rw[e]at hb;cases hb;have h1:=GB3.2.2.1;have h2:=GB3.2.2.2;exact⟨by omega,fun e=>by rw[e]at hy;omega,fun e=>by rw[e]at hy;omega⟩
  have e05:Ext h0 nx0 h5 Z8:=⟨by omega,fun b hb=>by rw[F35.g b (by omega) (fun e=>by have:=(aaM b e).1;omega)];exact e03.g b hb⟩
  have F5':=F.ext e05;have GB5:GdB b14 bg (dj (aY X mi os) l 0) h5 Z8:=by obtain⟨q1,q2,q3,q4⟩:=GB3;exact⟨by rw[F35.g b14 q3 (fun e=>(aaM b14 e).2.1 rfl)];exact q1,by rw[F35.g bg q4 (fun e=>(aaM bg e).2.2 rfl)];exact q2,by omega,by omega⟩
  simp;simp[-appendTo,↓F3.S.ix1 hpc,ET,g13,g19,g20,F3.vr,amu,da,hrr,h2r,DK,te,ha];simp[↓F5'.S.ix1 hpc,EU,g13,g20,F5'.vr,amu,da,hrr,h2r,DK,te];obtain⟨hql,hqc⟩:=List.getElem?_eq_some_iff.1 hq1;have aGu:jx (aY X mi os) l q=true:=by unfold jx;rw[hq1];exact hgq
  have hor:jU (pre ++ [ci])=jU pre ++ [(ci:Int)]:=by unfold jU;rw[List.map_append];rfl
  refine⟨l.length-q,by omega,q,pre ++ [ci],UF,UG,rfl,hql,aGu,by simp;omega,?_,?_,by simp[g11],by simp[g13],by simp[g14],by simp,by simp,by rw[hor];exact G5,amv,GB5,e05⟩
  ·intro r c hc hr;have Nt:c=c':=by rw[hq1]at hc;exact(Option.some.inj hc).symm
   subst Nt;obtain⟨c0,z1,z2⟩:=atQ (ci ::r) l[p] hcp (hpp r hr);exact⟨c0,z1,by simpa using z2⟩
  ·repeat' (first|exact hKp|refine Kpt.set ?_ (by decide))
end Ln
namespace Ln
open Go.Sx Go
variable{C:bP}{X:Kn}(S:Std C X)
include S
end Ln
namespace Ln
open Go.Sx Go
def av0(X:Kn)(i:Nat)(l:List Ev)(h:T ah)(nx:Key)(o:Out)(h':T ah)(nx':Key):Prop:=Ext h nx h' nx'∧
 ((sK i l≠0∧o=.ret (.tuple [.nils,.agg [.nils],I (sK i l)]))∨
  (sK i l=0∧((ZD (aY X i (aR 0 l)) 1025 0 [(0,bJ i)]=none∧o=.ret (.tuple [.nils,.agg [.nils],I 4]))∨
   ∃L,ZD (aY X i (aR 0 l)) 1025 0 [(0,bJ i)]=some L∧Kept (aY X i (aR 0 l)) L.length L∧(∀y∈L,jL i y.2)∧((∃p cR,Path (aY X i (aR 0 l)) (0,bJ i) p∧nW 1 eI cR (jU p)∧o=.ret (.tuple [cR,.agg [.nils],I 0]))∨
    (¬Good (aY X i (aR 0 l)) (0,bJ i)∧∃cR,nW 5 eC cR (x4 L)∧o=.ret (.tuple [.nils,.agg [cR],I 0]))))))
theorem aeo(S:Sys St)(l:List (Cf St)):KI l.length [AV.bool false] []=fy (dj S l l.length):=by rw[aep,repL_eq,List.append_nil];unfold fy;rw[List.map_replicate];simp
variable{C:bP}{X:Kn}(S:Std C X)(H:O0 C)
include S H
theorem alY{i:Nat}(hi:i<3){ev:AV}{l:List Ev}(hl:adD l)(wK:cM [] l=0→∀o∈aR 0 l,before o o=false){h:T ah}{nx:Key}(hv:Rd 8 ev (aq eE l) l.length h nx) :
  aJ C n9 [X.m,fT i,ev,iW] h nx (av0 X i l h nx):=by
 have s1:=kTSu nx;have s2:=kTSu nx.succ;have s3:=kTSu nx.succ.succ;have rb:C.raw hN=true:=S.rw (by decide);have rE:=S.r dV;have rC:=S.r dm;have rS:C.raw ch=true:=S.rw (by decide);have Gs:(aR 0 l).length≤16:=hl.beg;refine S.Jo.call ?_;simp[Hh];simp[Hi,Kn.m,iW];have e2:=((E0 h nx (.cells [.sl X.rows 7 45 .any] .fix)).trans (E0 _ nx.succ (.cells [I 200,I 50] .fix))).trans (E0 _ nx.succ.succ (.cells [.nils] .fix));have bm2:ag nx (aw nx.succ.succ (QZ [.nils]) (aw nx.succ (QZ [I 200,I 50]) (aw nx (QZ [.sl X.rows 7 45 .any]) h)))=QZ [.sl X.rows 7 45 .any]:=by rw[aA (by omega),aA (by omega)];simp
 have bl2:ag nx.succ (aw nx.succ.succ (QZ [.nils]) (aw nx.succ (QZ [I 200,I 50]) (aw nx (QZ [.sl X.rows 7 45 .any]) h)))=QZ [I 200,I 50]:=by rw[aA (by omega)];simp
 have b92:ag nx.succ.succ (aw nx.succ.succ (QZ [.nils]) (aw nx.succ (QZ [I 200,I 50]) (aw nx (QZ [.sl X.rows 7 45 .any]) h)))=QZ [.nils]:=by simp
 generalize aw nx.succ.succ (QZ [.nils]) (aw nx.succ (QZ [I 200,I 50]) (aw nx (QZ [.sl X.rows 7 45 .any]) h))=h2 at *;simp[Hj,bm2,bl2,rb];refine(aaL S hi hl (hv.ext e2)).mono ?_;rintro o h3 dZ ⟨e3,hR⟩;have UE:=e2.trans e3;have n3:=e3.n;have b93:ag nx.succ.succ h3=QZ [.nils]:=by rw[e3.g _ (by omega)];exact b92
 rcases hR with⟨bW,rfl⟩|⟨AF,bj,cO,rfl,bj3,hc,bj0,bjn⟩
 ·simp;simp[zD,bq bW];simp[Hk,b93];exact⟨UE.put (by omega),.inl ⟨bW,rfl⟩⟩
 ·obtain⟨hvd,BK⟩:=Pw AF;have hbo:=wK hvd;simp;simp[zD];simp[Hl,rE];refine(aer S H hi BK hbo Gs hc bj3 bjn).mono ?_;rintro o h4 kK ⟨e4,hR⟩;have ZH:=UE.trans e4;have n4:=e4.n;have b94:ag nx.succ.succ h4=QZ [.nils]:=by rw[e4.g _ (by omega)];exact b93
  have bj4:ag bj h4=QZ (jB X i cO (bJ i) (im (aR 0 l) (aR 0 l).length)):=by rw[e4.g bj bjn];exact bj3
  rcases hR with⟨Gg,rfl⟩|⟨L,br,cC,cS,cs,Gg,rfl,kp,h0,NP,G⟩
  ·simp;simp[zF];simp[Hm,b94];exact⟨ZH.put (by omega),.inr ⟨AF,.inl ⟨Gg,rfl⟩⟩⟩
  ·simp;simp[zF];obtain⟨bm,oC,E,R⟩:=G.R;obtain⟨oS,GS⟩:=G.B;have F:FdH X i (aR 0 l) cO L bj br bm cC cS cs h4 kK:=⟨bj4,R.BO,R.C.rd,GS.rd,⟨by omega,R.brn⟩,G.csl,G.row⟩;have hL:=kp.len;have hL0:0<L.length:=(List.getElem?_eq_some_iff.1 h0).1;have hLc:L.length≤1048576:=by omega
   have t1:=kTSu kK;have t2:=kTSu kK.succ;have hRC:=F.C;simp[↓hRC.ln,Hn,R.BO,hLc,-repL_eq];rw[aeo (aY X i (aR 0 l)) L];have e5:=(E0 h4 kK (.cells (fy (dj (aY X i (aR 0 l)) L L.length)) .fix)).trans (E0 _ kK.succ (.cells [.slice kK 0 L.length 1] .fix));have vg:ag kK (aw kK.succ (QZ [.slice kK 0 L.length 1]) (aw kK (QZ (fy (dj (aY X i (aR 0 l)) L L.length))) h4))=QZ (fy (dj (aY X i (aR 0 l)) L L.length)):=by rw[aA (by omega)];simp
   have v14:ag kK.succ (aw kK.succ (QZ [.slice kK 0 L.length 1]) (aw kK (QZ (fy (dj (aY X i (aR 0 l)) L L.length))) h4))=QZ [.slice kK 0 L.length 1]:=by simp
   generalize aw kK.succ (QZ [.slice kK 0 L.length 1]) (aw kK (QZ (fy (dj (aY X i (aR 0 l)) L L.length))) h4)=h5 at *;have F5:=F.ext e5;have aGd:=F5.C;have OW:bD .i64 ((L.length:Int)-1)=(L.length:Int)-1:=aO (by omega) (by omega);simp[↓aGd.ln,Ho,F5.vr,OW];refine ajb S Gs kp F (b14:=kK.succ) (bg:=kK) (by omega) (fun e=>by have:=congrArg Key.toNat e;omega) (m:=L.length) ⟨L.length,rfl,fE _,Kpt.refl _,by simp,by simp,by simp,by simp,v14,vg,by omega,by omega,e5⟩ ?_;intro aD h6 Dx hKp q11 q13 q14 w14 wg aeb bgn e6;have q9:=hKp (K 9) (.inr (.inl rfl));simp at q9;have e26:=ZH.trans e6;have n6:=e6.n;have b96:ag nx.succ.succ h6=QZ [.nils]:=by rw[e6.g _ (by omega)];exact b94
   have LK:(fy (dj (aY X i (aR 0 l)) L 0)).length=L.length:=by rw[Io,qf]
   have hg0:∀hh,(fy (dj (aY X i (aR 0 l)) L 0))[0]'hh=.bool (qT (aY X i (aR 0 l)) (0,bJ i)):=fun hh=>by
    have cQ:0<(dj (aY X i (aR 0 l)) L 0).length:=by rw[qf];exact hL0
    have h1:=Ip cQ;rw[pY hh]at h1;rw[Option.some.inj h1];have h2:=Oa (S:=aY X i (aR 0 l)) (l:=L) (a:=0) hL0;rw[List.getD_eq_getElem?_getD,pY cQ]at h2;have h3:jx (aY X i (aR 0 l)) L 0=qT (aY X i (aR 0 l)) (0,bJ i):=by unfold jx;rw[h0]
    rw[h3]at h2;simpa using h2
   simp;simp[EJ,q14,w14,wg,hL0,LK,hg0];refine⟨fun hgf=>?_,fun Pt=>?_⟩
   ·have t3:=kTSu Dx;have hk3:∀y∈L,y.2.kids.length≤3:=fun y hy=>aab (NP y hy);have GC6:=R.C.ext e6;obtain⟨hiC,Lp⟩:=Gr.aaF xU GC6 9998;have F6:=F.ext e6;have aAS:∀b,oC=some b→dZ.toNat≤b.toNat:=fun b hb=>(R.ow b (.inl hb)).2.2;simp[EK,q13,F6.vr,rC];generalize hcC:(aS 9999 cC h6).1=cC' at *;generalize hh7:(aS 9999 cC h6).2=h7 at *;refine(amn S hL0 hL hk3 hiC (h:=h7) (nx:=Dx)).mono ?_;rintro o h8 nx8 ⟨rfl,vn,vlt,e8⟩;have t4:=kTSu nx8;have n8:=e8.n;simp;have b97:ag nx.succ.succ h7=QZ [.nils]:=by rw[Lp _ (fun e=>by have:=aAS _ e;omega)];exact b96
    have b98:ag nx.succ.succ h8=QZ [.nils]:=by rw[e8.g _ (by omega)];exact b97
    have low:∀b:Key,b.toNat<nx.toNat→ag b h8=ag b h:=fun b hb=>by rw[e8.g b (by omega),Lp b (fun e=>by have:=aAS _ e;omega)];exact e26.g b hb
    have v18:ag nx8 (aw nx8 (QZ [.slice Dx 0 L.length 5]) h8)=QZ [.slice Dx 0 L.length 5]:=by simp
    have vn9:ag Dx (aw nx8 (QZ [.slice Dx 0 L.length 5]) h8)=QZ (aq eC L):=by rw[aA (by omega)];exact vn
    have b99:ag nx.succ.succ (aw nx8 (QZ [.slice Dx 0 L.length 5]) h8)=QZ [.nils]:=by rw[aA (by omega)];exact b98
    have aGf:∀b:Key,b.toNat<nx.toNat→ag b (aw nx8 (QZ [.slice Dx 0 L.length 5]) h8)=ag b h:=fun b hb=>by rw[aA (by omega)];exact low b hb
    generalize aw nx8 (QZ [.slice Dx 0 L.length 5]) h8=h9 at *;simp[EL,v18,rS];refine .inl ⟨_,_,_,H.amo L Dx h9 nx8.succ hk3 kp.nodup hL vn9,?_⟩;simp;have n68:nx8≠Dx:=fun e=>by rw[e]at vlt;omega
    have n62:nx.succ.succ≠Dx:=fun e=>by rw[←e]at n6;omega
    have v182:ag nx8 (aw Dx (QZ (aq eC (x4 L))) h9)=QZ [.slice Dx 0 L.length 5]:=by rw[aP _ _ _ _ n68];exact v18
    have b9a:ag nx.succ.succ (aw Dx (QZ (aq eC (x4 L))) h9)=QZ [.nils]:=by rw[aP _ _ _ _ n62];exact b99
    have vna:ag Dx (aw Dx (QZ (aq eC (x4 L))) h9)=QZ (aq eC (x4 L)):=by simp
    have aGg:∀b:Key,b.toNat<nx.toNat→ag b (aw Dx (QZ (aq eC (x4 L))) h9)=ag b h:=fun b hb=>by rw[aA (by omega)];exact aGf b hb
    generalize aw Dx (QZ (aq eC (x4 L))) h9=ha at *;have hsl:(x4 L).length=L.length:=by unfold x4;rw[List.length_mergeSort]
    have hrw:(aq eC (x4 L)).length=L.length*5:=by rw[xU.rows,hsl]
    have vnb:∀B,ag Dx (aw nx.succ.succ B ha)=QZ (aq eC (x4 L)):=fun B=>by rw[aP _ _ _ _ (Ne.symm n62)];exact vna
    simp[EM,v182,b9a,q9];have hz:=o9 (n:=9997) (b:=Dx) (len:=L.length) (sz:=5) (H:=aw nx.succ.succ (QZ [.slice Dx 0 L.length 5]) ha) (vnb _) hrw (xU.FM _);rw[hz];refine⟨⟨by omega,fun b hb=>?_⟩,.inr ⟨AF,.inr ⟨L,Gg,kp,NP,.inr ⟨WK.1 hgf,_,.inr (by rw[hsl]),rfl⟩⟩⟩⟩;show ag b (aw Dx _ (aw nx.succ.succ _ ha))=ag b h;rw[aA (by omega),aA (by omega)];exact aGg b hb
   ·have t3:=kTSu Dx;have aGh:jx (aY X i (aR 0 l)) L 0=true:=by unfold jx;rw[h0];exact Pt
    simp[EN];have e7:=E0 h6 Dx (.cells [] .fix);have v19:ag Dx (aw Dx (QZ []) h6)=QZ []:=by simp
    generalize aw Dx (QZ []) h6=h7 at *;have e47:=e6.trans e7;have GB:GdB kK.succ kK (dj (aY X i (aR 0 l)) L 0) h7 Dx.succ:=by refine⟨by rw[e7.g _ aeb,qf];exact w14,by rw[e7.g _ bgn];exact wg,by omega,by omega⟩
    simp[EO];refine aes S Gs kp F (b14:=kK.succ) (bg:=kK) (by omega) (m:=L.length) ⟨0,[],.slice Dx 0 0 1,some Dx,by simp,hL0,aGh,by simp,fun r c hc hr=>⟨c,hc,by simpa using hr⟩,Kpt.refl _,by simp[q11],by simp[q13],by simp[q14],by simp,by simp,.inr (.inl ⟨Dx,.fix,rfl,rfl,v19,by omega,rfl,.inr rfl⟩),fun b hb=>by cases hb;exact⟨by omega,fun e=>by rw[e]at aeb;omega,fun e=>by rw[e]at bgn;omega⟩,GB,e47⟩ ?_;intro tm8 h8 nx8 pre c19 o19 hP hK8 g19 G19 aaM e8;have p9:=hK8 (K 9) (.inr (.inl rfl));simp[q9]at p9;obtain⟨c0',z1,z2⟩:=hP;have aGi:c0'=(0,bJ i):=by rw[h0]at z1;exact(Option.some.inj z1).symm
    subst aGi;have b98:ag nx.succ.succ h8=QZ [.nils]:=by rw[e8.g _ (by omega)];exact b94
    simp;simp[EP,p9,g19,b98];have n8:=e8.n;have G20:Gr 1 c19 (aq eI (jU pre)) (jU pre).length (aw nx.succ.succ (QZ [.nils]) h8) nx8 o19:=G19.cv (fE _) fun b hb=>aP _ _ _ _ (fun e=>by have:=aaM b hb;rw[e]at this;omega);obtain⟨aGj,aGk⟩:=Gr.aaF L0 G20 9998;refine⟨⟨by omega,fun b hb=>?_⟩,.inr ⟨AF,.inr ⟨L,Gg,kp,NP,.inl ⟨pre,_,z2,aGj,rfl⟩⟩⟩⟩;rw[aGk b (fun e=>by have:=aaM b e;omega),aA (by omega),e8.g b (by omega)];exact ZH.g b hb
end Ln
namespace Ln
open Go.Sx Go
theorem aob(s t:St):qz s t≤0∨qz t s≤0:=by
 by_cases h:qz s t≤0
 ·exact .inl h
 ·right;have:qz t s<0:=(Ij _ _).2 (by show 0<qz s t;omega);omega
end Ln
