/- A part of the proof. No condition. -/
import Derived.Test.YtecbfpngkfdkoaaGreatP36
import Derived.Test.YtecbfpngkfdkoaaGreatP35
set_option linter.unusedSimpArgs false
set_option linter.unusedVariables false
set_option linter.unusedSectionVars false
namespace Ln
open Go.Sx Go
structure Srw(l:List (Cf St))(br bm b4:Key)(n0:Key)(cS:AV)(oC oS:Option Key)(E:List Bk)(cs:List AV)(h:T ai)(nx:Key):Prop where
 G:Gr 1 cS cs cs.length h nx oS
 zD:∀y∈cs,FJ y∧y.aQ=true
 ap:∀b,oS=some b→b≠br∧b≠bm∧b≠b4∧oC≠some b∧(∀e∈E,e.o≠some b)∧n0.toNat≤b.toNat
variable{C:bH}{X:Kn}(S:Std C X)(H:Na C)
theorem azx{n0:Key}{l:List (Cf St)}{st:List (Nat×Nat)}{br bm b4 b6:Key}{cC cS c6:AV}{oC o6 oS:Option Key}{E:List Bk}{cs:List AV}{h:T ai}{nx:Key}(C0:cs.length≤1100)(A:Exp n0 l st br bm b4 b6 cC cS c6 oC o6 E h nx)(B:Srw l br bm b4 n0 cS oC oS E cs h nx)(ZX:n0.toNat≤nx.toNat)(h6S:∀b,o6=some b→oS≠some b){Q:cJ}{tm:T AV}(g4:ag (K 4) tm=some (.ptr b4 0))(g6:ag (K 6) tm=some (.ptr b6 0))
  (hQ:∀aA h' nx' cS' RF c6',qf 2 eT c6' st→Vq n0 l br bm cC cS' oC E h' nx'→Srw l br bm b4 n0 cS' oC RF E (cs ++ [c6']) h' nx'→nx.toNat≤nx'.toNat→(∀b:Key,b.toNat<nx.toNat→b≠br→oS≠some b→o6≠some b→ag b h'=ag b h)→(∀b,RF=some b→oS=some b∨nx.toNat≤b.toNat)→(∀k,(k=K 0∨k=K 2∨k=K 3∨k=K 4∨k=K 5)→ag k aA=ag k tm)→Q .norm aA h' nx') :
  mE C (.staged ja ⟨[K 52,K 53,K 54,K 55,K 56,K 57,K 58,K 59,K 60,K 61],[]⟩) Q tm h nx:=by
 have s1:=kTSu nx;have k6:=A.G6.cell;have kS:=B.G.cell;have e1:=E0 h nx (.cells [c6] .fix);have G6:=A.G6.ext e1;obtain⟨hi6,hf6⟩:=Gr.aaM iB G6 9998;have M9:aY (aO 9999) [c6] (au nx (Qz [c6]) h)=([(aO 9999 c6 (au nx (Qz [c6]) h)).1],(aO 9999 c6 (au nx (Qz [c6]) h)).2):=by simp only[aY]
 generalize hc7:(aO 9999 c6 (au nx (Qz [c6]) h)).1=c7 at *;generalize hh2:(aO 9999 c6 (au nx (Qz [c6]) h)).2=h2 at *;have k7:=hi6.cell;have st7:FJ c7:=hi6.zD;have k2:∀b:Key,b.toNat<nx.toNat→o6≠some b→ag b h2=ag b h:=fun b hb ho=>by rw[hf6 b ho];exact e1.g b hb
 have GS2:Gr 1 cS cs cs.length h2 nx.succ oS:=B.G.keep (by omega) fun b hb=>k2 b (B.G.lt b hb) (fun e=>h6S b e hb);obtain⟨c8,h3,fT,o8,ha,G8,F8⟩:=GS2.add (new:=[c7]) (m:=1) (by decide) (by decide) (by decide) (fun y hy=>(B.zD y hy).1) rfl (by omega) (by simp[k7.1]);have n3:=F8.n;have k8:=G8.cell;have l4:=A.lt.1;have lr:=A.R.brn;have lm:=A.R.bmn;have k3:∀b:Key,b.toNat<nx.toNat→oS≠some b→o6≠some b→ag b h3=ag b h:=fun b hb h1 h2=>by rw[F8.g b (by omega) h1,k2 b hb h2]
 have v43:ag b4 h3=Qz [.ptr br 0]:=by rw[k3 b4 l4 (fun e=>(B.ap b4 e).2.2.1 rfl) (fun e=>(A.o6 b4 e).2.2.1 rfl)];exact A.v4
 have br3:ag br h3=Qz [cC,cS,.map bm]:=by rw[k3 br lr (fun e=>(B.ap br e).1 rfl) (fun e=>(A.o6 br e).1 rfl)];exact A.R.wa
 have pq:AV.beq (.ptr br 0) (.ptr br 0)=true:=beq_refl _ rfl;simp[-appendTo,ja,g4,g6,A.v4,A.v6,A.R.wa,k6.1,k6.2,M9,ha,v43,br3,k8.1,k8.2];refine⟨pq,?_⟩;have o8n:∀b:Key,o8=some b→oS=some b∨nx.toNat≤b.toNat:=fun b hb=>by
  rcases F8.o with e|⟨y,e,hy⟩
  ·rw[e]at hb;exact .inl hb
  ·rw[e]at hb;cases hb;exact .inr (by omega)
 have o8b:∀b:Key,o8=some b→b≠br∧b≠bm∧b≠b4∧oC≠some b∧(∀e∈E,e.o≠some b)∧n0.toNat≤b.toNat:=fun b hb=>by
  rcases o8n b hb with h1|h1
  ·exact B.ap b h1
  ·exact⟨fun e=>by rw[e]at h1;omega,fun e=>by rw[e]at h1;omega,fun e=>by rw[e]at h1;omega,fun e=>by have:=A.R.olt (.inl e);omega,fun e he ho=>by have:=A.R.olt (.inr ⟨e,he,ho⟩);omega,by omega⟩
 have k4:∀b:Key,b.toNat<nx.toNat→b≠br→oS≠some b→o6≠some b→ag b (au br (Qz [cC,c8,.map bm]) h3)=ag b h:=fun b hb h0 h1 h2=>by rw[aD _ _ _ _ h0,k3 b hb h1 h2]
 have ow:∀b,(oC=some b∨∃e∈E,e.o=some b)→ag b (au br (Qz [cC,c8,.map bm]) h3)=ag b h:=fun b hb=>by
  refine k4 b (A.R.olt hb) (A.R.ow b hb).1 (fun e=>?_) (fun e=>(A.ap b hb).2.2 e);have h1:=B.ap b e;rcases hb with hb|⟨y,hy,hb⟩
  ·exact h1.2.2.2.1 hb
  ·exact h1.2.2.2.2.1 y hy hb
 refine hQ _ _ _ c8 o8 c7 hi6 ⟨by simp,?_,by omega,by omega,A.R.C.keep (by omega) fun b hb=>ow b (.inl hb),fun e he=>(A.R.B e he).keep (by omega) fun b hb=>ow b (.inr ⟨e,he,hb⟩),A.R.nd,A.R.cov,A.R.ajg,A.R.sep,A.R.ow,k8,A.R.bb⟩ ⟨?_,?_,o8b⟩ (by omega) k4 o8n ?_
 ·rw[k4 bm lm (Ne.symm A.R.bb.1) (fun e=>(B.ap bm e).2.1 rfl) (fun e=>(A.o6 bm e).2.1 rfl)];exact A.R.map
 ·have:=G8.keep (h':=au br (Qz [cC,c8,.map bm]) h3) (gi _) fun b hb=>aD _ _ _ _ (o8b b hb).1;simpa using this
 ·intro y hy;rcases List.mem_append.1 hy with hy|hy
  ·exact B.zD y hy
  ·simp at hy;subst hy;exact⟨st7,k7.1⟩
 ·rintro k (rfl|rfl|rfl|rfl|rfl)<;>simp
end Ln
namespace Ln
open Go.Sx Go
def AtH(bj b4 r2 r3 b:Key):Prop:=b=bj∨b=b4∨b=r2∨b=r3
structure ExA(X:Kn)(mi:Nat)(os:List Op)(cO:AV)(c0:Cf St)(bj b4 r2 r3 br bm n0:Key)(h0:T ai)(i:Nat)(l:List (Cf St))(cC cS:AV)(oC oS:Option Key)(E:List Bk)(cs:List AV)(ds:List Key)(tm:T AV)(h:T ai)(nx:Key):Prop where
 g0:ag (K 0) tm=some (.ptr bj 0)
 g2:ag (K 2) tm=some (.ptr r2 0)
 g3:ag (K 3) tm=some (.ptr r3 0)
 g4:ag (K 4) tm=some (.ptr b4 0)
 g5:ag (K 5) tm=some (I (i:Int))
 R:Vq n0 l br bm cC cS oC E h nx
 B:Srw l br bm b4 n0 cS oC oS E cs h nx
 csl:cs.length=i
 row:∀q (hq:q<cs.length),∃c,l[q]?=some c∧qf 2 eT cs[q] (rowOf (ba X mi os) l c)
 v4:ag b4 h=Qz [.ptr br 0]
 vj:ag bj h=Qz (jB X mi cO (aJ mi) (jy os os.length))
 w2:∃u,ag r2 h=Qz [u]
 w3:∃u,ag r3 h=Qz [u]
 lt:bj.toNat<nx.toNat∧b4.toNat<nx.toNat∧r2.toNat<nx.toNat∧r3.toNat<nx.toNat
 sep:∀b,AtH bj b4 r2 r3 b→b≠br∧b≠bm∧oC≠some b∧(∀e∈E,e.o≠some b)∧oS≠some b
 r23:r2≠r3
 ge:n0.toNat≤b4.toNat∧n0.toNat≤r2.toNat∧n0.toNat≤r3.toNat
 kp:Kept (ba X mi os) i l
 fst:l[0]?=some c0
 bf:WL (ba X mi os) (1025-i) i l=WL (ba X mi os) 1025 0 [c0]
 ok:∀x∈l,kx mi x.2
 il:i≤l.length
 d:mG n0 ds h nx
 e:Ext h0 n0 h nx
def ExI(X:Kn)(mi:Nat)(os:List Op)(cO:AV)(c0:Cf St)(bj b4 r2 r3 br bm n0:Key)(h0:T ai)(m:Nat)(ds:List Key)(tm:T AV)(h:T ai)(nx:Key):Prop:=∃(i:Nat) (l:List (Cf St)) (cC cS:AV) (oC oS:Option Key) (E:List Bk) (cs:List AV),m=1024-i∧ExA X mi os cO c0 bj b4 r2 r3 br bm n0 h0 i l cC cS oC oS E cs ds tm h nx
variable{C:bH}{X:Kn}(S:Std C X)(H:Na C)
include S H
theorem atc{mi:Nat}(hi:mi<3){os:List Op}(C3:yv mi os=0)(wc:∀o∈os,before o o=false)(ho:os.length≤16){cO:AV}(hcO:qf 10 eO cO os){c0:Cf St}{bj b4 r2 r3 br bm n0:Key}{h0:T ai}{Q:qH}{m:Nat}{ds:List Key}{tm:T AV}{h1:T ai}{bW:Key}(A:ExI X mi os cO c0 bj b4 r2 r3 br bm n0 h0 m ds tm h1 bW)
  (PV:∀ds aA h' nx',ag (K 2) aA=some (.ptr r2 0)→ag (K 3) aA=some (.ptr r3 0)→ag r2 h'=Qz [.nilp]→ag r3 h'=Qz [I 4]→WL (ba X mi os) 1025 0 [c0]=none→mG n0 ds h' nx'→Ext h0 n0 h' nx'→Q .ret ds aA h' nx')
  (mh:∀ds aA h' nx' l cC cS oC oS E cs,ExA X mi os cO c0 bj b4 r2 r3 br bm n0 h0 l.length l cC cS oC oS E cs ds aA h' nx'→WL (ba X mi os) 1025 0 [c0]=some l→Q .norm ds aA h' nx') :
  V C (.loop jH) (wO 0 Q) ds tm h1 bW:=by
 have rS:=S.r fM;have hSo:=QP X mi os;refine V.iM (ExI X mi os cO c0 bj b4 r2 r3 br bm n0 h0) A ?_;rintro m ds gh h nx ⟨i,l,cC,cS,oC,oS,E,cs,rfl,A⟩;have hR:=A.R.C.rd;have hl:=A.kp.len;have nE:=A.e.n;have s1:=kTSu nx;refine uH ?_;simp[jH];by_cases XT:i<l.length
 ·have hii:(i:Int)<l.length:=by omega
  have hci:l[i]?=some l[i]:=zC XT;have K8:=UG XT;simp[↓hR.ln,jG,A.g4,A.g5,A.v4,A.R.wa,hii];simp[pU];have e1:=E0 h nx (.cells [.nils] .fix);have v6:ag nx (au nx (Qz [.nils]) h)=Qz [.nils]:=by simp
  generalize au nx (Qz [.nils]) h=h2 at *;have R2:=A.R.ext e1;have hR2:=R2.C.rd;have v42:ag b4 h2=Qz [.ptr br 0]:=by rw[e1.g b4 A.lt.2.1];exact A.v4
  simp[↓hR2.ix xc XT,pV,A.g0,A.g4,A.g5,v42,R2.wa,rS,SQ];refine(ajE S).mono ?_;rintro o h3 fT ⟨rfl,b23,b33,rfl,e3⟩;have s3:=kTSu nx.succ;have s4:=kTSu nx.succ.succ;have e13:=e1.trans e3;have cZ:∀b:Key,b.toNat<nx.toNat→ag b h3=ag b h:=fun b hb=>e13.g b hb;have R3:=A.R.ext e13;have v63:ag nx h3=Qz [.nils]:=by rw[e3.g nx (by omega)];exact v6
  obtain⟨u2,w2⟩:=A.w2;obtain⟨u3,w3⟩:=A.w3;have hnx:∀b:Key,b.toNat<nx.toNat→b≠nx:=fun b hb e=>by rw[e]at hb;omega
  have l4:=A.lt.2.1;have s4':=A.sep b4 (.inr (.inl rfl));have EX:Exp n0 l [] br bm b4 nx cC cS .nils oC none E h3 nx.succ.succ.succ:=by
   refine⟨R3,by rw[cZ b4 l4];exact A.v4,v63,Gr.nil _ _ _,by omega,⟨s4'.1,s4'.2.1,hnx b4 l4,fun e=>hnx br A.R.brn e.symm,fun e=>hnx bm A.R.bmn e.symm⟩,?_,by simp,by have:=A.ge;omega⟩;intro b hb;have tM:=A.R.olt hb;refine⟨fun e=>?_,hnx b tM,by simp⟩;subst e;rcases hb with hb|⟨y,hy,hb⟩
   ·exact s4'.2.2.1 hb
   ·exact s4'.2.2.2.1 y hy hb
  have notM:∀b:Key,b.toNat<nx.toNat→b≠br→b≠bm→oC≠some b→(∀e∈E,e.o≠some b)→¬kG br bm nx oC none E b:=fun b hb h1 h2 h3 h4 hm=>by
   rcases hm with hm|hm|hm|hm|⟨y,hy,hm⟩|hm
   ·exact h1 hm
   ·exact h2 hm
   ·exact hnx b hb hm
   ·exact h3 hm
   ·exact h4 y hy hm
   ·cases hm
  have ltA:=A.lt;have apV:∀b,AtH bj b4 r2 r3 b→b.toNat<nx.toNat→¬kG br bm nx oC none E b:=fun b hb hn=>by have h1:=A.sep b hb;exact notM b hn h1.1 h1.2.1 h1.2.2.1 h1.2.2.2.1
  have aEw:∀b:Key,nx.toNat<b.toNat→¬kG br bm nx oC none E b:=fun b hb hm=>by
   rcases hm with hm|hm|hm|hm|⟨y,hy,hm⟩|hm
   ·have:=A.R.brn;rw[hm]at hb;omega
   ·have:=A.R.bmn;rw[hm]at hb;omega
   ·rw[hm]at hb;omega
   ·have:=A.R.olt (.inl hm);omega
   ·have:=A.R.olt (.inr ⟨y,hy,hm⟩);omega
   ·cases hm
  have hgm:∀b,(b=bj∨b=nx.succ∨b=nx.succ.succ∨b=r2∨b=r3)→¬kG br bm nx oC none E b:=fun b hb=>by
   rcases hb with rfl|rfl|rfl|rfl|rfl
   ·exact apV _ (.inl rfl) ltA.1
   ·exact aEw _ (by omega)
   ·exact aEw _ (by omega)
   ·exact apV _ (.inr (.inr (.inl rfl))) ltA.2.2.1
   ·exact apV _ (.inr (.inr (.inr rfl))) ltA.2.2.2
  have Iu:=A.bf;rw[show 1025-i=(1024-i)+1 by omega,apW hci]at Iu;have D3:=A.d.ext e13;simp;refine apt S H hi C3 wc ho hcO hl A.kp.nodup A.ok K8 (A.kp.lt _ K8) (b2:=nx.succ) (b3:=nx.succ.succ) (r2:=r2) (r3:=r3) (bj:=bj) EX (by omega) (by rw[cZ bj ltA.1];exact A.vj) b23 b33 (by rw[cZ r2 ltA.2.2.1];exact w2) (by rw[cZ r3 ltA.2.2.2];exact w3) (by omega) hgm A.r23 A.ge.2 D3 ?_ ?_ ?_ ?_ ?_ ?_ ?_
  ·simp
  ·simp[A.g2]
  ·simp[A.g3]
  ·simp[A.g4]
  ·simp
  ·intro d BB h' nx' hds Da q2 q3 D' fr hn;rw[Da]at Iu;simp;exact PV _ _ _ _ (by simp[A.g2]) (by simp[A.g3]) q2 q3 Iu.symm D' ⟨by omega,fun b hb=>by rw[fr b hb,cZ b (by omega)];exact A.e.g b hb⟩
  ·intro d BB h' nx' l' cC' c6' LX o6' E' hds Da A' how D' fr hn;rw[Da]at Iu;have aNu:WL (ba X mi os) (1024-i) (i+1) l'=WL (ba X mi os) 1025 0 [c0]:=Iu;have hsp:=qC Da;obtain⟨t,et⟩:=hsp.1;have oSn:∀b:Key,oS=some b→b.toNat<nx.toNat:=fun b hb=>A.B.G.lt b hb;have oSM:∀b:Key,oS=some b→¬kG br bm nx oC none E b:=fun b hb=>by have h1:=A.B.ap b hb;exact notM b (oSn b hb) h1.1 h1.2.1 h1.2.2.2.1 h1.2.2.2.2.1
   have azw:∀b:Key,oS=some b→¬kG br bm nx LX o6' E' b:=fun b hb hm=>by
    rcases how b hm with h1|h1
    ·exact oSM b hb h1
    ·have:=oSn b hb;omega
   have IV:∀b:Key,b.toNat<nx.toNat→¬kG br bm nx oC none E b→ag b h'=ag b h:=fun b hb hm=>by rw[fr b (by omega) hm,cZ b hb]
   have B':Srw l' br bm b4 n0 cS LX oS E' cs h' nx':=by refine⟨A.B.G.keep (by omega) fun b hb=>IV b (oSn b hb) (oSM b hb),A.B.zD,fun b hb=>?_⟩;have h1:=A.B.ap b hb;exact⟨h1.1,h1.2.1,h1.2.2.1,fun e=>azw b hb (.inr (.inr (.inr (.inl e)))),fun e he ho=>azw b hb (.inr (.inr (.inr (.inr (.inl ⟨e,he,ho⟩))))),h1.2.2.2.2.2⟩
   have anb:=A.csl;simp;refine azx (C:=C) (by omega) A' B' (by omega) (fun b hb e=>azw b e (.inr (.inr (.inr (.inr (.inr hb)))))) (by simp[A.g4]) (by simp) (fun cE h5 zI cS2 oS2 c62 Nx R5 B5 hn5 k5 hoS hk=>?_);have p0:=hk (K 0) (.inl rfl);have p2:=hk (K 2) (.inr (.inl rfl));have p3:=hk (K 3) (.inr (.inr (.inl rfl)));have p4:=hk (K 4) (.inr (.inr (.inr (.inl rfl))));have p5:=hk (K 5) (.inr (.inr (.inr (.inr rfl))));simp[A.g0]at p0;simp[A.g2]at p2;simp[A.g3]at p3;simp[A.g4]at p4;simp[A.g5]at p5;have aEx:∀b:Key,AtH bj b4 r2 r3 b→b.toNat<nx.toNat→¬kG br bm nx LX o6' E' b:=fun b hb hn' hm=>by
    rcases how b hm with h1|h1
    ·exact apV b hb hn' h1
    ·omega
   have at5:∀b:Key,AtH bj b4 r2 r3 b→b.toNat<nx.toNat→ag b h5=ag b h:=fun b hb hn'=>by have hm:=aEx b hb hn';have h1:=A.sep b hb;rw[k5 b (by omega) h1.1 h1.2.2.2.2 (fun e=>hm (.inr (.inr (.inr (.inr (.inr e)))))),IV b hn' (apV b hb hn')]
   simp;simp[oW,p5];rw[aS (by omega) (by omega)];have aNw:i+1≤l'.length:=by rw[et,xa];omega
   refine⟨1024-(i+1),by omega,i+1,l',cC',cS2,LX,oS2,E',cs ++ [c62],rfl,?_⟩;refine⟨by simp[p0],by simp[p2],by simp[p3],by simp[p4],by simp,R5,B5,by simp[anb],?_,by rw[at5 b4 (.inr (.inl rfl)) ltA.2.1];exact A.v4,by rw[at5 bj (.inl rfl) ltA.1];exact A.vj,⟨u2,by rw[at5 r2 (.inr (.inr (.inl rfl))) ltA.2.2.1];exact w2⟩,⟨u3,by rw[at5 r3 (.inr (.inr (.inr rfl))) ltA.2.2.2];exact w3⟩,by omega,?_,A.r23,A.ge,A.kp.next hSo hci Da,by rw[et,List.getElem?_append_left (by omega)];exact A.fst,?_,?_,aNw,?_,?_⟩
   ·intro q hq;by_cases hqc:q<cs.length
    ·obtain⟨c,h1,h2⟩:=A.row q hqc;have UL:∀x∈(ba X mi os).steps c,x.2∈l:=A.kp.done q c (by omega) h1;refine⟨c,by rw[et,List.getElem?_append_left (by omega)];exact h1,?_⟩;rw[List.getElem_append_left hqc,et,akE UL];exact h2
    ·have hqe:q=cs.length:=by simp at hq;omega
     subst hqe;refine⟨l[i],by rw[et,anb,List.getElem?_append_left XT];exact hci,?_⟩;rw[List.getElem_append_right (gi _)];simpa using Nx
   ·intro b hb;have tM:b.toNat<nx.toNat:=by rcases hb with rfl|rfl|rfl|rfl<;>omega
    have h1:=A.sep b hb;have hm:=aEx b hb tM;refine⟨h1.1,h1.2.1,fun e=>hm (.inr (.inr (.inr (.inl e)))),fun e he ho=>hm (.inr (.inr (.inr (.inr (.inl ⟨e,he,ho⟩))))),fun e=>?_⟩;rcases hoS b e with h2|h2
    ·exact h1.2.2.2.2 h2
    ·omega
   ·rw[show 1025-(i+1)=1024-i by omega];exact aNu
   ·intro y hy;rcases hsp.2.2.2.2 y hy with h1|h1
    ·exact A.ok y h1
    ·obtain⟨z,hz,rfl⟩:=M4.1 h1;exact WK S hi C3 (A.ok _ K8) z hz
   ·refine D'.keep (by omega) fun b hb hg=>?_;rw[k5 b hb (by rintro rfl;rw[A'.R.wa]at hg;cases hg) (fun e=>by rcases B'.G.ct e with⟨_,_,h1⟩|h1<;>rw[hg]at h1<;>cases h1) (fun e=>by rcases A'.G6.ct e with⟨_,_,h1⟩|h1<;>rw[hg]at h1<;>cases h1)];exact hg
   ·refine⟨by omega,fun b hb=>?_⟩;have hbM:¬kG br bm nx oC none E b:=fun hm=>by have:=EX.ge' hm;omega
    rw[k5 b (by omega) (fun e=>by have:=A.R.bb.2.1;rw[←e]at this;omega) (fun e=>by have:=(A.B.ap b e).2.2.2.2.2;omega) (fun e=>by have:=(A'.o6 b e).2.2.2.2;omega),IV b (by omega) hbM];exact A.e.g b hb
 ·have Nb:i=l.length:=by have:=A.il;omega
  subst Nb;have Iu:=A.bf;rw[atE (by omega)]at Iu;simp[↓hR.ln,jG,A.g4,A.g5,A.v4,A.R.wa];refine mh _ _ _ _ l cC cS oC oS E cs {A with g0:=?_,g2:=?_,g3:=?_,g4:=?_,g5:=?_} Iu.symm
  ·simp[A.g0]
  ·simp[A.g2]
  ·simp[A.g3]
  ·simp[A.g4]
  ·simp[A.g5]
end Ln
namespace Ln
open Go.Sx Go
structure ExG(X:Kn)(mi:Nat)(os:List Op)(n0:Key)(l:List (Cf St))(br:Key)(cC cS:AV)(cs:List AV)(h:T ai)(nx:Key):Prop where
 R:∃bm oC E,Vq n0 l br bm cC cS oC E h nx
 B:∃oS,Gr 1 cS cs cs.length h nx oS
 zD:∀y∈cs,FJ y∧y.aQ=true
 csl:cs.length=l.length
 row:∀q (hq:q<cs.length),∃c,l[q]?=some c∧qf 2 eT cs[q] (rowOf (ba X mi os) l c)
def ExR(X:Kn)(mi:Nat)(os:List Op)(c0:Cf St)(h:T ai)(nx:Key)(o:Out)(h':T ai)(nx':Key):Prop:=Ext h nx h' nx'∧
 ((WL (ba X mi os) 1025 0 [c0]=none∧o=.ret (.tuple [.nilp,I 4]))∨
  ∃l br cC cS cs,WL (ba X mi os) 1025 0 [c0]=some l∧o=.ret (.tuple [.ptr br 0,I 0])∧Kept (ba X mi os) l.length l∧l[0]?=some c0∧(∀x∈l,kx mi x.2)∧ExG X mi os nx l br cC cS cs h' nx')
theorem apo{r2 r3 n0:Key}{v2 v3:AV}{ds:List Key}{tm:T AV}{h:T ai}{nx':Key}{R:Out→T ai→Key→Prop}(g2:ag (K 2) tm=some (.ptr r2 0))(g3:ag (K 3) tm=some (.ptr r3 0))(w2:ag r2 h=Qz [v2])(w3:ag r3 h=Qz [v3])(z2:∀H,aO 9999 v2 H=(v2,H))(z3:∀H,aO 9999 v3 H=(v3,H))(D:mG n0 ds h nx')(hR:∀h2:T ai,(∀b,b∉ds→ag b h2=ag b h)→R (.ret (.tuple [v2,v3])) h2 nx') :
  apq [.cell (K 2) false 1,.cell (K 3) false 1] R .ret ds tm h nx':=by
 refine⟨D.nodup,D.get,fun h2 h3=>?_⟩;have n2:r2∉ds:=fun hm=>by have:=D.get r2 hm;rw[w2]at this;cases this
 have n3:r3∉ds:=fun hm=>by have:=D.get r3 hm;rw[w3]at this;cases this
 have b2:ag r2 h2=Qz [v2]:=by rw[h3 r2 n2];exact w2
 have b3:ag r3 h2=Qz [v3]:=by rw[h3 r3 n3];exact w3
 have hz:aY (aO 9999) [v2,v3] h2=([v2,v3],h2):=by simp only[aY,z2,z3]
 refine⟨[v2,v3],by simp[g2,g3,b2,b3],?_⟩;rw[hz];exact hR h2 h3
theorem aDN{n0:Key}{ds:List Key}{h:T ai}{nx b:Key}(D:mG n0 ds h nx)(hb:(∃l k,ag b h=some (.cells l k))∨ag b h=some .tok∨∃l,ag b h=some (.map l)):b∉ds:=fun hm=>by have:=D.get b hm;rcases hb with⟨_,_,e⟩|e|⟨_,e⟩<;>rw[this]at e<;>cases e
variable{C:bH}{X:Kn}(S:Std C X)(H:Na C)
include S H
theorem aep{mi:Nat}(hi:mi<3){os:List Op}(C3:yv mi os=0)(wc:∀o∈os,before o o=false)(ho:os.length≤16){cO:AV}(hcO:qf 10 eO cO os){h:T ai}{nx bj:Key}(vj:ag bj h=Qz (jB X mi cO (aJ mi) (jy os os.length)))(bjn:bj.toNat<nx.toNat) :
  aB C ed [.ptr bj 0] h nx (ExR X mi os (0,aJ mi) h nx):=by
 have rA:=S.r df;have s1:=kTSu nx;have s2:=kTSu nx.succ;have s3:=kTSu nx.succ.succ;have s4:=kTSu nx.succ.succ.succ;have s5:=kTSu nx.succ.succ.succ.succ;refine S.qJ.callV ?_;simp[lI];simp[pQ];simp[pR]
 try simp only[show(AV.int IntKind.i64 (SI.lit 0))=I 0 from rfl]
 obtain⟨br,hbr⟩:∃br,br=nx.succ.succ.succ:=⟨_,rfl⟩;obtain⟨b4,hb4⟩:∃b4,b4=nx.succ.succ.succ.succ:=⟨_,rfl⟩;obtain⟨bm,hbm⟩:∃bm,bm=nx.succ.succ:=⟨_,rfl⟩;obtain⟨r3,hr3⟩:∃r3,r3=nx.succ:=⟨_,rfl⟩;have e1:=((((E0 h nx (.cells [.nilp] .fix)).trans (E0 _ nx.succ (.cells [I 0] .fix))).trans (E0 _ nx.succ.succ (.map []))).trans (E0 _ nx.succ.succ.succ (.cells [.nils,.nils,.map nx.succ.succ] .fix))).trans (E0 _ nx.succ.succ.succ.succ (.cells [.ptr nx.succ.succ.succ 0] .fix));have q4:ag b4 (au nx.succ.succ.succ.succ (Qz [.ptr nx.succ.succ.succ 0]) (au nx.succ.succ.succ (Qz [.nils,.nils,.map nx.succ.succ]) (au nx.succ.succ (some (.map [])) (au nx.succ (Qz [I 0]) (au nx (Qz [.nilp]) h)))))=Qz [.ptr br 0]:=by rw[hb4,hbr];simp
 have qr:ag br (au nx.succ.succ.succ.succ (Qz [.ptr nx.succ.succ.succ 0]) (au nx.succ.succ.succ (Qz [.nils,.nils,.map nx.succ.succ]) (au nx.succ.succ (some (.map [])) (au nx.succ (Qz [I 0]) (au nx (Qz [.nilp]) h)))))=Qz [.nils,.nils,.map bm]:=by rw[hbr,hbm,aw (by omega)];simp
 have qm:ag bm (au nx.succ.succ.succ.succ (Qz [.ptr nx.succ.succ.succ 0]) (au nx.succ.succ.succ (Qz [.nils,.nils,.map nx.succ.succ]) (au nx.succ.succ (some (.map [])) (au nx.succ (Qz [I 0]) (au nx (Qz [.nilp]) h)))))=some (.map []):=by rw[hbm,aw (by omega),aw (by omega)];simp
 have q3:ag r3 (au nx.succ.succ.succ.succ (Qz [.ptr nx.succ.succ.succ 0]) (au nx.succ.succ.succ (Qz [.nils,.nils,.map nx.succ.succ]) (au nx.succ.succ (some (.map [])) (au nx.succ (Qz [I 0]) (au nx (Qz [.nilp]) h)))))=Qz [I 0]:=by rw[hr3,aw (by omega),aw (by omega),aw (by omega)];simp
 have q2:ag nx (au nx.succ.succ.succ.succ (Qz [.ptr nx.succ.succ.succ 0]) (au nx.succ.succ.succ (Qz [.nils,.nils,.map nx.succ.succ]) (au nx.succ.succ (some (.map [])) (au nx.succ (Qz [I 0]) (au nx (Qz [.nilp]) h)))))=Qz [.nilp]:=by rw[aw (by omega),aw (by omega),aw (by omega),aw (by omega)];simp
 have n4:b4.toNat=nx.toNat+4:=by rw[hb4];omega
 have nr:br.toNat=nx.toNat+3:=by rw[hbr];omega
 have nm:bm.toNat=nx.toNat+2:=by rw[hbm];omega
 have n3:r3.toNat=nx.toNat+1:=by rw[hr3];omega
 rw[←hb4,←hr3]at *;generalize au b4 _ _=h1 at *;have s6:=kTSu b4;have vj1:ag bj h1=Qz (jB X mi cO (aJ mi) (jy os os.length)):=by rw[e1.g bj bjn];exact vj
 have hj5:List.take 5 (List.drop 5 (jB X mi cO (aJ mi) (jy os os.length)))=eC (0,aJ mi):=rfl;have fu:(jB X mi cO (aJ mi) (jy os os.length)).length=11:=rfl;have aL5:(aJ mi).kids.length≤3:=aao (aiB hi);have R1:Vq nx [] br bm .nils .nils none [] h1 b4.succ:=by refine⟨qr,qm,by omega,by omega,Gr.nil _ _ _,by simp,by simp,by simp,by simp,by simp,by simp,⟨rfl,rfl⟩,⟨fun e=>by rw[e]at nr;omega,by omega,by omega⟩⟩
 simp[pS,q4,vj1,hj5,fu,rA,SQ];refine(amW S H (l:=[]) (by simp) (by simp) (x:=(0,aJ mi)) aL5 (by omega) R1).mono ?_;rintro o h2 aZ ⟨⟨j,cC,oC,E,hj,rfl,R2,how⟩,n2,k2⟩;have Da:fH ([]:List (Cf St)) (0,aJ mi)=[(0,aJ mi)]:=rfl;rw[Da]at R2;simp;simp[pT];have k2':∀b:Key,b.toNat<b4.succ.toNat→b≠br→b≠bm→ag b h2=ag b h1:=fun b hb h1 h2=>k2 b hb h1 h2 (by simp) (by simp);have own:∀b,(oC=some b∨∃e∈E,e.o=some b)→b4.succ.toNat≤b.toNat:=fun b hb=>by
  rcases how b hb with(h1|⟨e,he,_⟩)|h1
  ·cases h1
  ·simp at he
  ·exact h1
 have ne:∀b:Key,b.toNat≠nx.toNat+3→b.toNat≠nx.toNat+2→b≠br∧b≠bm:=fun b h1 h2=>⟨fun e=>h1 (by rw[e];exact nr),fun e=>h2 (by rw[e];exact nm)⟩;have A0:ExA X mi os cO (0,aJ mi) bj b4 nx r3 br bm nx h 0 [(0,aJ mi)] cC .nils oC none E [] [] (au (K 5) (some (I 0)) (au (K 17) (some (I j)) (au (K 4) (some (.ptr b4 0)) (au (K 3) (some (.ptr r3 0)) (au (K 2) (some (.ptr nx 0)) (au (K 0) (some (.ptr bj 0)) .nil)))))) h2 aZ:=by
  refine⟨by simp,by simp,by simp,by simp,by simp,R2,⟨Gr.nil _ _ _,by simp,by simp⟩,rfl,by simp,?_,?_,⟨.nilp,?_⟩,⟨I 0,?_⟩,by omega,?_,fun e=>by rw[←e]at n3;omega,by omega,Kept.start (by omega),rfl,rfl,?_,by simp,mG.nil _ _ _,?_⟩
  ·have h1:=ne b4 (by omega) (by omega);rw[k2' b4 (by omega) h1.1 h1.2];exact q4
  ·have h1:=ne bj (by omega) (by omega);rw[k2' bj (by omega) h1.1 h1.2];exact vj1
  ·have h1:=ne nx (by omega) (by omega);rw[k2' nx (by omega) h1.1 h1.2];exact q2
  ·have h1:=ne r3 (by omega) (by omega);rw[k2' r3 (by omega) h1.1 h1.2];exact q3
  ·intro b hb;have tM:b.toNat<b4.succ.toNat∧b.toNat≠nx.toNat+3∧b.toNat≠nx.toNat+2:=by rcases hb with rfl|rfl|rfl|rfl<;>omega
   have h1:=ne b tM.2.1 tM.2.2;refine⟨h1.1,h1.2,fun e=>by have:=own b (.inl e);omega,fun e he ho=>by have:=own b (.inr ⟨e,he,ho⟩);omega,by simp⟩
  ·intro y hy;simp at hy;subst hy;exact aiB hi
  ·refine⟨by omega,fun b hb=>?_⟩;have h1:=ne b (by omega) (by omega);rw[k2' b (by omega) h1.1 h1.2];exact e1.g b hb
 refine atc S H hi C3 wc ho hcO (c0:=(0,aJ mi)) (bj:=bj) (b4:=b4) (r2:=nx) (r3:=r3) (br:=br) (bm:=bm) (n0:=nx) (h0:=h) (m:=1024) ⟨0,[(0,aJ mi)],cC,.nils,oC,none,E,[],rfl,{A0 with g0:=?_,g2:=?_,g3:=?_,g4:=?_,g5:=?_}⟩ ?_ ?_
 ·simp
 ·simp
 ·simp
 ·simp
 ·simp
 ·intro ds aA h' nx' g2 g3 w2 w3 hb D e;refine apo g2 g3 w2 w3 (fun _=>rfl) (fun _=>rfl) D fun h2 h3=>?_;refine⟨⟨e.n,fun b tM=>?_⟩,.inl ⟨hb,rfl⟩⟩;rw[h3 b (fun hm=>by have:=D.ge b hm;omega)];exact e.g b tM
 ·intro ds aA h' nx' l cC cS oC oS E cs A hb;obtain⟨u2,w2⟩:=A.w2;obtain⟨u3,w3⟩:=A.w3;have r23:=A.r23;have w33:∀B,ag r3 (au nx B h')=Qz [u3]:=fun B=>by rw[aD _ _ _ _ (Ne.symm r23)];exact w3
  simp;simp[oG,A.g2,A.g3,A.g4,A.v4,w2,w33];have k5:∀b:Key,b≠nx→b≠r3→ag b (au r3 (Qz [I 0]) (au nx (Qz [.ptr br 0]) h'))=ag b h':=fun b h1 h2=>by rw[aD _ _ _ _ h2,aD _ _ _ _ h1]
  have z2:ag nx (au r3 (Qz [I 0]) (au nx (Qz [.ptr br 0]) h'))=Qz [.ptr br 0]:=by rw[aD _ _ _ _ r23];simp
  have z3:ag r3 (au r3 (Qz [I 0]) (au nx (Qz [.ptr br 0]) h'))=Qz [I 0]:=by simp
  have D5:mG nx ds (au r3 (Qz [I 0]) (au nx (Qz [.ptr br 0]) h')) nx':=A.d.keep (gi _) fun b _ hg=>by rw[k5 b (by rintro rfl;rw[w2]at hg;cases hg) (by rintro rfl;rw[w3]at hg;cases hg)];exact hg
  generalize au r3 (Qz [I 0]) (au nx (Qz [.ptr br 0]) h')=h5 at *;refine apo (by simp[A.g2]) (by simp[A.g3]) z2 z3 (fun _=>rfl) (fun _=>rfl) D5 fun h2 h3=>?_;have keep:∀b:Key,((∃l k,ag b h'=some (.cells l k))∨ag b h'=some .tok∨∃l,ag b h'=some (.map l))→b≠nx→b≠r3→ag b h2=ag b h':=fun b hb h1 h4=>by have h6:=k5 b h1 h4;rw[h3 b (aDN D5 (by rw[h6];exact hb)),h6]
  have apr:=A.sep nx (.inr (.inr (.inl rfl)));have aps:=A.sep r3 (.inr (.inr (.inr rfl)));refine⟨⟨A.e.n,fun b tM=>?_⟩,.inr ⟨l,br,cC,cS,cs,hb,rfl,A.kp,A.fst,A.ok,⟨⟨bm,oC,E,A.R.keep (gi _) fun b hb=>?_⟩,⟨oS,A.B.G.keep (gi _) fun b hb=>?_⟩,A.B.zD,A.csl,A.row⟩⟩⟩
  ·rw[h3 b (fun hm=>by have:=D5.ge b hm;omega),k5 b (fun e=>by rw[e]at tM;omega) (fun e=>by rw[e]at tM;omega)];exact A.e.g b tM
  ·rcases hb with rfl|rfl|hb|⟨e,he,hb⟩
   ·exact keep _ (.inl ⟨_,_,A.R.wa⟩) (Ne.symm apr.1) (Ne.symm aps.1)
   ·exact keep _ (.inr (.inr ⟨_,A.R.map⟩)) (Ne.symm apr.2.1) (Ne.symm aps.2.1)
   ·refine keep b ?_ (fun e=>apr.2.2.1 (by rw[←e];exact hb)) (fun e=>aps.2.2.1 (by rw[←e];exact hb));rcases A.R.C.ct hb with h1|h1
    ·exact .inl h1
    ·exact .inr (.inl h1)
   ·refine keep b ?_ (fun e'=>apr.2.2.2.1 e he (by rw[←e'];exact hb)) (fun e'=>aps.2.2.2.1 e he (by rw[←e'];exact hb));rcases (A.R.B e he).ct hb with h1|h1
    ·exact .inl h1
    ·exact .inr (.inl h1)
  ·refine keep b ?_ (fun e=>apr.2.2.2.2 (by rw[←e];exact hb)) (fun e=>aps.2.2.2.2 (by rw[←e];exact hb));rcases A.B.G.ct hb with h1|h1
   ·exact .inl h1
   ·exact .inr (.inl h1)
end Ln
namespace Ln
open Go.Sx Go
def fJ(l:List Bool):List AV:=l.map fun b=>.bool b
theorem H8(l:List Bool):(fJ l).length=l.length:=List.length_map ..
theorem H9{l:List Bool}{i:Nat}(h:i<l.length):(fJ l)[i]?=some (.bool l[i]):=by unfold fJ;rw[List.getElem?_map,zC h];rfl
theorem WU{l:List Bool}{i:Nat}(h:i<l.length)(v:Bool):List.take i (fJ l) ++ .bool v ::List.drop (i+1) (fJ l)=fJ (l.set i v):=by unfold fJ;rw[List.map_set,List.set_eq_take_append_cons_drop,if_pos (by rw[List.length_map];exact h)]
def I9(base:List Bool)(row:List (Nat×Nat)):Bool:=row.any fun t=>base.getD t.2 false
def GdI(row:List (Nat×Nat))(base:List Bool)(p:Nat)(v0:Bool)(c77:AV)(b14 bg:Key)(h:T ai)(nx:Key)(P:T AV→Prop)(m:Nat)(aA:T AV)(h':T ai)(nx':Key):Prop:=∃j:Nat,m=row.length-j∧j≤row.length∧P aA∧ag (K 14) aA=some (.ptr b14 0)∧ag (K 15) aA=some (I (p:Int))∧ag (K 77) aA=some c77∧ag (K 78) aA=some (I row.length)∧ag (K 79) aA=some (I j)∧ag bg h'=Qz (fJ (base.set p (v0||I9 base (row.take j))))∧nx.toNat≤nx'.toNat∧∀b:Key,b.toNat<nx.toNat→b≠bg→ag b h'=ag b h
variable{C:bH}{X:Kn}(S:Std C X)(H:Na C)
theorem awO{row:List (Nat×Nat)}{c77:AV}(Nx:qf 2 eT c77 row)(hrl:row.length≤1000){base:List Bool}{p:Nat}(hp:p<base.length)(Ny:base.length≤1024)(hto:∀t∈row,p<t.2∧t.2<base.length){v0:Bool}{b14 bg:Key}{h:T ai}{nx:Key}(v14:ag b14 h=Qz [.slice bg 0 base.length 1])(ad9:b14.toNat<nx.toNat)(bgn:bg.toNat<nx.toNat)(bne:b14≠bg){P:T AV→Prop}(hP:∀tm k v,P tm→(k=K 17∨k=K 79∨(80≤k.toNat∧k.toNat≤97))→P (au k v tm)){Q:cJ}{m:Nat}{tm:T AV}{h1:T ai}{bW:Key}(A:GdI row base p v0 c77 b14 bg h nx P m tm h1 bW)
  (mh:∀aA h' nx',P aA→ag (K 15) aA=some (I (p:Int))→ag (K 14) aA=some (.ptr b14 0)→ag bg h'=Qz (fJ (base.set p (v0||I9 base row)))→nx.toNat≤nx'.toNat→(∀b:Key,b.toNat<nx.toNat→b≠bg→ag b h'=ag b h)→Q .norm aA h' nx') :
  W C (.loop yA) (aP 2 Q) tm h1 bW:=by
 refine W.iM (GdI row base p v0 c77 b14 bg h nx P) A ?_;rintro m gh h2 aZ ⟨j,rfl,hj,hPt,g14,g15,g77,g78,g79,vg,hn,hf⟩;refine W.of ?_;simp[yA];by_cases fu:j<row.length
 ·have PF:(j:Int)<row.length:=by omega
  have hR:=Nx.rd h2 aZ;have s2:=kTSu aZ;have arl:ag b14 h2=Qz [.slice bg 0 base.length 1]:=by rw[hf b14 ad9 bne];exact v14
  obtain⟨ht1,ht2⟩:=hto _ (UG fu);have WT:I9 base (row.take (j+1))=(I9 base (row.take j)||base.getD row[j].2 false):=by unfold I9;rw[zqu fu,List.any_append];simp
  have hce:(eT row[j]).all AV.aQ=true:=xM.2 (iB.cell _);have hle:(eT row[j]).length=2:=rfl;have he1:(eT row[j])[1]?=some (I (row[j].2:Int)):=rfl;simp[wu,g78,g79,PF];simp only[DJ,kj,lY,lZ,kl,l7,km,l8,l9,kn,ko,ma,mb,mc,me];simp[↓hR.ix iB fu,g77,g79,hce,hle];generalize row[j]=t at *;generalize hv:(v0||I9 base (row.take j))=vj at *;have e3:=E0 h2 aZ (.cells (eT t) .fix);have v17:ag aZ (au aZ (Qz (eT t)) h2)=Qz (eT t):=by simp
  have v143:ag b14 (au aZ (Qz (eT t)) h2)=Qz [.slice bg 0 base.length 1]:=by rw[e3.g b14 (by omega)];exact arl
  have vg3:ag bg (au aZ (Qz (eT t)) h2)=Qz (fJ (base.set p vj)):=by rw[e3.g bg (by omega)];exact vg
  have k3:∀b:Key,b.toNat<nx.toNat→b≠bg→ag b (au aZ (Qz (eT t)) h2)=ag b h:=fun b hb cp=>by rw[e3.g b (by omega)];exact hf b hb cp
  generalize au aZ (Qz (eT t)) h2=h3 at *;have hls:(base.set p vj).length=base.length:=List.length_set;have arp:(fJ (base.set p vj)).length=base.length:=by rw[H8,hls]
  have hgp:(fJ (base.set p vj))[p]?=some (.bool vj):=by rw[H9 (by rw[hls];exact hp)];simp
  have OP:(fJ (base.set p vj))[t.2]?=some (.bool (base.getD t.2 false)):=by rw[H9 (by rw[hls];exact ht2),List.getElem_set_ne (by omega),List.getD_eq_getElem?_getD,zC ht2];rfl
  have arq:∀hh,(fJ (base.set p vj))[p]'hh=.bool vj:=fun hh=>by rw[zC hh]at hgp;exact Option.some.inj hgp
  have awR:∀hh,(fJ (base.set p vj))[t.2]'hh=.bool (base.getD t.2 false):=fun hh=>by rw[zC hh]at OP;exact Option.some.inj OP
  have PS:=fun v=>WU (l:=base.set p vj) (i:=p) (by rw[hls];exact hp) v;simp only[List.set_set]at PS;have h1p:p+1≤base.length:=hp;have fin:∀cE:T AV,P cE→ag (K 14) cE=some (.ptr b14 0)→ag (K 15) cE=some (I (p:Int))→ag (K 77) cE=some c77→ag (K 78) cE=some (I row.length)→ag (K 79) cE=some (I j)→
    qg C (bO (fun tm h_1 aHe=>∃m,m<row.length-j∧GdI row base p v0 c77 b14 bg h nx P m tm h_1 aHe) (aP 2 Q)) wv cE (au bg (Qz (fJ (base.set p (vj||base.getD t.2 false)))) h3) aZ.succ:=by
   intro cE hP2 q14 q15 q77 q78 q79;simp[-List.getD_eq_getElem?_getD,wv,q79];rw[aS (by omega) (by omega)];refine⟨row.length-(j+1),by omega,j+1,rfl,by omega,hP _ _ _ (hP _ _ _ hP2 (.inr (.inr ⟨by decide,by decide⟩))) (.inr (.inl rfl)),by simp[q14],by simp[q15],by simp[q77],by simp[q78],by simp,?_,by omega,fun b hb cp=>by rw[aD _ _ _ _ cp];exact k3 b hb cp⟩;rw[gTSm,WT,←Bool.or_assoc,hv]
  cases hvj:vj with
  |true=>
   rw[hvj]at vg3 arp arq awR PS hls fin;have hpt:=PS true;simp only[Bool.true_or]at fin;simp[wx,g14,g15,v143,vg3,hp,arq,arp,h1p,hpt];refine fin _ ?_ ?_ ?_ ?_ ?_ ?_
   ·repeat' (first|exact hPt|refine hP _ _ _ ?_ (by first|exact .inl rfl|exact .inr (.inl rfl)|exact .inr (.inr ⟨by decide,by decide⟩)))
   ·simp[g14]
   ·simp[g15]
   ·simp[g77]
   ·simp[g78]
   ·simp[g79]
  |false=>
   rw[hvj]at vg3 arp arq awR PS hls fin;have hpt:=PS (base.getD t.2 false);simp only[Bool.false_or]at fin;simp[-List.getD_eq_getElem?_getD,wx,g14,g15,v143,v17,vg3,hp,arq,awR,ht2,he1,arp,h1p,hpt];refine fin _ ?_ ?_ ?_ ?_ ?_ ?_
   ·repeat' (first|exact hPt|refine hP _ _ _ ?_ (by first|exact .inl rfl|exact .inr (.inl rfl)|exact .inr (.inr ⟨by decide,by decide⟩)))
   ·simp[g14]
   ·simp[g15]
   ·simp[g77]
   ·simp[g78]
   ·simp[g79]
 ·have PC:j=row.length:=by omega
  subst PC;rw[List.take_length]at vg;simp[wu,g78,g79];refine mh _ _ _ (hP _ _ _ hPt (.inr (.inr ⟨by decide,by decide⟩))) (by simp[g15]) (by simp[g14]) vg hn hf
end Ln
namespace Go.Sx
theorem Rd.ix1{c:AV}{cs:List AV}{h:T ai}{nx:Key}(g:Rd 1 c cs cs.length h nx){i:Nat}(hi:i<cs.length){C:bH}{Q:cJ}{L:List ay}{tm:T AV}{n2 k1 k2 d1 d2:Key}(h1:ag k1 tm=some c)(h2:ag k2 tm=some (I i)) :
  qg C Q (⟨some d1,.indexL 1 (.t k1) (.t k2),none⟩ ::⟨some d2,.load false 1 (.t d1),none⟩ ::L) tm h n2=qg C Q L (au d2 (some cs[i]) (au d1 (some (IB 1 i c)) tm)) h n2:=by
 have tx:1≤cs.length-i:=by omega
 have hx:cs[i]?=some cs[i]:=zC hi;have hd:List.take 1 (List.drop i cs)=[cs[i]]:=by rw[zqt hi];rfl
 rcases g with⟨_,_,e⟩|⟨f,rfl⟩|⟨b,k,rfl,hb,_,_⟩
 ·omega
 ·simp[h1,h2,hi,tx,hx,hd,IB]
 ·simp[h1,h2,hi,tx,hx,hd,IB,hb]
end Go.Sx
namespace Ln
open Go.Sx Go
noncomputable def jT(S:Sys St)(l:List (Cf St))(q:Nat):Bool:=match l[q]? with|some c=>ry S c|none=>false
noncomputable def dg(S:Sys St)(l:List (Cf St))(a:Nat):List Bool:=(List.range l.length).map fun q=>decide (a≤q)&&jT S l q
theorem qD(S:Sys St)(l:List (Cf St))(a:Nat):(dg S l a).length=l.length:=by simp[dg]
theorem NC{S:Sys St}{l:List (Cf St)}{a q:Nat}(hq:q<l.length):(dg S l a).getD q false=(decide (a≤q)&&jT S l q):=by unfold dg;rw[List.getD_eq_getElem?_getD,List.getElem?_map,List.getElem?_range hq];rfl
theorem aen(S:Sys St)(l:List (Cf St)):dg S l l.length=List.replicate l.length false:=by refine List.ext_getElem (by simp[dg]) fun q h1 h2=>?_;simp[dg]at h1 ⊢;intro hle;omega
theorem ael{S:Sys St}{l:List (Cf St)}{p:Nat}(hp:p<l.length):dg S l p=(dg S l (p+1)).set p (jT S l p):=by
 refine List.ext_getElem (by simp[dg]) fun q h1 h2=>?_;rw[List.getElem_set];by_cases e:p=q
 ·subst e;rw[if_pos rfl];simp[dg]
 ·rw[if_neg e];simp[dg];have:p≤q↔p+1≤q:=by omega
  simp[this]
theorem aaQ{S:Sys St}(hS:S.Ok){l:List (Cf St)}(hk:Kept S l.length l){p:Nat}(hp:p<l.length):(∀t∈rowOf S l l[p],p<t.2∧t.2<l.length)∧(S.acc l[p].1||I9 (dg S l (p+1)) (rowOf S l l[p]))=jT S l p:=by
 have hcp:l[p]?=some l[p]:=zC hp;have Th:∀x∈S.steps l[p],x.2∈l:=hk.done p l[p] hp hcp;have hup:∀x∈S.steps l[p],p<l.idxOf x.2∧l.idxOf x.2<l.length:=fun x hx=>by obtain⟨q,c'⟩:=x;exact⟨hk.up hS hcp (Il (Th _ hx)) hx,List.idxOf_lt_length_of_mem (Th _ hx)⟩
 refine⟨fun t ht=>?_,?_⟩
 ·obtain⟨x,hx,rfl⟩:=M4.1 ht;exact hup x hx
 ·have hgp:jT S l p=ry S l[p]:=by unfold jT;rw[hcp]
  rw[hgp,adf];congr 1;unfold I9 rowOf;rw[List.any_map];rw[Bool.eq_iff_iff,List.any_eq_true,List.any_eq_true];have key:∀x∈S.steps l[p],((fun t:Nat×Nat=>(dg S l (p+1)).getD t.2 false) ∘ fun x:Nat×Cf St=>(x.1,l.idxOf x.2)) x=ry S x.2:=fun x hx=>by
   obtain⟨h1,h2⟩:=hup x hx;show(dg S l (p+1)).getD (l.idxOf x.2) false=_;rw[NC h2];have h3:jT S l (l.idxOf x.2)=ry S x.2:=by unfold jT;rw[Il (Th x hx)]
   rw[h3,decide_eq_true (by omega),Bool.true_and]
  constructor
  ·rintro⟨x,hx,h⟩;exact⟨x,hx,by rw[key x hx]at h;exact h⟩
  ·rintro⟨x,hx,h⟩;exact⟨x,hx,by rw[key x hx];exact h⟩
def Kpt(tm0 tm:T AV):Prop:=∀k,(k=K 8∨k=K 9∨k=K 10∨k=K 11∨k=K 12∨k=K 13)→ag k tm=ag k tm0
theorem Kpt.refl(tm:T AV):Kpt tm tm:=fun _ _=>rfl
theorem Kpt.set{tm0 tm:T AV}(h:Kpt tm0 tm){k:Key}{v:Option AV}(hk:14≤k.toNat):Kpt tm0 (au k v tm):=fun k' Ib=>by
 have h8:(K 8).toNat=8:=by decide
 have h9:(K 9).toNat=9:=by decide
 have h10:(K 10).toNat=10:=by decide
 have h11:(K 11).toNat=11:=by decide
 have h12:(K 12).toNat=12:=by decide
 have h13:(K 13).toNat=13:=by decide
 rw[aD]
 ·exact h k' Ib
 ·rintro rfl;rcases Ib with rfl|rfl|rfl|rfl|rfl|rfl<;>omega
structure FdH(X:Kn)(mi:Nat)(os:List Op)(cO:AV)(l:List (Cf St))(bj br bm:Key)(cC cS:AV)(cs:List AV)(h:T ai)(nx:Key):Prop where
 vj:ag bj h=Qz (jB X mi cO (aJ mi) (jy os os.length))
 vr:ag br h=Qz [cC,cS,.map bm]
 C:Rd 5 cC (ak eC l) l.length h nx
 S:Rd 1 cS cs cs.length h nx
 lt:bj.toNat<nx.toNat∧br.toNat<nx.toNat
 csl:cs.length=l.length
 row:∀q (hq:q<cs.length),∃c,l[q]?=some c∧qf 2 eT cs[q] (rowOf (ba X mi os) l c)
theorem FdH.ext{X:Kn}{mi:Nat}{os:List Op}{cO:AV}{l:List (Cf St)}{bj br bm:Key}{cC cS:AV}{cs:List AV}{h h':T ai}{nx nx':Key}(F:FdH X mi os cO l bj br bm cC cS cs h nx)(e:Ext h nx h' nx'):FdH X mi os cO l bj br bm cC cS cs h' nx':=
 ⟨by rw[e.g _ F.lt.1];exact F.vj,by rw[e.g _ F.lt.2];exact F.vr,F.C.ext e,F.S.ext e,by have:=F.lt;have:=e.n;omega,F.csl,F.row⟩
def GvI(X:Kn)(mi:Nat)(os:List Op)(l:List (Cf St))(bj br b14 bg:Key)(h0:T ai)(nx0:Key)(tm0:T AV)(m:Nat)(aA:T AV)(h':T ai)(nx':Key):Prop:=∃a:Nat,m=a∧a≤l.length∧Kpt tm0 aA∧ag (K 11) aA=some (.ptr bj 0)∧ag (K 13) aA=some (.ptr br 0)∧ag (K 14) aA=some (.ptr b14 0)∧ag (K 15) aA=some (I ((a:Int)-1))∧
 ag b14 h'=Qz [.slice bg 0 l.length 1]∧ag bg h'=Qz (fJ (dg (ba X mi os) l a))∧b14.toNat<nx'.toNat∧bg.toNat<nx'.toNat∧Ext h0 nx0 h' nx'
variable{C:bH}{X:Kn}(S:Std C X)(H:Na C)
include S
theorem aji{mi:Nat}{os:List Op}(ho:os.length≤16){cO:AV}{l:List (Cf St)}(hk:Kept (ba X mi os) l.length l){bj br bm b14 bg:Key}{cC cS:AV}{cs:List AV}{h0:T ai}{nx0:Key}(F:FdH X mi os cO l bj br bm cC cS cs h0 nx0)(ge:nx0.toNat≤b14.toNat∧nx0.toNat≤bg.toNat)(bne:b14≠bg){tm0:T AV}{Q:cJ}{m:Nat}{tm:T AV}{h1:T ai}{bW:Key}(A:GvI X mi os l bj br b14 bg h0 nx0 tm0 m tm h1 bW)
  (mh:∀aA h' nx',Kpt tm0 aA→ag (K 11) aA=some (.ptr bj 0)→ag (K 13) aA=some (.ptr br 0)→ag (K 14) aA=some (.ptr b14 0)→ag b14 h'=Qz [.slice bg 0 l.length 1]→ag bg h'=Qz (fJ (dg (ba X mi os) l 0))→b14.toNat<nx'.toNat→bg.toNat<nx'.toNat→Ext h0 nx0 h' nx'→Q .norm aA h' nx') :
  W C (.loop yH) (aP 0 Q) tm h1 bW:=by
 have rA:=S.r cu;have hSo:=QP X mi os;have hl:=hk.len;refine W.iM (GvI X mi os l bj br b14 bg h0 nx0 tm0) A ?_;rintro m gh h nx ⟨a,rfl,ha,hKp,g11,g13,g14,g15,v14,vg,ad9,bgn,e0⟩;refine W.of ?_;simp[yH];cases m with
 |zero=>
  have aCg:((0:Nat):Int)-1<0:=by omega
  simp at g15;simp[yI,g15];exact mh _ _ _ ((hKp.set (by decide)).set (by decide)) (by simp[g11]) (by simp[g13]) (by simp[g14]) v14 vg ad9 bgn e0
 |succ p=>
  have hp:p<l.length:=by omega
  have amX:ag (K 15) gh=some (I (p:Int)):=by
   rw[g15];have:((p+1:Nat):Int)-1=(p:Int):=by omega
   rw[this]
  have F1:=F.ext e0;obtain⟨hto,aw0⟩:=aaQ hSo hk hp;have dn:=hk.lt _ (UG hp);have hd:l[p].1<65536:=Ou dn (yJ ho);have hpc:p<cs.length:=by rw[F.csl];exact hp
  obtain⟨c,hc1,Nx⟩:=F.row p hpc;have hcp:c=l[p]:=by rw[zC hp]at hc1;exact(Option.some.inj hc1).symm
  subst hcp;have hnn:¬(p:Int)<0:=by omega
  simp[yI,amX,hnn];simp[↓Rd.aCh xc F1.C hp,DM,g11,g13,g14,amX,v14,F1.vr,rA,SQ];refine(ahG S ho hd F1.vj F1.lt.1).mono ?_;rintro o h2 aZ ⟨rfl,e2⟩;have n2:=e2.n;have arl:ag b14 h2=Qz [.slice bg 0 l.length 1]:=by rw[e2.g _ ad9];exact v14
  have vg2:ag bg h2=Qz (fJ (dg (ba X mi os) l (p+1))):=by rw[e2.g _ bgn];exact vg
  have sq:AV.beq (.slice bg 0 l.length 1) (.slice bg 0 l.length 1)=true:=beq_refl _ rfl;have Ny:(fJ (dg (ba X mi os) l (p+1))).length=l.length:=by rw[H8,qD]
  have h1p:p+1≤l.length:=hp;have PS:=WU (l:=dg (ba X mi os) l (p+1)) (i:=p) (by rw[qD];exact hp) (ER os l[p].1);have e02:=e0.trans e2;have F2:=F.ext e02;simp[g14,amX,arl,vg2,sq,hp,Ny,h1p,PS];have e3:Ext h0 nx0 (au bg (Qz (fJ ((dg (ba X mi os) l (p+1)).set p (ER os l[p].1)))) h2) aZ:=e02.put ge.2;have v143:ag b14 (au bg (Qz (fJ ((dg (ba X mi os) l (p+1)).set p (ER os l[p].1)))) h2)=Qz [.slice bg 0 (dg (ba X mi os) l (p+1)).length 1]:=by rw[aD _ _ _ _ bne,qD];exact arl
  have vg3:ag bg (au bg (Qz (fJ ((dg (ba X mi os) l (p+1)).set p (ER os l[p].1)))) h2)=Qz (fJ ((dg (ba X mi os) l (p+1)).set p (ER os l[p].1))):=by simp
  generalize au bg (Qz (fJ ((dg (ba X mi os) l (p+1)).set p (ER os l[p].1)))) h2=h3 at *;have F3:=F.ext e3;have hR3:=Nx.rd h3 aZ;have amY:(rowOf (ba X mi os) l l[p]).length≤1000:=by unfold rowOf Sys.steps;rw[List.length_map];have:=List.length_filterMap_le ((ba X mi os).step l[p]) (List.range (ba X mi os).n);rw[List.length_range]at this;have hn:(ba X mi os).n=os.length:=rfl;omega
  have hg0:(dg (ba X mi os) l (p+1)).length=l.length:=qD _ _ _;simp[↓F3.S.ix1 hpc,↓hR3.ln,DN,g13,amX,F3.vr];refine awO (C:=C) Nx amY (base:=dg (ba X mi os) l (p+1)) (p:=p) (by rw[hg0];exact hp) (by rw[hg0];exact hl) (fun t ht=>by rw[hg0];exact hto t ht) (v0:=ER os l[p].1) (b14:=b14) (bg:=bg) (h:=h3) (nx:=aZ) v143 (by omega) (by omega) bne (P:=fun tm=>Kpt tm0 tm∧ag (K 11) tm=some (.ptr bj 0)∧ag (K 13) tm=some (.ptr br 0)) ?_ (m:=(rowOf (ba X mi os) l l[p]).length) ⟨0,by simp,by omega,⟨?_,by simp[g11],by simp[g13]⟩,by simp[g14],by simp[amX],by simp,by simp,by simp,?_,gi _,fun _ _ _=>rfl⟩ ?_
  ·rintro tm k v ⟨h1,h2,h3⟩ Ib;have MR:14≤k.toNat:=by
    have h17:(K 17).toNat=17:=by decide
    have h79:(K 79).toNat=79:=by decide
    rcases Ib with rfl|rfl|h<;>omega
   have h11:(K 11).toNat=11:=by decide
   have h13:(K 13).toNat=13:=by decide
   have n11:(K 11)≠k:=fun e=>by rw[e]at h11;omega
   have n13:(K 13)≠k:=fun e=>by rw[e]at h13;omega
   exact⟨h1.set MR,by rw[aD _ _ _ _ n11];exact h2,by rw[aD _ _ _ _ n13];exact h3⟩
  ·repeat' (first|exact hKp|refine Kpt.set ?_ (by decide))
  ·have:I9 (dg (ba X mi os) l (p+1)) (List.take 0 (rowOf (ba X mi os) l l[p]))=false:=by rw[List.take_zero];rfl
   rw[this,Bool.or_false];exact vg3
  ·rintro aA h' nx' ⟨q,q11,q13⟩ q15 q14 vg' hn' hf';have hga:(ER os l[p].1||I9 (dg (ba X mi os) l (p+1)) (rowOf (ba X mi os) l l[p]))=jT (ba X mi os) l p:=aw0;rw[hga,←ael hp]at vg';simp;simp[DO,q15];rw[aS (by omega) (by omega)];refine⟨p,by omega,p,rfl,by omega,?_,by simp[q11],by simp[q13],by simp[q14],by simp,by rw[hf' b14 (by omega) bne];rw[←hg0];exact v143,vg',by omega,by omega,⟨by have:=e3.n;omega,fun b hb=>?_⟩⟩
   ·repeat' (first|exact q|refine Kpt.set ?_ (by decide))
   ·have:=e3.n;have g1:=ge.1;have g2:=ge.2;rw[hf' b (by omega) (fun e=>by rw[e]at hb;omega)];exact e3.g b hb
end Ln
namespace Ln
open Go.Sx Go
def GdB(b14 bg:Key)(gv:List Bool)(h:T ai)(nx:Key):Prop:=ag b14 h=Qz [.slice bg 0 gv.length 1]∧ag bg h=Qz (fJ gv)∧b14.toNat<nx.toNat∧bg.toNat<nx.toNat
theorem GdB.ext{b14 bg:Key}{gv:List Bool}{h h':T ai}{nx nx':Key}(g:GdB b14 bg gv h nx)(e:Ext h nx h' nx'):GdB b14 bg gv h' nx':=⟨by rw[e.g _ g.2.2.1];exact g.1,by rw[e.g _ g.2.2.2];exact g.2.1,by have:=g.2.2.1;have:=e.n;omega,by have:=g.2.2.2;have:=e.n;omega⟩
variable{C:bH}{X:Kn}(S:Std C X)
include S
theorem apY{b14 bg:Key}{gv:List Bool}{h:T ai}{nx:Key}(G:GdB b14 bg gv h nx){t:Nat×Nat}(ht:t.2<gv.length):aB C fS [.agg (eT t),.ptr b14 0] h nx (fun o h' nx'=>o=.ret (.bool (gv.getD t.2 false))∧Ext h nx h' nx'):=by
 have s1:=kTSu nx;have hce:(eT t).all AV.aQ=true:=xM.2 (iB.cell _);have hle:(eT t).length=2:=rfl;have he1:(eT t)[1]?=some (I (t.2:Int)):=rfl;refine S.Cn.call ?_;simp[-List.getD_eq_getElem?_getD,y9];simp[-List.getD_eq_getElem?_getD,AZ,hce,hle];have e1:=E0 h nx (.cells (eT t) .fix);have b1:ag nx (au nx (Qz (eT t)) h)=Qz (eT t):=by simp
 generalize au nx (Qz (eT t)) h=h1 at *;obtain⟨g1,g2,_,_⟩:=G.ext e1;have Ny:(fJ gv).length=gv.length:=H8 gv;have OP:∀hh,(fJ gv)[t.2]'hh=.bool (gv.getD t.2 false):=fun hh=>by have:=H9 ht;rw[zC hh]at this;rw[Option.some.inj this,List.getD_eq_getElem?_getD,zC ht];rfl
 simp[-List.getD_eq_getElem?_getD,A5,b1,g1,g2,he1,ht,Ny,OP];exact e1
def aEy(gv:List Bool)(row:List (Nat×Nat))(j:Nat):Prop:=j<row.length∧gv.getD (row.getD j (0,0)).2 false=true∧∀q,q<j→gv.getD (row.getD q (0,0)).2 false=false
def IfI(row:List (Nat×Nat))(gv:List Bool)(c0:AV)(b14:Key)(h:T ai)(nx:Key)(m:Nat)(aA:T AV)(h':T ai)(nx':Key):Prop:=∃j:Nat,m=row.length-j∧j≤row.length∧ag (K 0) aA=some c0∧ag (K 1) aA=some (.fn fS [] [.ptr b14 0])∧ag (K 7) aA=some (I row.length)∧ag (K 8) aA=some (I j)∧Ext h nx h' nx'∧∀q,q<j→gv.getD (row.getD q (0,0)).2 false=false
theorem arH{b14 bg:Key}{gv:List Bool}{h:T ai}{nx:Key}(G:GdB b14 bg gv h nx){row:List (Nat×Nat)}(hrl:row.length≤1000)(hto:∀t∈row,t.2<gv.length)(ana:∃t∈row,gv.getD t.2 false=true){c0:AV}(hc:qf 2 eT c0 row) :
  aB C bu [c0,.fn fS [] [.ptr b14 0]] h nx (fun o h' nx'=>(∃j,aEy gv row j∧o=.ret (I (j:Nat)))∧Ext h nx h' nx'):=by
 have r2:=S.r fS;have hR:=hc.rd h nx;refine S.fm.call ?_;simp[cM];simp[ew];simp[↓hR.ln,eF];refine W.iM (n:=row.length) (IfI row gv c0 b14 h nx) ⟨0,by simp,by omega,by simp,by simp,by simp,by simp,Ext.refl _ _,fun q hq=>absurd hq (by omega)⟩ ?_;rintro m gh h1 bW ⟨j,rfl,hj,g0,g1,g7,g8,e1,BA⟩;refine W.of ?_;simp[eN];by_cases fu:j<row.length
 ·have PF:(j:Int)<row.length:=by omega
  have hR1:=hc.rd h1 bW;have hz:∀H,aY (aO 9998) (eT row[j]) H=(eT row[j],H):=fun H=>bw (iB.zD _);have hgd:row.getD j (0,0)=row[j]:=by rw[List.getD_eq_getElem?_getD,zC fu];rfl
  simp[eG,g7,g8,PF];simp[eH,g8];simp[↓hR1.ix iB fu,eJ,g0,g1,r2,hz];refine(apY S (G.ext e1) (hto _ (UG fu))).mono ?_;rintro o h2 aZ ⟨rfl,e2⟩;cases hg:gv.getD row[j].2 false with
  |true=>simp;simp[eK];exact⟨⟨j,⟨fu,by rw[hgd];exact hg,BA⟩,rfl⟩,e1.trans e2⟩
  |false=>
   simp;simp[eM,g8];rw[aS (by omega) (by omega)];refine⟨row.length-(j+1),by omega,j+1,rfl,by omega,by simp[g0],by simp[g1],by simp[g7],by simp,e1.trans e2,fun q hq=>?_⟩;by_cases e:q=j
   ·subst e;rw[hgd];exact hg
   ·exact BA q (by omega)
 ·exfalso;obtain⟨t,ht,OP⟩:=ana;obtain⟨q,hq,rfl⟩:=List.getElem_of_mem ht;have:=BA q (by omega);rw[List.getD_eq_getElem?_getD (l:=row),zC hq]at this;have h2:gv.getD row[q].2 false=false:=this;rw[OP]at h2;cases h2
end Ln
namespace Ln
open Go.Sx Go
variable{C:bH}{X:Kn}(S:Std C X)
include S
theorem ane{c:Cf St}(hk:c.2.kids.length≤3){h:T ai}{nx:Key}:aB C fQ [.agg (eC c)] h nx (fun o h' nx'=>o=.ret (.agg (eC c))∧Ext h nx h' nx'):=by
 have rV:=S.r cF;have s1:=kTSu nx;have s2:=kTSu nx.succ;refine S.B7.call ?_;simp[yQ];simp[AA,S0,DL];have e2:=(E0 h nx (.cells (eC c) .fix)).trans (E0 _ nx.succ (.cells [.int .i64 (.lit 0),.int .i64 (.lit 0),.int .i64 (.lit 0),.str 0 0,.nils] .fix));have b1:ag nx (au nx.succ (Qz [.int .i64 (.lit 0),.int .i64 (.lit 0),.int .i64 (.lit 0),.str 0 0,.nils]) (au nx (Qz (eC c)) h))=Qz (eC c):=by rw[aw (by omega)];simp
 have b2:ag nx.succ (au nx.succ (Qz [.int .i64 (.lit 0),.int .i64 (.lit 0),.int .i64 (.lit 0),.str 0 0,.nils]) (au nx (Qz (eC c)) h))=Qz [.int .i64 (.lit 0),.int .i64 (.lit 0),.int .i64 (.lit 0),.str 0 0,.nils]:=by simp
 generalize au nx.succ (Qz [.int .i64 (.lit 0),.int .i64 (.lit 0),.int .i64 (.lit 0),.str 0 0,.nils]) (au nx (Qz (eC c)) h)=h2 at *;have ec0:(eC c)[0]?=some (I c.1):=rfl;have anf:(eC c).head?=some (I c.1):=rfl;have et:List.take 4 (eC c).tail=eS c.2:=rfl;have iq:AV.beq (I c.1) (I c.1)=true:=beq_refl _ rfl;simp[AB,b1,ec0,anf,et,DL,rV,C4];refine aB.known (S.s_Clone c.2 hk _ _) ?_;simp[b1,b2,ec0,anf,iq,lenS,Gj,ang];rw[BV,C4];exact⟨rfl,e2.put (by omega)⟩
omit S in
theorem anh{l:List (Cf St)}{R0:List AV}{j:Nat}(hj:j<l.length)(hR:R0.length=l.length*5):List.take (j*5) (ak eC (l.take j)++R0.drop (j*5))++(eC l[j]++List.drop (j*5+5) (ak eC (l.take j)++R0.drop (j*5)))=ak eC (l.take (j+1))++R0.drop ((j+1)*5):=by
 have dn:(l.take j).length=j:=by rw[zqy];omega
 have hr:(ak eC (l.take j)).length=j*5:=by rw[xc.rows,dn]
 rw[List.take_append_of_le_length (by omega),PH (by omega),zqq,hr,List.drop_eq_nil_of_le (by omega),List.nil_append,List.drop_drop];rw[zqu hj,gZ,hJ,List.append_assoc];congr 3;omega
def CpI(l:List (Cf St))(c0:AV)(R0:List AV)(bn:Key)(h:T ai)(nx:Key)(m:Nat)(aA:T AV)(h':T ai)(nx':Key):Prop:=∃j:Nat,m=l.length-j∧j≤l.length∧ag (K 0) aA=some c0∧ag (K 1) aA=some (.fn fQ [] [])∧ag (K 5) aA=some (.slice bn 0 l.length 5)∧ag (K 14) aA=some (I l.length)∧ag (K 15) aA=some (I j)∧ag bn h'=Qz (ak eC (l.take j)++R0.drop (j*5))∧bn.toNat<nx'.toNat∧Ext h nx h' nx'
theorem am3{l:List (Cf St)}(h0:0<l.length)(hl:l.length≤1024)(UJ:∀y∈l,y.2.kids.length≤3){c0:AV}(hc:qf 5 eC c0 l){h:T ai}{nx:Key} :
  aB C dh [c0,.fn fQ [] []] h nx (fun o h' nx'=>o=.ret (.slice nx 0 l.length 5)∧ag nx h'=Qz (ak eC l)∧nx.toNat<nx'.toNat∧Ext h nx h' nx'):=by
 have r1:=S.r fQ;have s1:=kTSu nx;have hR:=hc.rd h nx;have cp:¬l.length=0:=by omega
 have axa:l≠[]:=fun e=>cp (by rw[e];rfl);have UL:l.length≤1048576:=by omega
 refine S.mZ.call ?_;simp[jC];simp[mo];simp[↓hR.ln,mq,cp,axa];simp[↓hR.ln,mr,UL,-repL_eq];have hR0:∀(n:Nat) (a b c d e:AV),(Ng n [a,b,c,d,e] []).length=n*5:=fun n a b c d e=>by rw[repL_eq,List.append_nil];simp
 have aCn:=hR0 l.length (.int .i64 (.lit 0)) (.int .i64 (.lit 0)) (.int .i64 (.lit 0)) (.str 0 0) .nils;generalize Ng l.length [AV.int .i64 (.lit 0),.int .i64 (.lit 0),.int .i64 (.lit 0),.str 0 0,.nils] []=R0 at *;have e1:=E0 h nx (.cells R0 .fix);have b1:ag nx (au nx (Qz R0) h)=Qz R0:=by simp
 generalize au nx (Qz R0) h=h1 at *;have hR1:=hc.rd h1 nx.succ;simp[↓hR1.ln,mu];refine W.iM (n:=l.length) (CpI l c0 R0 nx h nx) ⟨0,by simp,by omega,by simp,by simp,by simp,by simp,by simp,by simpa using b1,by omega,e1⟩ ?_;rintro m gh h2 aZ ⟨j,rfl,hj,g0,g1,g5,g14,g15,vb,bn,e2⟩;refine W.of ?_;simp[mv];by_cases fu:j<l.length
 ·have PF:(j:Int)<l.length:=by omega
  have hR2:=hc.rd h2 aZ;have PS:=anh fu aCn;have Ny:(ak eC (l.take j)++R0.drop (j*5)).length=l.length*5:=by rw[xa,xc.rows,List.length_drop,zqy,aCn];omega
  have WT:j*5+5≤l.length*5:=by omega
  have htx:5≤l.length*5-j*5:=by omega
  simp[gH,g14,g15,PF];simp[mw,g15];simp[↓hR2.ix xc fu,my,g0,g1,g5,r1,SQ];refine(ane S (UJ _ (UG fu))).mono ?_;rintro o h3 fT ⟨rfl,e3⟩;have n3:=e3.n;have vb3:ag nx h3=Qz (ak eC (l.take j)++R0.drop (j*5)):=by rw[e3.g nx (by omega)];exact vb
  simp[vb3,fu,Ny,WT,htx,DL,S0,PS];simp[mz,g15];rw[aS (by omega) (by omega)];exact⟨l.length-(j+1),by omega,j+1,rfl,by omega,by simp[g0],by simp[g1],by simp[g5],by simp[g14],by simp,by simp,by omega,(e2.trans e3).put (gi _)⟩
 ·have PC:j=l.length:=by omega
  subst PC;have hd:R0.drop (l.length*5)=[]:=List.drop_eq_nil_of_le (by omega);rw[List.take_length,hd,List.append_nil]at vb;simp[gH,g14,g15];simp[mA,g5];exact⟨vb,by omega,e2⟩
end Ln
namespace Ln
open Go.Sx Go
theorem ajo{S:Sys St}(hS:S.Ok){l:List (Cf St)}(hk:Kept S l.length l){p:Nat}(hp:p<l.length)(hg:ry S l[p]=true)(ha:S.acc l[p].1=false):(∃t∈rowOf S l l[p],(dg S l 0).getD t.2 false=true)∧∀j,aEy (dg S l 0) (rowOf S l l[p]) j→∃(i q:Nat) (c':Cf St),(rowOf S l l[p])[j]?=some (i,q)∧l[q]?=some c'∧p<q∧ry S c'=true∧∀r,Path S c' r→Path S l[p] (i ::r):=by
 have hcp:l[p]?=some l[p]:=zC hp;have Th:∀x∈S.steps l[p],x.2∈l:=hk.done p l[p] hp hcp;have hgd:∀x∈S.steps l[p],(dg S l 0).getD (l.idxOf x.2) false=ry S x.2:=fun x hx=>by
  have h2:l.idxOf x.2<l.length:=List.idxOf_lt_length_of_mem (Th _ hx);rw[NC h2];have h3:jT S l (l.idxOf x.2)=ry S x.2:=by unfold jT;rw[Il (Th x hx)]
  rw[h3];simp
 refine⟨?_,fun j hj=>?_⟩
 ·rw[adf,ha,Bool.false_or,List.any_eq_true]at hg;obtain⟨x,hx,hgx⟩:=hg;exact⟨_,M4.2 ⟨x,hx,rfl⟩,by rw[hgd x hx];exact hgx⟩
 ·obtain⟨h1,h2,h3⟩:=hj;have hlen:(rowOf S l l[p]).length=(S.steps l[p]).length:=by unfold rowOf;rw[List.length_map]
  have hj':j<(S.steps l[p]).length:=by omega
  have EY:∀q (hq:q<(S.steps l[p]).length),(rowOf S l l[p])[q]?=some ((S.steps l[p])[q].1,l.idxOf (S.steps l[p])[q].2):=fun q hq=>by unfold rowOf;rw[List.getElem?_map,zC hq];rfl
  have hD:∀q (hq:q<(S.steps l[p]).length),(dg S l 0).getD ((rowOf S l l[p]).getD q (0,0)).2 false=ry S (S.steps l[p])[q].2:=fun q hq=>by rw[List.getD_eq_getElem?_getD (l:=rowOf S l l[p]),EY q hq];exact hgd _ (UG hq)
  have hx:=UG hj';rw[hD j hj']at h2;refine⟨_,_,(S.steps l[p])[j].2,EY j hj',Il (Th _ hx),?_,h2,fun r hr=>?_⟩
  ·have hx2:((S.steps l[p])[j].1,(S.steps l[p])[j].2)∈S.steps l[p]:=hx;exact hk.up hS hcp (Il (Th _ hx)) hx2
  ·refine Path.more (a:=(S.steps l[p]).take j) (b:=(S.steps l[p]).drop (j+1)) ha ?_ ?_ hr
   ·have:=List.take_append_drop j (S.steps l[p]);rw[zqt hj']at this;exact this.symm
   ·intro x hxa;obtain⟨q,hq,rfl⟩:=List.getElem_of_mem hxa;have hq1:q<j:=by rw[zqy]at hq;omega
    have Xg:q<(S.steps l[p]).length:=by omega
    have:=h3 q hq1;rw[hD q Xg]at this;rw[List.getElem_take];exact Xb.1 this
def OlI(X:Kn)(mi:Nat)(os:List Op)(l:List (Cf St))(bj br b14 bg:Key)(h0:T ai)(nx0:Key)(tm0:T AV)(m:Nat)(aA:T AV)(h':T ai)(nx':Key):Prop:=∃(p:Nat) (pre:List Nat) (c19:AV) (o19:Option Key),m=l.length-p∧p<l.length∧jT (ba X mi os) l p=true∧pre.length≤p∧(∀r c,l[p]?=some c→Path (ba X mi os) c r→∃c0,l[0]?=some c0∧Path (ba X mi os) c0 (pre++r))∧Kpt tm0 aA∧
 ag (K 11) aA=some (.ptr bj 0)∧ag (K 13) aA=some (.ptr br 0)∧ag (K 14) aA=some (.ptr b14 0)∧ag (K 20) aA=some (I (p:Int))∧ag (K 19) aA=some c19∧Gr 1 c19 (ak eI (A9 pre)) (A9 pre).length h' nx' o19∧(∀b,o19=some b→nx0.toNat≤b.toNat∧b≠b14∧b≠bg)∧GdB b14 bg (dg (ba X mi os) l 0) h' nx'∧Ext h0 nx0 h' nx'
variable{C:bH}{X:Kn}(S:Std C X)
include S
theorem aeq{mi:Nat}{os:List Op}(ho:os.length≤16){cO:AV}{l:List (Cf St)}(hk:Kept (ba X mi os) l.length l){bj br bm b14 bg:Key}{cC cS:AV}{cs:List AV}{h0:T ai}{nx0:Key}(F:FdH X mi os cO l bj br bm cC cS cs h0 nx0)(ge:nx0.toNat≤b14.toNat∧nx0.toNat≤bg.toNat){tm0:T AV}{Q:cJ}{m:Nat}{tm:T AV}{h1:T ai}{bW:Key}(A:OlI X mi os l bj br b14 bg h0 nx0 tm0 m tm h1 bW)
  (mh:∀aA h' nx' pre c19 o19,(∃c0,l[0]?=some c0∧Path (ba X mi os) c0 pre)→Kpt tm0 aA→ag (K 19) aA=some c19→Gr 1 c19 (ak eI (A9 pre)) (A9 pre).length h' nx' o19→(∀b,o19=some b→nx0.toNat≤b.toNat)→Ext h0 nx0 h' nx'→Q .norm aA h' nx') :
  W C (.loop yN) (aP 4 Q) tm h1 bW:=by
 have rA:=S.r cu;have rI:=S.r bu;have hSo:=QP X mi os;have hl:=hk.len;refine W.iM (OlI X mi os l bj br b14 bg h0 nx0 tm0) A ?_;rintro m gh h nx ⟨p,pre,c19,o19,rfl,hp,hga,uX,auE,hKp,g11,g13,g14,g20,g19,G19,aaW,GB,e0⟩;have F1:=F.ext e0;have dn:=hk.lt _ (UG hp);have hd:l[p].1<65536:=Ou dn (yJ ho);have hcp:l[p]?=some l[p]:=zC hp;have hpc:p<cs.length:=by rw[F.csl];exact hp
 obtain⟨c,hc1,Nx⟩:=F.row p hpc;have ZY:c=l[p]:=by rw[hcp]at hc1;exact(Option.some.inj hc1).symm
 subst ZY;have hgl:ry (ba X mi os) l[p]=true:=by
  have:jT (ba X mi os) l p=ry (ba X mi os) l[p]:=by unfold jT;rw[hcp]
  rw[←this];exact hga
 refine W.of ?_;simp[yN];simp[↓F1.C.ix xc hp,DX,g11,g13,g20,F1.vr,rA,SQ];refine(ahG S ho hd F1.vj F1.lt.1).mono ?_;rintro o h2 aZ ⟨rfl,e2⟩;have e02:=e0.trans e2;cases hac:ER os l[p].1 with
 |true=>
  obtain⟨c0,q1,q2⟩:=auE [] l[p] hcp (.now hac);rw[List.append_nil]at q2;simp;refine mh _ _ _ pre c19 o19 ⟨c0,q1,q2⟩ ?_ (by simp[g19]) (G19.ext e2) (fun b hb=>(aaW b hb).1) e02
  repeat' (first|exact hKp|refine Kpt.set ?_ (by decide))
 |false=>
  have F2:=F.ext e02;have hR2:=Nx.rd h2 aZ;have hz:∀H,aO 9999 cs[p] H=(cs[p],H):=fun H=>Nx.zD _ _;have hzp:∀H,aY (aO 9998) [.ptr b14 0] H=([.ptr b14 0],H):=fun H=>rfl;obtain⟨ana,aHO⟩:=ajo hSo hk hp hgl hac;obtain⟨hto,_⟩:=aaQ hSo hk hp;have aHP:(dg (ba X mi os) l 0).length=l.length:=qD _ _ _;have amY:(rowOf (ba X mi os) l l[p]).length≤1000:=by unfold rowOf Sys.steps;rw[List.length_map];have:=List.length_filterMap_le ((ba X mi os).step l[p]) (List.range (ba X mi os).n);rw[List.length_range]at this;have hn:(ba X mi os).n=os.length:=rfl;omega
  simp;simp[↓F2.S.ix1 hpc,DY,g13,g14,g20,F2.vr,rI,hz];refine(arH S (GB.ext e2) amY (fun t ht=>by rw[aHP];exact(hto t ht).2) ana Nx).mono ?_;rintro o h3 fT ⟨⟨j,hj,rfl⟩,e3⟩;obtain⟨ci,q,c',hjq,hq1,hpq,hgq,hpp⟩:=aHO j hj;have fu:j<(rowOf (ba X mi os) l l[p]).length:=hj.1;have PC:(rowOf (ba X mi os) l l[p])[j]=(ci,q):=by rw[zC fu]at hjq;exact Option.some.inj hjq
  have DH:=iB.at fu;rw[PC]at DH;have anb:cs[p]=.sl (ak eT (rowOf (ba X mi os) l l[p])) (rowOf (ba X mi os) l l[p]).length 2 .any:=by
   rcases Nx with⟨_,e⟩|e
   ·rw[e]at fu;simp at fu
   ·exact e
  have hrr:=iB.rows (rowOf (ba X mi os) l l[p]);have h2r:2≤(rowOf (ba X mi os) l l[p]).length*2-j*2:=by omega
  have t0:(eT (ci,q))[0]?=some (I (ci:Int)):=rfl;have t0':(eT (ci,q)).head?=some (I (ci:Int)):=rfl;have t1:(eT (ci,q))[1]?=some (I (q:Int)):=rfl;have te:eT (ci,q)=[I (ci:Int),I (q:Int)]:=rfl;have s3:=kTSu fT;have e03:=e02.trans e3;have F3:=F.ext e03;have G3:=(G19.ext e2).ext e3;have GB3:=(GB.ext e2).ext e3;have e4:=E0 h3 fT (.cells [I (ci:Int)] .fix);have hol:(A9 pre).length=pre.length:=List.length_map ..;obtain⟨UM,h5,zI,UN,ha,G5,F5⟩:=(G3.ext e4).Q9 IU (by decide) (by decide) (by omega) (ci:Int);have F35:=(CZ.SS e4 o19).trans F5;have hej:eI (ci:Int)=[I (ci:Int)]:=rfl;rw[hej]at ha;have n35:=F35.n;have n03:=e03.n;have aTh:∀b:Key,o19=some b→b.toNat<fT.toNat:=fun b hb=>G3.lt b hb;have anc:∀b,UN=some b→nx0.toNat≤b.toNat∧b≠b14∧b≠bg:=fun b hb=>by
   rcases F35.o with e|⟨y,e,hy⟩
   ·rw[e]at hb;exact aaW b hb
   ·rw[e]at hb;cases hb;have h1:=GB3.2.2.1;have h2:=GB3.2.2.2;exact⟨by omega,fun e=>by rw[e]at hy;omega,fun e=>by rw[e]at hy;omega⟩
  have e05:Ext h0 nx0 h5 zI:=⟨by omega,fun b hb=>by rw[F35.g b (by omega) (fun e=>by have:=(aaW b e).1;omega)];exact e03.g b hb⟩
  have F5':=F.ext e05;have GB5:GdB b14 bg (dg (ba X mi os) l 0) h5 zI:=by obtain⟨q1,q2,q3,q4⟩:=GB3;exact⟨by rw[F35.g b14 q3 (fun e=>(aaW b14 e).2.1 rfl)];exact q1,by rw[F35.g bg q4 (fun e=>(aaW bg e).2.2 rfl)];exact q2,by omega,by omega⟩
  simp;simp[-appendTo,↓F3.S.ix1 hpc,DZ,g13,g19,g20,F3.vr,anb,fu,hrr,h2r,DH,te,ha];simp[↓F5'.S.ix1 hpc,D0,g13,g20,F5'.vr,anb,fu,hrr,h2r,DH,te];obtain⟨hql,hqc⟩:=List.getElem?_eq_some_iff.1 hq1;have aHV:jT (ba X mi os) l q=true:=by unfold jT;rw[hq1];exact hgq
  have hor:A9 (pre ++ [ci])=A9 pre ++ [(ci:Int)]:=by unfold A9;rw[List.map_append];rfl
  refine⟨l.length-q,by omega,q,pre ++ [ci],UM,UN,rfl,hql,aHV,by simp;omega,?_,?_,by simp[g11],by simp[g13],by simp[g14],by simp,by simp,by rw[hor];exact G5,anc,GB5,e05⟩
  ·intro r c hc hr;have ZY:c=c':=by rw[hq1]at hc;exact(Option.some.inj hc).symm
   subst ZY;obtain⟨c0,z1,z2⟩:=auE (ci ::r) l[p] hcp (hpp r hr);exact⟨c0,z1,by simpa using z2⟩
  ·repeat' (first|exact hKp|refine Kpt.set ?_ (by decide))
end Ln
namespace Ln
open Go.Sx Go
variable{C:bH}{X:Kn}(S:Std C X)
include S
end Ln
namespace Ln
open Go.Sx Go
def aw2(X:Kn)(i:Nat)(l:List Ev)(h:T ai)(nx:Key)(o:Out)(h':T ai)(nx':Key):Prop:=Ext h nx h' nx'∧
 ((w9 i l≠0∧o=.ret (.tuple [.nils,.agg [.nils],I (w9 i l)]))∨
  (w9 i l=0∧((WL (ba X i (dm 0 l)) 1025 0 [(0,aJ i)]=none∧o=.ret (.tuple [.nils,.agg [.nils],I 4]))∨
   ∃L,WL (ba X i (dm 0 l)) 1025 0 [(0,aJ i)]=some L∧Kept (ba X i (dm 0 l)) L.length L∧(∀y∈L,kx i y.2)∧((∃p cR,Path (ba X i (dm 0 l)) (0,aJ i) p∧qf 1 eI cR (A9 p)∧o=.ret (.tuple [cR,.agg [.nils],I 0]))∨
    (¬Good (ba X i (dm 0 l)) (0,aJ i)∧∃cR,qf 5 eC cR (sP L)∧o=.ret (.tuple [.nils,.agg [cR],I 0]))))))
theorem aem(S:Sys St)(l:List (Cf St)):Ng l.length [AV.bool false] []=fJ (dg S l l.length):=by rw[aen,repL_eq,List.append_nil];unfold fJ;rw[List.map_replicate];simp
variable{C:bH}{X:Kn}(S:Std C X)(H:Na C)
include S H
theorem aaU{i:Nat}(hi:i<3){ev:AV}{l:List Ev}(hl:Few l)(wc:dI [] l=0→∀o∈dm 0 l,before o o=false){h:T ai}{nx:Key}(hv:Rd 8 ev (ak eE l) l.length h nx) :
  aB C fW [X.m,fD i,ev,dp] h nx (aw2 X i l h nx):=by
 have s1:=kTSu nx;have s2:=kTSu nx.succ;have s3:=kTSu nx.succ.succ;have rb:C.raw mX=true:=S.rw (by decide);have rE:=S.r ed;have rC:=S.r dh;have rS:C.raw cd=true:=S.rw (by decide);have MY:(dm 0 l).length≤16:=by have:=Fv l 0;have:=hl.len;omega
 refine S.Jc.call ?_;simp[Gq];simp[Gs,Kn.m,dp];have e2:=((E0 h nx (.cells [.sl X.rows 7 45 .any] .fix)).trans (E0 _ nx.succ (.cells [I 200,I 50] .fix))).trans (E0 _ nx.succ.succ (.cells [.nils] .fix));have bm2:ag nx (au nx.succ.succ (Qz [.nils]) (au nx.succ (Qz [I 200,I 50]) (au nx (Qz [.sl X.rows 7 45 .any]) h)))=Qz [.sl X.rows 7 45 .any]:=by rw[aw (by omega),aw (by omega)];simp
 have bl2:ag nx.succ (au nx.succ.succ (Qz [.nils]) (au nx.succ (Qz [I 200,I 50]) (au nx (Qz [.sl X.rows 7 45 .any]) h)))=Qz [I 200,I 50]:=by rw[aw (by omega)];simp
 have b92:ag nx.succ.succ (au nx.succ.succ (Qz [.nils]) (au nx.succ (Qz [I 200,I 50]) (au nx (Qz [.sl X.rows 7 45 .any]) h)))=Qz [.nils]:=by simp
 generalize au nx.succ.succ (Qz [.nils]) (au nx.succ (Qz [I 200,I 50]) (au nx (Qz [.sl X.rows 7 45 .any]) h))=h2 at *;simp[Gt,bm2,bl2,rb];refine(am0 S hi hl (hv.ext e2)).mono ?_;rintro o h3 fT ⟨e3,hR⟩;have e23:=e2.trans e3;have n3:=e3.n;have b93:ag nx.succ.succ h3=Qz [.nils]:=by rw[e3.g _ (by omega)];exact b92
 rcases hR with⟨cp,rfl⟩|⟨U4,bj,cO,rfl,bj3,hc,bj0,bjn⟩
 ·simp;simp[yK,bq cp];simp[Gu,b93];exact⟨e23.put (by omega),.inl ⟨cp,rfl⟩⟩
 ·obtain⟨hvd,C3⟩:=aaV U4;have hbo:=wc hvd;simp;simp[yK];simp[Gv,rE];refine(aep S H hi C3 hbo MY hc bj3 bjn).mono ?_;rintro o h4 mC ⟨e4,hR⟩;have e24:=e23.trans e4;have n4:=e4.n;have b94:ag nx.succ.succ h4=Qz [.nils]:=by rw[e4.g _ (by omega)];exact b93
  have bj4:ag bj h4=Qz (jB X i cO (aJ i) (jy (dm 0 l) (dm 0 l).length)):=by rw[e4.g bj bjn];exact bj3
  rcases hR with⟨Iu,rfl⟩|⟨L,br,cC,cS,cs,Iu,rfl,kp,h0,UJ,G⟩
  ·simp;simp[yL];simp[Gw,b94];exact⟨e24.put (by omega),.inr ⟨U4,.inl ⟨Iu,rfl⟩⟩⟩
  ·simp;simp[yL];obtain⟨bm,oC,E,R⟩:=G.R;obtain⟨oS,GS⟩:=G.B;have F:FdH X i (dm 0 l) cO L bj br bm cC cS cs h4 mC:=⟨bj4,R.wa,R.C.rd,GS.rd,⟨by omega,R.brn⟩,G.csl,G.row⟩;have hL:=kp.len;have hL0:0<L.length:=(List.getElem?_eq_some_iff.1 h0).1;have hLc:L.length≤1048576:=by omega
   have t1:=kTSu mC;have t2:=kTSu mC.succ;have hRC:=F.C;simp[↓hRC.ln,Gx,R.wa,hLc,-repL_eq];rw[aem (ba X i (dm 0 l)) L];have e5:=(E0 h4 mC (.cells (fJ (dg (ba X i (dm 0 l)) L L.length)) .fix)).trans (E0 _ mC.succ (.cells [.slice mC 0 L.length 1] .fix));have vg:ag mC (au mC.succ (Qz [.slice mC 0 L.length 1]) (au mC (Qz (fJ (dg (ba X i (dm 0 l)) L L.length))) h4))=Qz (fJ (dg (ba X i (dm 0 l)) L L.length)):=by rw[aw (by omega)];simp
   have v14:ag mC.succ (au mC.succ (Qz [.slice mC 0 L.length 1]) (au mC (Qz (fJ (dg (ba X i (dm 0 l)) L L.length))) h4))=Qz [.slice mC 0 L.length 1]:=by simp
   generalize au mC.succ (Qz [.slice mC 0 L.length 1]) (au mC (Qz (fJ (dg (ba X i (dm 0 l)) L L.length))) h4)=h5 at *;have F5:=F.ext e5;have aHC:=F5.C;have hw1:bG .i64 ((L.length:Int)-1)=(L.length:Int)-1:=aS (by omega) (by omega);simp[↓aHC.ln,Gy,F5.vr,hw1];refine aji S MY kp F (b14:=mC.succ) (bg:=mC) (by omega) (fun e=>by have:=congrArg Key.toNat e;omega) (m:=L.length) ⟨L.length,rfl,gi _,Kpt.refl _,by simp,by simp,by simp,by simp,v14,vg,by omega,by omega,e5⟩ ?_;intro aA h6 By hKp q11 q13 q14 w14 wg ad9 bgn e6;have q9:=hKp (K 9) (.inr (.inl rfl));simp at q9;have e26:=e24.trans e6;have n6:=e6.n;have b96:ag nx.succ.succ h6=Qz [.nils]:=by rw[e6.g _ (by omega)];exact b94
   have Ny:(fJ (dg (ba X i (dm 0 l)) L 0)).length=L.length:=by rw[H8,qD]
   have hg0:∀hh,(fJ (dg (ba X i (dm 0 l)) L 0))[0]'hh=.bool (ry (ba X i (dm 0 l)) (0,aJ i)):=fun hh=>by
    have dn:0<(dg (ba X i (dm 0 l)) L 0).length:=by rw[qD];exact hL0
    have h1:=H9 dn;rw[zC hh]at h1;rw[Option.some.inj h1];have h2:=NC (S:=ba X i (dm 0 l)) (l:=L) (a:=0) hL0;rw[List.getD_eq_getElem?_getD,zC dn]at h2;have h3:jT (ba X i (dm 0 l)) L 0=ry (ba X i (dm 0 l)) (0,aJ i):=by unfold jT;rw[h0]
    rw[h3]at h2;simpa using h2
   simp;simp[DP,q14,w14,wg,hL0,Ny,hg0];refine⟨fun hgf=>?_,fun OP=>?_⟩
   ·have t3:=kTSu By;have hk3:∀y∈L,y.2.kids.length≤3:=fun y hy=>aao (UJ y hy);have GC6:=R.C.ext e6;obtain⟨hiC,KN⟩:=Gr.aaM xc GC6 9998;have F6:=F.ext e6;have aCj:∀b,oC=some b→fT.toNat≤b.toNat:=fun b hb=>(R.ow b (.inl hb)).2.2;simp[DQ,q13,F6.vr,rC];generalize hcC:(aO 9999 cC h6).1=cC' at *;generalize hh7:(aO 9999 cC h6).2=h7 at *;refine(am3 S hL0 hL hk3 hiC (h:=h7) (nx:=By)).mono ?_;rintro o h8 ZU ⟨rfl,vn,vlt,e8⟩;have t4:=kTSu ZU;have n8:=e8.n;simp;have b97:ag nx.succ.succ h7=Qz [.nils]:=by rw[KN _ (fun e=>by have:=aCj _ e;omega)];exact b96
    have b98:ag nx.succ.succ h8=Qz [.nils]:=by rw[e8.g _ (by omega)];exact b97
    have low:∀b:Key,b.toNat<nx.toNat→ag b h8=ag b h:=fun b hb=>by rw[e8.g b (by omega),KN b (fun e=>by have:=aCj _ e;omega)];exact e26.g b hb
    have v18:ag ZU (au ZU (Qz [.slice By 0 L.length 5]) h8)=Qz [.slice By 0 L.length 5]:=by simp
    have vn9:ag By (au ZU (Qz [.slice By 0 L.length 5]) h8)=Qz (ak eC L):=by rw[aw (by omega)];exact vn
    have b99:ag nx.succ.succ (au ZU (Qz [.slice By 0 L.length 5]) h8)=Qz [.nils]:=by rw[aw (by omega)];exact b98
    have aHE:∀b:Key,b.toNat<nx.toNat→ag b (au ZU (Qz [.slice By 0 L.length 5]) h8)=ag b h:=fun b hb=>by rw[aw (by omega)];exact low b hb
    generalize au ZU (Qz [.slice By 0 L.length 5]) h8=h9 at *;simp[DR,v18,rS];refine .inl ⟨_,_,_,H.am4 L By h9 ZU.succ hk3 kp.nodup hL vn9,?_⟩;simp;have n68:ZU≠By:=fun e=>by rw[e]at vlt;omega
    have n62:nx.succ.succ≠By:=fun e=>by rw[←e]at n6;omega
    have v182:ag ZU (au By (Qz (ak eC (sP L))) h9)=Qz [.slice By 0 L.length 5]:=by rw[aD _ _ _ _ n68];exact v18
    have b9a:ag nx.succ.succ (au By (Qz (ak eC (sP L))) h9)=Qz [.nils]:=by rw[aD _ _ _ _ n62];exact b99
    have vna:ag By (au By (Qz (ak eC (sP L))) h9)=Qz (ak eC (sP L)):=by simp
    have aHF:∀b:Key,b.toNat<nx.toNat→ag b (au By (Qz (ak eC (sP L))) h9)=ag b h:=fun b hb=>by rw[aw (by omega)];exact aHE b hb
    generalize au By (Qz (ak eC (sP L))) h9=ha at *;have hsl:(sP L).length=L.length:=by unfold sP;rw[List.length_mergeSort]
    have hrw:(ak eC (sP L)).length=L.length*5:=by rw[xc.rows,hsl]
    have vnb:∀B,ag By (au nx.succ.succ B ha)=Qz (ak eC (sP L)):=fun B=>by rw[aD _ _ _ _ (Ne.symm n62)];exact vna
    simp[DS,v182,b9a,q9];have hz:=mg (n:=9997) (b:=By) (len:=L.length) (sz:=5) (H:=au nx.succ.succ (Qz [.slice By 0 L.length 5]) ha) (vnb _) hrw (xc.FB _);rw[hz];refine⟨⟨by omega,fun b hb=>?_⟩,.inr ⟨U4,.inr ⟨L,Iu,kp,UJ,.inr ⟨Xb.1 hgf,_,.inr (by rw[hsl]),rfl⟩⟩⟩⟩;show ag b (au By _ (au nx.succ.succ _ ha))=ag b h;rw[aw (by omega),aw (by omega)];exact aHF b hb
   ·have t3:=kTSu By;have aHG:jT (ba X i (dm 0 l)) L 0=true:=by unfold jT;rw[h0];exact OP
    simp[DU];have e7:=E0 h6 By (.cells [] .fix);have v19:ag By (au By (Qz []) h6)=Qz []:=by simp
    generalize au By (Qz []) h6=h7 at *;have e47:=e6.trans e7;have GB:GdB mC.succ mC (dg (ba X i (dm 0 l)) L 0) h7 By.succ:=by refine⟨by rw[e7.g _ ad9,qD];exact w14,by rw[e7.g _ bgn];exact wg,by omega,by omega⟩
    simp[DV];refine aeq S MY kp F (b14:=mC.succ) (bg:=mC) (by omega) (m:=L.length) ⟨0,[],.slice By 0 0 1,some By,by simp,hL0,aHG,by simp,fun r c hc hr=>⟨c,hc,by simpa using hr⟩,Kpt.refl _,by simp[q11],by simp[q13],by simp[q14],by simp,by simp,.inr (.inl ⟨By,.fix,rfl,rfl,v19,by omega,rfl,.inr rfl⟩),fun b hb=>by cases hb;exact⟨by omega,fun e=>by rw[e]at ad9;omega,fun e=>by rw[e]at bgn;omega⟩,GB,e47⟩ ?_;intro tm8 h8 ZU pre c19 o19 hP hK8 g19 G19 aaW e8;have p9:=hK8 (K 9) (.inr (.inl rfl));simp[q9]at p9;obtain⟨c0',z1,z2⟩:=hP;have aHH:c0'=(0,aJ i):=by rw[h0]at z1;exact(Option.some.inj z1).symm
    subst aHH;have b98:ag nx.succ.succ h8=Qz [.nils]:=by rw[e8.g _ (by omega)];exact b94
    simp;simp[DW,p9,g19,b98];have n8:=e8.n;have G20:Gr 1 c19 (ak eI (A9 pre)) (A9 pre).length (au nx.succ.succ (Qz [.nils]) h8) ZU o19:=G19.keep (gi _) fun b hb=>aD _ _ _ _ (fun e=>by have:=aaW b hb;rw[e]at this;omega);obtain⟨aHI,aHJ⟩:=Gr.aaM IU G20 9998;refine⟨⟨by omega,fun b hb=>?_⟩,.inr ⟨U4,.inr ⟨L,Iu,kp,UJ,.inl ⟨pre,_,z2,aHI,rfl⟩⟩⟩⟩;rw[aHJ b (fun e=>by have:=aaW b e;omega),aw (by omega),e8.g b (by omega)];exact e24.g b hb
end Ln
namespace Ln
open Go.Sx Go
theorem aoK(s t:St):qS s t≤0∨qS t s≤0:=by
 by_cases h:qS s t≤0
 ·exact .inl h
 ·right;have:qS t s<0:=(H0 _ _).2 (by show 0<qS s t;omega);omega
end Ln
