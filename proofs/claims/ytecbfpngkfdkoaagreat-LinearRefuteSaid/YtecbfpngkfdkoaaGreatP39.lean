/- A part of the proof. No condition. -/
import Derived.Test.YtecbfpngkfdkoaaGreatP38
import Derived.Test.YtecbfpngkfdkoaaGreatP7
set_option linter.unusedSimpArgs false
set_option linter.unusedVariables false
set_option linter.unusedSectionVars false
namespace Ln
open Go.Sx Go
def au9(cA:AV)(aZZ:List U)(h:T ag)(n0 nx b8:Key):Prop:=(cA=.nils∧aZZ=[])∨∃ (ba:Key) (u:U),cA=.slice ba 0 1 4∧aZZ=[u]∧aa ba h=some (.cells (eU u) .fix)∧n0.toNat≤ba.toNat∧ba.toNat<nx.toNat∧ba≠b8
theorem au9.Tk{cA:AV}{aZZ:List U}{h:T ag}{n0 nx b8:Key}(a:au9 cA aZZ h n0 nx b8)(B:ag):∃ H1,aO 9999 cA (au nx (some B) h)=(aC aZZ,H1)∧∀ b:Key,b.toNat<n0.toNat→n0.toNat≤nx.toNat→aa b H1=aa b h:=by
 rcases a with⟨rfl,rfl⟩|⟨ba,u,rfl,rfl,h1,h2,h3,_⟩
 ·exact⟨_,rfl,fun b hb hn=>ax (by omega)⟩
 ·have hg:aa ba (au nx (some B) h)=some (.cells (eU u) .fix):=by rw[ax h3];exact h1
  refine⟨_,Dx (n:=9998) hg rfl (An.D3 u),fun b hb hn=>?_⟩
  rw[ax (by omega),ax (by omega)]
theorem au9.cell{cA:AV}{aZZ:List U}{h:T ag}{n0 nx b8:Key}(a:au9 cA aZZ h n0 nx b8):cA.aN=true∧cA.cells=[cA]:=by
 rcases a with⟨rfl,rfl⟩|⟨ba,u,rfl,_⟩<;>exact⟨rfl,rfl⟩
def K3(c:Nat)(cmd:gQ)(cA:AV):List AV:=[I 0,I c,.str cmd.name.1 cmd.name.2,cA,I 0,I 0,.str 0 0,.nils]
variable{C:cD}{X:Kn}(S:Std C X)
include S
theorem Ro{bg n0:Key}{mi:Nat}{l:List Ev}{g g0:GS}{hB:T ag}{nxB:Key}{k:Nat}{cL cQ:AV}{oL oQ:Option Key}{h:T ag}{nx nx0 b8:Key}(G:ub bg n0 (jS mi) l g k cL cQ oL oQ h nx0)(hg:g.o=g0.o)(O:Old n0 hB nxB h nx)(hx:nx0.toNat≤nx.toNat)(hl:l.length≤100)(hk:k≤100)(hn:n0.toNat≤nx0.toNat){tm:T AV}{c n6:Nat}{cmd:gQ}{cA:AV}{aZZ:List U}(hA:au9 cA aZZ h nx0 nx b8)(h8:aa b8 h=some (.cells (K3 c cmd cA) .fix))(h80:nx0.toNat≤b8.toNat)(h8n:b8.toNat<nx.toNat)
  (hm:cmd∈az mi) (has:aZZ.length=cmd.ar) (hk0:∀ u∈aZZ,u.k=0) (hc:c=0∨c=1∨c=2) (ho:g.o c=false) (q0:aa (K 0) tm=some (.ptr bg 0)) (q4:aa (K 4) tm=some (I c)) (q6:aa (K 6) tm=some (I n6)) (q8:aa (K 8) tm=some (.ptr b8 0)) :
  eP C (.seq (.staged aU ⟨[K 134,K 135,K 136,K 137,K 138,K 139,K 140,K 141,K 142,K 143],[]⟩) (.seq (.ops aV) (.seq (.ops aW) (.seq (.ops aK) (.cond (.t (K 162)) (.ops aX) .skip))))) (bB [] (Uw bg n0 mi l g0 k hB nxB)) tm h nx:=by
 have rA:C.raw fa=false:=S.nr (by decide)
 have s1:=kTSu nx
 have hb:=G.oR
 have bn:=G.bn
 obtain⟨len,_,hQ⟩:=G.Q
 have cc:=hQ.cell
 have cl:=G.L.cell
 have cA1:=hA.cell
 have ca:=aZ aZZ
 obtain⟨H1,LX,hH⟩:=hA.Tk (.cells (K3 c cmd cA) .fix)
 have e:Ext h nx0 H1 nx.succ:=⟨by omega,fun b hb=>hH b hb hx⟩
 have G1:=G.up e
 have hb8:aa b8 h=some (.cells [I 0,I c,.str cmd.name.1 cmd.name.2,cA,I 0,I 0,.str 0 0,.nils] .fix):=h8
 have ho0:g0.o c=false:=hg ▸ ho
 rcases hc with rfl|rfl|rfl
 ·simp[K3] at LX
  simp
  simp[-appendTo,aU,q0,q4,q8,hb,hb8,gB,LX,cl.1,cl.2,cA1.1,cA1.2,ca.1,ca.2]
  have O1:Old n0 h nx H1 nx.succ:=⟨by omega,fun b hb=>e.g b (by omega)⟩
  obtain⟨c',h5,Ut,o',ha,Vf,F⟩:=G1.L.Fm fe (by decide) (by decide) (by omega) ⟨0,0,cmd.name,aZZ,⟨0,0⟩⟩
  have ee:eE ⟨0,0,cmd.name,aZZ,⟨0,0⟩⟩=[I 0,I 0,.str cmd.name.1 cmd.name.2,aC aZZ,I 0,I 0,.str 0 0,.nils]:=rfl
  have Q5:=Vf.cell
  have hb5:aa bg h5=some (.cells (gB (jS mi) cL cQ g) .fix):=by rw[F.g bg G1.bn (fun e=>(G1.lo bg e).2.1 rfl)];exact G1.oR
  obtain⟨G6,O6⟩:=G1.aki (g':={g with o:=ko g.o 0 true,lt:=ko g.lt 0 (!decide ((n6:Int)<3))}) (by omega) F Vf
  have n5:=O6.n
  rw[ee] at ha
  simp[gB] at G6 O6
  simp[-appendTo,hb5,gB,Q5.1,Q5.2,ha]
  simp[aV,q0,q4,gB]
  simp[aW,q0,q4,q6,gB]
  have hb6:=G6.oR
  by_cases h3:(n6:Int)<3
  rotate_left
  ·simp[h3] at G6 O6
   simp[aK,q0,q4,h3,gB]
   exact⟨rfl,_,_,_,_,_,_,G6.more,(O.trans O1).trans O6,.begins 0 cmd aZZ (by omega) ho0 hm has hk0 rfl (by rw[← hg])⟩
  ·simp[h3] at G6 O6
   simp[aK,q0,q4,h3,gB]
   simp[aX,q0,q4,rA]
   refine(xP S G6 hk (by omega) (c:=0) (by simp)).mono ?_
   rintro o h7 nx7 ⟨rfl,g',BH,Fo,G7,e7,O7⟩
   simp
   exact⟨rfl,_,_,_,_,_,_,G7,((O.trans O1).trans O6).trans O7,.begins 0 cmd aZZ (by omega) ho0 hm has hk0 rfl (by rw[← hg];exact e7)⟩
 ·simp[K3] at LX
  simp
  simp[-appendTo,aU,q0,q4,q8,hb,hb8,gB,LX,cl.1,cl.2,cA1.1,cA1.2,ca.1,ca.2]
  have O1:Old n0 h nx H1 nx.succ:=⟨by omega,fun b hb=>e.g b (by omega)⟩
  obtain⟨c',h5,Ut,o',ha,Vf,F⟩:=G1.L.Fm fe (by decide) (by decide) (by omega) ⟨0,1,cmd.name,aZZ,⟨0,0⟩⟩
  have ee:eE ⟨0,1,cmd.name,aZZ,⟨0,0⟩⟩=[I 0,I 1,.str cmd.name.1 cmd.name.2,aC aZZ,I 0,I 0,.str 0 0,.nils]:=rfl
  have Q5:=Vf.cell
  have hb5:aa bg h5=some (.cells (gB (jS mi) cL cQ g) .fix):=by rw[F.g bg G1.bn (fun e=>(G1.lo bg e).2.1 rfl)];exact G1.oR
  obtain⟨G6,O6⟩:=G1.aki (g':={g with o:=ko g.o 1 true,lt:=ko g.lt 1 (!decide ((n6:Int)<3))}) (by omega) F Vf
  have n5:=O6.n
  rw[ee] at ha
  simp[gB] at G6 O6
  simp[-appendTo,hb5,gB,Q5.1,Q5.2,ha]
  simp[aV,q0,q4,gB]
  simp[aW,q0,q4,q6,gB]
  have hb6:=G6.oR
  by_cases h3:(n6:Int)<3
  rotate_left
  ·simp[h3] at G6 O6
   simp[aK,q0,q4,h3,gB]
   exact⟨rfl,_,_,_,_,_,_,G6.more,(O.trans O1).trans O6,.begins 1 cmd aZZ (by omega) ho0 hm has hk0 rfl (by rw[← hg])⟩
  ·simp[h3] at G6 O6
   simp[aK,q0,q4,h3,gB]
   simp[aX,q0,q4,rA]
   refine(xP S G6 hk (by omega) (c:=1) (by simp)).mono ?_
   rintro o h7 nx7 ⟨rfl,g',BH,Fo,G7,e7,O7⟩
   simp
   exact⟨rfl,_,_,_,_,_,_,G7,((O.trans O1).trans O6).trans O7,.begins 1 cmd aZZ (by omega) ho0 hm has hk0 rfl (by rw[← hg];exact e7)⟩
 ·simp[K3] at LX
  simp
  simp[-appendTo,aU,q0,q4,q8,hb,hb8,gB,LX,cl.1,cl.2,cA1.1,cA1.2,ca.1,ca.2]
  have O1:Old n0 h nx H1 nx.succ:=⟨by omega,fun b hb=>e.g b (by omega)⟩
  obtain⟨c',h5,Ut,o',ha,Vf,F⟩:=G1.L.Fm fe (by decide) (by decide) (by omega) ⟨0,2,cmd.name,aZZ,⟨0,0⟩⟩
  have ee:eE ⟨0,2,cmd.name,aZZ,⟨0,0⟩⟩=[I 0,I 2,.str cmd.name.1 cmd.name.2,aC aZZ,I 0,I 0,.str 0 0,.nils]:=rfl
  have Q5:=Vf.cell
  have hb5:aa bg h5=some (.cells (gB (jS mi) cL cQ g) .fix):=by rw[F.g bg G1.bn (fun e=>(G1.lo bg e).2.1 rfl)];exact G1.oR
  obtain⟨G6,O6⟩:=G1.aki (g':={g with o:=ko g.o 2 true,lt:=ko g.lt 2 (!decide ((n6:Int)<3))}) (by omega) F Vf
  have n5:=O6.n
  rw[ee] at ha
  simp[gB] at G6 O6
  simp[-appendTo,hb5,gB,Q5.1,Q5.2,ha]
  simp[aV,q0,q4,gB]
  simp[aW,q0,q4,q6,gB]
  have hb6:=G6.oR
  by_cases h3:(n6:Int)<3
  rotate_left
  ·simp[h3] at G6 O6
   simp[aK,q0,q4,h3,gB]
   exact⟨rfl,_,_,_,_,_,_,G6.more,(O.trans O1).trans O6,.begins 2 cmd aZZ (by omega) ho0 hm has hk0 rfl (by rw[← hg])⟩
  ·simp[h3] at G6 O6
   simp[aK,q0,q4,h3,gB]
   simp[aX,q0,q4,rA]
   refine(xP S G6 hk (by omega) (c:=2) (by simp)).mono ?_
   rintro o h7 nx7 ⟨rfl,g',BH,Fo,G7,e7,O7⟩
   simp
   exact⟨rfl,_,_,_,_,_,_,G7,((O.trans O1).trans O6).trans O7,.begins 2 cmd aZZ (by omega) ho0 hm has hk0 rfl (by rw[← hg];exact e7)⟩
end Ln
/-
 LN: the generator of histories: a call begins. No condition.
-/
namespace Ln
open Go.Sx Go
def DR(mi t:Nat):gQ:=match mi,t with
 |0,1=>.get|0,_=>.put|1,0=>.inc|1,1=>.uz|1,_=>.add|_,0=>.write|_,_=>.rj
theorem NR{mi:Nat}(hi:mi<3){t:Nat}(ht:t<3):DR mi t∈az mi:=by
 match mi,hi,t,ht with
 |0,_,0,_=>decide
 |0,_,1,_=>decide
 |0,_,2,_=>decide
 |1,_,0,_=>decide
 |1,_,1,_=>decide
 |1,_,2,_=>decide
 |2,_,0,_=>decide
 |2,_,1,_=>decide
 |2,_,2,_=>decide
theorem ub.put0{bg n0:Key}{m:Nat×Nat}{l:List Ev}{g g':GS}{k:Nat}{cL cQ:AV}{oL oQ:Option Key}{h:T ag}{nx nx0 b8:Key}{c:Nat}{cmd:gQ}{cA:AV}(G:ub bg n0 m l g k cL cQ oL oQ h nx0)(h8:aa b8 h=some (.cells (K3 c cmd cA) .fix))(h80:nx0.toNat≤b8.toNat):ub bg n0 m l g' k cL cQ oL oQ (au bg (some (.cells (gB m cL cQ g') .fix)) h) nx0∧aa b8 (au bg (some (.cells (gB m cL cQ g') .fix)) h)=some (.cells (K3 c cmd cA) .fix)∧Old n0 h nx (au bg (some (.cells (gB m cL cQ g') .fix)) h) nx:=by
 obtain⟨G1,O1⟩:=G.put (g':=g')
 have bn:=G.bn
 exact⟨G1,by rw[bG _ _ _ _ (fun e=>by rw[e] at h80;omega)];exact h8,fh _,O1.g⟩
theorem ub.at0{bg n0:Key}{m:Nat×Nat}{l:List Ev}{g:GS}{k:Nat}{cL cQ:AV}{oL oQ:Option Key}{h h':T ag}{nx nx':Key}(G:ub bg n0 m l g k cL cQ oL oQ h nx)(e:Ext h nx h' nx')(_:nx.toNat≤nx'.toNat):ub bg n0 m l g k cL cQ oL oQ h' nx:=by
 obtain⟨len,hlen,hQ⟩:=G.Q
 exact⟨by rw[e.g bg G.bn];exact G.oR,G.L.ew (fh _) fun b hb=>e.g b (G.L.lt b hb),⟨len,hlen,hQ.ew (fh _) fun b hb=>e.g b (hQ.lt b hb)⟩,G.b0,G.bn,G.lo,G.qo⟩
variable{C:cD}{X:Kn}(S:Std C X)
theorem aBq{h:T ag}{nx b8:Key}{tm:T AV}{c:Nat}{cmd:gQ}{cA:AV}(h8:aa b8 h=some (.cells (K3 c cmd cA) .fix))(q8:aa (K 8) tm=some (.ptr b8 0)){Q:dN}
  (key:∀ ay,(∀ k:Key,k=K 0∨k=K 4∨k=K 6∨k=K 8→aa k ay=aa k tm)→aa (K 124) ay=some (.bool (cmd.ar==1))→Q .norm ay h nx):mX C Q bK tm h nx:=by
 cases cmd
 all_goals
  simp[K3,gQ.name] at h8
  simp[bK,q8,h8]
  refine key _ ?_ ?_
  ·rintro k (rfl|rfl|rfl|rfl)<;>simp
  ·simp[gQ.ar]
include S
theorem I8{bg n0:Key}{mi:Nat}{l:List Ev}{g g0:GS}{hB:T ag}{nxB:Key}{k:Nat}{cL cQ:AV}{oL oQ:Option Key}{h:T ag}{nx nx0 b8:Key}(G:ub bg n0 (jS mi) l g k cL cQ oL oQ h nx0)(hg:g.o=g0.o)(O:Old n0 hB nxB h nx)(hx:nx0.toNat≤nx.toNat)(hl:l.length≤100)(hk:k≤100)(hn:n0.toNat≤nx0.toNat){tm:T AV}{c n6:Nat}{cmd:gQ}(h8:aa b8 h=some (.cells (K3 c cmd .nils) .fix))(h80:nx0.toNat≤b8.toNat)(h8n:b8.toNat<nx.toNat)
  (hm:cmd∈az mi) (hc:c=0∨c=1∨c=2) (ho:g.o c=false) (q0:aa (K 0) tm=some (.ptr bg 0)) (q4:aa (K 4) tm=some (I c)) (q6:aa (K 6) tm=some (I n6)) (q8:aa (K 8) tm=some (.ptr b8 0)) :
  eP C (.seq (.seq (.ops bK) (.cond (.t (K 124)) (.ops bA) .skip)) (.seq (.staged aU ⟨[K 134,K 135,K 136,K 137,K 138,K 139,K 140,K 141,K 142,K 143],[]⟩) (.seq (.ops aV) (.seq (.ops aW) (.seq (.ops aK) (.cond (.t (K 162)) (.ops aX) .skip)))))) (bB [] (Uw bg n0 mi l g0 k hB nxB)) tm h nx:=by
 have rN:C.raw fQ=false:=S.nr (by decide)
 have hb:=G.oR
 have bn:=G.bn
 simp
 refine aBq h8 q8 ?_
 intro ay q axm
 have p0:=(q (K 0) (by simp)).trans q0
 have p4:=(q (K 4) (by simp)).trans q4
 have p6:=(q (K 6) (by simp)).trans q6
 have p8:=(q (K 8) (by simp)).trans q8
 by_cases Ka:cmd.ar=1
 ·have fin:∀ (JL:T AV) (h3:T ag) (bF ba:Key) (u:U),u.k=0→aa (K 0) JL=some (.ptr bg 0)→aa (K 4) JL=some (I c)→aa (K 6) JL=some (I n6)→aa (K 8) JL=some (.ptr b8 0)→ub bg n0 (jS mi) l g k cL cQ oL oQ h3 nx0→nx.toNat≤bF.toNat→Old n0 h nx h3 bF→aa b8 h3=some (.cells (K3 c cmd (.slice ba 0 1 4)) .fix)→aa ba h3=some (.cells (eU u) .fix)→nx.toNat≤ba.toNat→ba.toNat<bF.toNat→
    eP C (.seq (.staged aU ⟨[K 134,K 135,K 136,K 137,K 138,K 139,K 140,K 141,K 142,K 143],[]⟩) (.seq (.ops aV) (.seq (.ops aW) (.seq (.ops aK) (.cond (.t (K 162)) (.ops aX) .skip))))) (bB [] (Uw bg n0 mi l g0 k hB nxB)) JL h3 bF:=by
   intro JL h3 bF ba u hu r0 r4 r6 r8 G3 hx3 O3 hb8 hba aLb aLc
   exact Ro S (aZZ:=[u]) G3 hg (O.trans O3) (by omega) hl hk hn (.inr ⟨ba,u,rfl,rfl,hba,by omega,aLc,fun e=>by rw[e] at aLb;omega⟩) hb8 h80 (by omega) hm (by rw[Ka];rfl) (by simpa using hu) hc ho r0 r4 r6 r8
  simp only[bp,bw,bE,eu] at fin
  have hb8:aa b8 h=some (.cells [I 0,I c,.str cmd.name.1 cmd.name.2,.nils,I 0,I 0,.str 0 0,.nils] .fix):=h8
  simp[Ka] at axm
  simp[axm]
  rcases hc with rfl|rfl|rfl
  ·simp[bA,p0,p4,hb,gB,rN]
   refine(uc S (g.a 0)).mono ?_
   rintro o h3 bF ⟨rfl,e3⟩
   have n3:=e3.n
   have s3:=kTSu bF
   have aty:aa b8 h3=some (.cells [I 0,I 0,.str cmd.name.1 cmd.name.2,.nils,I 0,I 0,.str 0 0,.nils] .fix):=by rw[e3.g b8 h8n];exact hb8
   have e4:=E0 h3 bF (.cells (eU ⟨0,g.a 0⟩) .fix)
   have bU:b8≠bF:=fun e=>by rw[e] at h8n;omega
   have e5:Ext h nx0 (au b8 (some (.cells (K3 0 cmd (.slice bF 0 1 4)) .fix)) (au bF (some (.cells (eU ⟨0,g.a 0⟩) .fix)) h3)) bF.succ:=⟨by omega,fun b hb=>by rw[ax (by omega),ax (by omega)];exact e3.g b (by omega)⟩
   simp[p8,ax,h8n,aty,eU,bG _ _ _ _ bU]
   refine fin _ _ _ bF ⟨0,g.a 0⟩ rfl ?_ ?_ ?_ ?_ (G.at0 e5 (by omega)) (by omega) ⟨by omega,fun b hb=>e5.g b (by omega)⟩ ?_ ?_ (by omega) (by omega)
   ·simp[p0]
   ·simp[p4]
   ·simp[p6]
   ·simp[p8]
   ·simp[K3]
   ·simp[bG _ _ _ _ (Ne.symm bU),eU]
  ·simp[bA,p0,p4,hb,gB,rN]
   refine(uc S (g.a 1)).mono ?_
   rintro o h3 bF ⟨rfl,e3⟩
   have n3:=e3.n
   have s3:=kTSu bF
   have aty:aa b8 h3=some (.cells [I 0,I 1,.str cmd.name.1 cmd.name.2,.nils,I 0,I 0,.str 0 0,.nils] .fix):=by rw[e3.g b8 h8n];exact hb8
   have e4:=E0 h3 bF (.cells (eU ⟨0,g.a 1⟩) .fix)
   have bU:b8≠bF:=fun e=>by rw[e] at h8n;omega
   have e5:Ext h nx0 (au b8 (some (.cells (K3 1 cmd (.slice bF 0 1 4)) .fix)) (au bF (some (.cells (eU ⟨0,g.a 1⟩) .fix)) h3)) bF.succ:=⟨by omega,fun b hb=>by rw[ax (by omega),ax (by omega)];exact e3.g b (by omega)⟩
   simp[p8,ax,h8n,aty,eU,bG _ _ _ _ bU]
   refine fin _ _ _ bF ⟨0,g.a 1⟩ rfl ?_ ?_ ?_ ?_ (G.at0 e5 (by omega)) (by omega) ⟨by omega,fun b hb=>e5.g b (by omega)⟩ ?_ ?_ (by omega) (by omega)
   ·simp[p0]
   ·simp[p4]
   ·simp[p6]
   ·simp[p8]
   ·simp[K3]
   ·simp[bG _ _ _ _ (Ne.symm bU),eU]
  ·simp[bA,p0,p4,hb,gB,rN]
   refine(uc S (g.a 2)).mono ?_
   rintro o h3 bF ⟨rfl,e3⟩
   have n3:=e3.n
   have s3:=kTSu bF
   have aty:aa b8 h3=some (.cells [I 0,I 2,.str cmd.name.1 cmd.name.2,.nils,I 0,I 0,.str 0 0,.nils] .fix):=by rw[e3.g b8 h8n];exact hb8
   have e4:=E0 h3 bF (.cells (eU ⟨0,g.a 2⟩) .fix)
   have bU:b8≠bF:=fun e=>by rw[e] at h8n;omega
   have e5:Ext h nx0 (au b8 (some (.cells (K3 2 cmd (.slice bF 0 1 4)) .fix)) (au bF (some (.cells (eU ⟨0,g.a 2⟩) .fix)) h3)) bF.succ:=⟨by omega,fun b hb=>by rw[ax (by omega),ax (by omega)];exact e3.g b (by omega)⟩
   simp[p8,ax,h8n,aty,eU,bG _ _ _ _ bU]
   refine fin _ _ _ bF ⟨0,g.a 2⟩ rfl ?_ ?_ ?_ ?_ (G.at0 e5 (by omega)) (by omega) ⟨by omega,fun b hb=>e5.g b (by omega)⟩ ?_ ?_ (by omega) (by omega)
   ·simp[p0]
   ·simp[p4]
   ·simp[p6]
   ·simp[p8]
   ·simp[K3]
   ·simp[bG _ _ _ _ (Ne.symm bU),eU]
 ·have aLd:cmd.ar=0:=by cases cmd<;>simp[gQ.ar] at Ka ⊢
  have bU:(cmd.ar==1)=false:=by simpa using Ka
  rw[bU] at axm
  simp[axm]
  have key:=Ro S (aZZ:=[]) (n6:=n6) (tm:=ay) G hg O hx hl hk hn (.inl ⟨rfl,rfl⟩) h8 h80 h8n hm (by rw[aLd];rfl) (by simp) hc ho p0 p4 p6 p8
  simp only[bp,bw,bE,eu] at key
  exact key
end Ln
/-
 LN: the generator of histories: one step. No condition.
-/
namespace Ln
open Go.Sx Go
variable{C:cD}{X:Kn}(S:Std C X)
include S
theorem auB{bg n0:Key}{mi:Nat}{l:List Ev}{g g0:GS}{hB:T ag}{nxB:Key}{k:Nat}{cL cQ:AV}{oL oQ:Option Key}{h:T ag}{nx nx0 b8:Key}(G:ub bg n0 (jS mi) l g k cL cQ oL oQ h nx0)(hg:g.o=g0.o)(O:Old n0 hB nxB h nx)(hx:nx0.toNat≤nx.toNat)(hl:l.length≤100)(hk:k≤100)(hn:n0.toNat≤nx0.toNat){tm:T AV}{kk c n6:Nat}(rq:kk<1000000){cmd:gQ}(h8:aa b8 h=some (.cells (K3 c cmd .nils) .fix))(h80:nx0.toNat≤b8.toNat)(h8n:b8.toNat<nx.toNat)
  (hm:cmd∈az mi) (hc:c=0∨c=1∨c=2) (ho:g.o c=false) (q0:aa (K 0) tm=some (.ptr bg 0)) (q1:aa (K 1) tm=some (I kk)) (q4:aa (K 4) tm=some (I c)) (q6:aa (K 6) tm=some (I n6)) (q8:aa (K 8) tm=some (.ptr b8 0)) :
  eP C (.seq (.ops bL) (.seq (.staged bM ⟨[K 105,K 106,K 107,K 108,K 109,K 110,K 111],[]⟩) (.seq (.seq (.ops bK) (.cond (.t (K 124)) (.ops bA) .skip)) (.seq (.staged aU ⟨[K 134,K 135,K 136,K 137,K 138,K 139,K 140,K 141,K 142,K 143],[]⟩) (.seq (.ops aV) (.seq (.ops aW) (.seq (.ops aK) (.cond (.t (K 162)) (.ops aX) .skip)))))))) (bB [] (Uw bg n0 mi l g0 k hB nxB)) tm h nx:=by
 have hb:=G.oR
 have bn:=G.bn
 have hd1:Int.tdiv (kk:Int) 306=((kk / 306:Nat):Int):=rfl
 have hw1:cu .i64 ((kk / 306:Nat):Int)=((kk / 306:Nat):Int):=aq (by omega) (by omega)
 have hm1:Int.tmod ((kk / 306:Nat):Int) 3=((kk / 306%3:Nat):Int):=rfl
 have hw2:cu .i64 ((kk / 306%3:Nat):Int)=((kk / 306%3:Nat):Int):=aq (by omega) (by omega)
 generalize kk / 306%3=e3 at *
 generalize kk / 306=aSg at *
 have hb8:aa b8 h=some (.cells [I 0,I c,.str cmd.name.1 cmd.name.2,.nils,I 0,I 0,.str 0 0,.nils] .fix):=h8
 have bU:b8≠bg:=fun e=>by rw[e] at h80;omega
 simp only[bp,bE,bw]
 rcases hc with rfl|rfl|rfl
 ·obtain⟨G1,h81,O1⟩:=G.put0 (g':={g with a:=ko g.a 0 e3}) (nx:=nx) h8 h80
  obtain⟨G2,h82,O2⟩:=G1.put0 (g':={g with a:=ko g.a 0 e3,s:=ko g.s 0 cmd.name}) (nx:=nx) h81 h80
  have key:=fun ay a b c d=>I8 S (tm:=ay) (n6:=n6) G2 (g0:=g0) hg ((O.trans O1).trans O2) hx hl hk hn h82 h80 h8n hm (by simp) ho a b c d
  simp only[bp,bE,bw,eu] at key
  simp[gB,K3] at key
  simp[bL,q0,q1,q4,hb,gB,hd1,hw1,hm1,hw2]
  simp[bM,q0,q4,q8,hb8,gB,bG _ _ _ _ bU]
  refine key _ ?_ ?_ ?_ ?_<;>simp[q0,q4,q6,q8]
 ·obtain⟨G1,h81,O1⟩:=G.put0 (g':={g with a:=ko g.a 1 e3}) (nx:=nx) h8 h80
  obtain⟨G2,h82,O2⟩:=G1.put0 (g':={g with a:=ko g.a 1 e3,s:=ko g.s 1 cmd.name}) (nx:=nx) h81 h80
  have key:=fun ay a b c d=>I8 S (tm:=ay) (n6:=n6) G2 (g0:=g0) hg ((O.trans O1).trans O2) hx hl hk hn h82 h80 h8n hm (by simp) ho a b c d
  simp only[bp,bE,bw,eu] at key
  simp[gB,K3] at key
  simp[bL,q0,q1,q4,hb,gB,hd1,hw1,hm1,hw2]
  simp[bM,q0,q4,q8,hb8,gB,bG _ _ _ _ bU]
  refine key _ ?_ ?_ ?_ ?_<;>simp[q0,q4,q6,q8]
 ·obtain⟨G1,h81,O1⟩:=G.put0 (g':={g with a:=ko g.a 2 e3}) (nx:=nx) h8 h80
  obtain⟨G2,h82,O2⟩:=G1.put0 (g':={g with a:=ko g.a 2 e3,s:=ko g.s 2 cmd.name}) (nx:=nx) h81 h80
  have key:=fun ay a b c d=>I8 S (tm:=ay) (n6:=n6) G2 (g0:=g0) hg ((O.trans O1).trans O2) hx hl hk hn h82 h80 h8n hm (by simp) ho a b c d
  simp only[bp,bE,bw,eu] at key
  simp[gB,K3] at key
  simp[bL,q0,q1,q4,hb,gB,hd1,hw1,hm1,hw2]
  simp[bM,q0,q4,q8,hb8,gB,bG _ _ _ _ bU]
  refine key _ ?_ ?_ ?_ ?_<;>simp[q0,q4,q6,q8]
theorem auC{bg n0:Key}{mi:Nat}{l:List Ev}{g g0:GS}{hB:T ag}{nxB:Key}{k:Nat}{cL cQ:AV}{oL oQ:Option Key}{h:T ag}{nx nx0 b7:Key}(G:ub bg n0 (jS mi) l g k cL cQ oL oQ h nx0)(hg:g.o=g0.o)(O:Old n0 hB nxB h nx)(hx:nx0.toNat≤nx.toNat)(hl:l.length≤100)(hk:k≤100)(hn:n0.toNat≤nx0.toNat){tm:T AV}{kk c n6:Nat}(rq:kk<1000000)(hi:mi<3)(h7:aa b7 h=some (.cells [.str (DR mi 0).name.1 (DR mi 0).name.2,.str (DR mi 1).name.1 (DR mi 1).name.2,.str (DR mi 2).name.1 (DR mi 2).name.2] .fix))(h6:n6<6)(hc:c=0∨c=1∨c=2)(ho:g.o c=false)(q0:aa (K 0) tm=some (.ptr bg 0))(q1:aa (K 1) tm=some (I kk))(q4:aa (K 4) tm=some (I c))(q6:aa (K 6) tm=some (I n6))(q7:aa (K 7) tm=some (.slice b7 0 3 1)) :
  eP C (.seq (.ops cC) (.seq (.ops bL) (.seq (.staged bM ⟨[K 105,K 106,K 107,K 108,K 109,K 110,K 111],[]⟩) (.seq (.seq (.ops bK) (.cond (.t (K 124)) (.ops bA) .skip)) (.seq (.staged aU ⟨[K 134,K 135,K 136,K 137,K 138,K 139,K 140,K 141,K 142,K 143],[]⟩) (.seq (.ops aV) (.seq (.ops aW) (.seq (.ops aK) (.cond (.t (K 162)) (.ops aX) .skip))))))))) (bB [] (Uw bg n0 mi l g0 k hB nxB)) tm h nx:=by
 have s1:=kTSu nx
 have hm1:Int.tmod (n6:Int) 3=((n6%3:Nat):Int):=rfl
 have hw1:cu .i64 ((n6%3:Nat):Int)=((n6%3:Nat):Int):=aq (by omega) (by omega)
 have ht:n6%3=0∨n6%3=1∨n6%3=2:=by omega
 generalize n6%3=t at *
 simp only[bp,bE,bw]
 have key:∀ (cmd:gQ),cmd∈az mi→∀ ay,aa (K 0) ay=some (.ptr bg 0)→aa (K 1) ay=some (I kk)→aa (K 4) ay=some (I c)→aa (K 6) ay=some (I n6)→aa (K 8) ay=some (.ptr nx 0)→
   eP C (.seq (.ops bL) (.seq (.staged bM ⟨[K 105,K 106,K 107,K 108,K 109,K 110,K 111],[]⟩) (.seq (.seq (.ops bK) (.cond (.t (K 124)) (.ops bA) .skip)) (.seq (.staged aU ⟨[K 134,K 135,K 136,K 137,K 138,K 139,K 140,K 141,K 142,K 143],[]⟩) (.seq (.ops aV) (.seq (.ops aW) (.seq (.ops aK) (.cond (.t (K 162)) (.ops aX) .skip)))))))) (bB [] (Uw bg n0 mi l g0 k hB nxB)) ay (au nx (some (.cells (K3 c cmd .nils) .fix)) h) nx.succ:=by
  intro cmd hm ay p0 p1 p4 p6 p8
  have e1:=E0 h nx (.cells (K3 c cmd .nils) .fix)
  have e2:Ext h nx0 (au nx (some (.cells (K3 c cmd .nils) .fix)) h) nx0:=⟨fh _,fun b hb=>e1.g b (by omega)⟩
  exact auB S (G.at0 e2 (fh _)) hg (O.trans (Old.pr e1 (by omega))) (by omega) hl hk hn rq (by simp) (by omega) (by omega) hm hc ho p0 p1 p4 p6 p8
 simp only[bp,bE,bw,eu,K3] at key
 rcases ht with rfl|rfl|rfl
 ·have k0:=key _ (NR hi (t:=0) (by omega))
  simp[cC,q4,q6,q7,h7,hm1,hw1]
  refine k0 _ ?_ ?_ ?_ ?_ ?_<;>simp[q0,q1,q4,q6]
 ·have k0:=key _ (NR hi (t:=1) (by omega))
  simp[cC,q4,q6,q7,h7,hm1,hw1]
  refine k0 _ ?_ ?_ ?_ ?_ ?_<;>simp[q0,q1,q4,q6]
 ·have k0:=key _ (NR hi (t:=2) (by omega))
  simp[cC,q4,q6,q7,h7,hm1,hw1]
  refine k0 _ ?_ ?_ ?_ ?_ ?_<;>simp[q0,q1,q4,q6]
theorem aji{bg n0:Key}{mi:Nat}{l:List Ev}{g:GS}{k:Nat}{cL cQ:AV}{oL oQ:Option Key}{h:T ag}{nx:Key}(G:ub bg n0 (jS mi) l g k cL cQ oL oQ h nx)(hi:mi<3)(hl:l.length≤100)(hk:k≤100)(hn:n0.toNat≤nx.toNat){tm:T AV}{kk c:Nat}(rq:kk<1000000)(hc:c=0∨c=1∨c=2)(ho:g.o c=false)(q0:aa (K 0) tm=some (.ptr bg 0))(q1:aa (K 1) tm=some (I kk))(q4:aa (K 4) tm=some (I c)) :
  eP C (.seq (.ops fE) (.seq (.ops fF) (.seq (.seq (.ops dI) (.cond (.t (K 82)) (.ops fG) .skip)) (.seq (.seq (.ops dJ) (.cond (.t (K 88)) (.ops fH) .skip)) (.seq (.ops cC) (.seq (.ops bL) (.seq (.staged bM ⟨[K 105,K 106,K 107,K 108,K 109,K 110,K 111],[]⟩) (.seq (.seq (.ops bK) (.cond (.t (K 124)) (.ops bA) .skip)) (.seq (.staged aU ⟨[K 134,K 135,K 136,K 137,K 138,K 139,K 140,K 141,K 142,K 143],[]⟩) (.seq (.ops aV) (.seq (.ops aW) (.seq (.ops aK) (.cond (.t (K 162)) (.ops aX) .skip))))))))))))) (bB [] (Uw bg n0 mi l g k h nx)) tm h nx:=by
 have s1:=kTSu nx
 have s2:=kTSu nx.succ
 have hb:=G.oR
 have bn:=G.bn
 have Vd:Int.tdiv (kk:Int) 51=((kk / 51:Nat):Int):=rfl
 have Ve:cu .i64 ((kk / 51:Nat):Int)=((kk / 51:Nat):Int):=aq (by omega) (by omega)
 have hm6:Int.tmod ((kk / 51:Nat):Int) 6=((kk / 51%6:Nat):Int):=rfl
 have hw6:cu .i64 ((kk / 51%6:Nat):Int)=((kk / 51%6:Nat):Int):=aq (by omega) (by omega)
 have h6:kk / 51%6<6:=Nat.mod_lt _ (by omega)
 generalize kk / 51%6=n6 at *
 generalize kk / 51=e51 at *
 have e1:=E0 h nx (.cells [.str 3 7632240,.str 3 7628135,.str 3 7632240] .fix)
 have hb1:aa bg (au nx (some (.cells [.str 3 7632240,.str 3 7628135,.str 3 7632240] .fix)) h)=some (.cells (gB (jS mi) cL cQ g) .fix):=by rw[ax bn];exact hb
 simp only[bp,bE,bw,eu]
 simp[fE,q1,Vd,Ve,hm6,hw6]
 simp[fF]
 have fin:∀ (ay:T AV) (h2:T ag) (aH b7:Key),Ext h nx h2 aH→aa b7 h2=some (.cells [.str (DR mi 0).name.1 (DR mi 0).name.2,.str (DR mi 1).name.1 (DR mi 1).name.2,.str (DR mi 2).name.1 (DR mi 2).name.2] .fix)→aa (K 0) ay=some (.ptr bg 0)→aa (K 1) ay=some (I kk)→aa (K 4) ay=some (I c)→aa (K 6) ay=some (I n6)→aa (K 7) ay=some (.slice b7 0 3 1)→
   eP C (.seq (.ops cC) (.seq (.ops bL) (.seq (.staged bM ⟨[K 105,K 106,K 107,K 108,K 109,K 110,K 111],[]⟩) (.seq (.seq (.ops bK) (.cond (.t (K 124)) (.ops bA) .skip)) (.seq (.staged aU ⟨[K 134,K 135,K 136,K 137,K 138,K 139,K 140,K 141,K 142,K 143],[]⟩) (.seq (.ops aV) (.seq (.ops aW) (.seq (.ops aK) (.cond (.t (K 162)) (.ops aX) .skip))))))))) (bB [] (Uw bg n0 mi l g k h nx)) ay h2 aH:=by
  intro ay h2 aH b7 e h7 p0 p1 p4 p6 p7
  exact auC S (G.at0 e e.n) rfl (Old.pr e hn) e.n hl hk hn rq hi h7 h6 hc ho p0 p1 p4 p6 p7
 simp only[bp,bE,bw,eu] at fin
 have hmi:mi=0∨mi=1∨mi=2:=by omega
 rcases hmi with rfl|rfl|rfl
 ·simp[gB,jS] at hb1
  simp[DR,gQ.name] at fin
  simp[dI,q0,hb1]
  simp[dJ,q0,hb1]
  refine fin _ _ _ nx e1 ?_ ?_ ?_ ?_ ?_ ?_<;>simp[q0,q1,q4]
 ·simp[gB,jS] at hb1
  simp[DR,gQ.name] at fin
  have e2:=e1.trans (E0 _ nx.succ (.cells [.str 3 6516329,.str 4 1684104562,.str 3 6579297] .fix))
  simp[dI,q0,hb1]
  simp[fG]
  have Ch:∀ B,aa bg (au nx.succ (some B) (au nx (some (.cells [.str 3 7632240,.str 3 7628135,.str 3 7632240] .fix)) h))=_:=fun B=>(ax (by omega)).trans hb1
  simp[dJ,q0,Ch]
  refine fin _ _ _ nx.succ e2 ?_ ?_ ?_ ?_ ?_ ?_<;>simp[q0,q1,q4]
 ·simp[gB,jS] at hb1
  simp[DR,gQ.name] at fin
  have e2:=e1.trans (E0 _ nx.succ (.cells [.str 5 435744764535,.str 4 1684104562,.str 4 1684104562] .fix))
  simp[dI,q0,hb1]
  simp[dJ,q0,hb1]
  simp[fH]
  refine fin _ _ _ nx.succ e2 ?_ ?_ ?_ ?_ ?_ ?_<;>simp[q0,q1,q4]
end Ln
/-
 LN: the generator of histories, all of it. No condition.
-/
namespace Ln
open Go.Sx Go
inductive Jl(mi:Nat):List Ev→GS→Prop
 |nil (g:GS) (h:g.o=fun _=>false):Jl mi [] g
 |snoc {l:List Ev} {g g':GS} {x:Ev} (h:Jl mi l g) (s:Vc mi g x g'):Jl mi (l ++ [x]) g'
theorem Vc.few{mi:Nat}{g g':GS}{x:Ev}(s:Vc mi g x g'):x.args.length≤1∧0≤x.client∧x.client≤3:=by
 cases s with
 |lost h _=>subst h;simp
 |ends c r hc _ h _=>subst h;simp;omega
 |begins c cmd aZZ hc _ _ ha _ h _=>
  subst h
  have:cmd.ar≤1:=by cases cmd<;>decide
  refine⟨?_,?_,?_⟩
  ·show aZZ.length≤1;omega
  ·show(0:Int)≤c;omega
  ·show(c:Int)≤3;omega
theorem Jl.few{mi:Nat}{l:List Ev}{g:GS}(h:Jl mi l g):∀ x∈l,x.args.length≤1∧0≤x.client∧x.client≤3:=by
 induction h with
 |nil g h=>intro x hx;cases hx
 |snoc h s ih=>
  intro x hx
  rcases List.mem_append.1 hx with hx|hx
  ·exact ih x hx
  ·simp at hx;subst hx;exact s.few
theorem Jl.aDH{mi:Nat}{l:List Ev}{g:GS}(h:Jl mi l g)(hl:l.length≤16):Few l:=⟨hl,fun x hx=>Nat.le_trans (h.few x hx).1 (by omega),fun x hx=>(h.few x hx).2⟩
theorem _root_.Go.Sx.Rd.ixI{c:AV}{us:List Int}{h:T ag}{nx:Key}(g:Rd 1 c (aj eI us) us.length h nx){i:Nat}(hi:i<us.length){C:cD}{Q:dN}{L:List J}{tm:T AV}{n2 k1 k2 d1 d2:Key}(h1:aa k1 tm=some c)(h2:aa k2 tm=some (I i)) :
  mX C Q (⟨some d1,.indexL 1 (.t k1) (.t k2),none⟩ ::⟨some d2,.load false 1 (.t d1),none⟩ ::L) tm h n2=mX C Q L (au d2 (some (I us[i])) (au d1 (some (Ll 1 i c)) tm)) h n2:=by
 have Q1:(aj eI us).length=us.length:=uJ _
 have hd:=Ra hi
 have tl:1≤us.length-i:=by omega
 rcases g with⟨_,_,e⟩|⟨f,rfl⟩|⟨b,k,rfl,hb,_,_⟩
 ·omega
 ·simp[h1,h2,hi,Q1,hd,tl,Ll]
 ·simp[h1,h2,hi,Q1,Ll,hb]
variable{C:cD}{X:Kn}(S:Std C X)
include S
theorem auR{bg n0:Key}{mi:Nat}{l:List Ev}{g:GS}{k:Nat}{cL cQ:AV}{oL oQ:Option Key}{h:T ag}{nx:Key}(G:ub bg n0 (jS mi) l g k cL cQ oL oQ h nx)(hi:mi<3)(hl:l.length≤100)(hk:k≤100)(hn:n0.toNat≤nx.toNat){kk:Nat}(rq:kk<1000000) :
  aI C kJ [.ptr bg 0,I kk] h nx (Uw bg n0 mi l g k h nx):=by
 have hb:=G.oR
 have hm3:Int.tmod (kk:Int) 3=((kk%3:Nat):Int):=rfl
 have hw3:cu .i64 ((kk%3:Nat):Int)=((kk%3:Nat):Int):=aq (by omega) (by omega)
 have hd3:Int.tdiv (kk:Int) 3=((kk / 3:Nat):Int):=rfl
 have hv3:cu .i64 ((kk / 3:Nat):Int)=((kk / 3:Nat):Int):=aq (by omega) (by omega)
 have aFH:Int.tmod ((kk / 3:Nat):Int) 17=((kk / 3%17:Nat):Int):=rfl
 have aFI:cu .i64 ((kk / 3%17:Nat):Int)=((kk / 3%17:Nat):Int):=aq (by omega) (by omega)
 have hc:kk%3=0∨kk%3=1∨kk%3=2:=by omega
 generalize kk / 3%17=e17 at *
 generalize kk / 3=e3 at *
 generalize kk%3=c at *
 refine S.C0.call ?_
 simp[z3]
 simp[AZ,hm3,hw3]
 by_cases h16:e17=16
 ·have aB4:((e17:Int)==16)=true:=bt (by omega)
  have key:=fun ay a=>aqu S G hl hn (tm:=ay) a (Q:=av (eP C (.seq (.seq (.ops eh) (.cond (.t (K 34)) (.seq (.seq (.ops dx) (.cond (.t (K 40)) (.ops gv) .skip)) (.seq (.ops dy) (.seq (.seq (.ops cg) (.cond (.t (K 53)) (.ops dz) .skip)) (.seq (.staged bI ⟨[K 56,K 57,K 58,K 59,K 60,K 61,K 62,K 63,K 64,K 65,K 66,K 67,K 68],[]⟩) (.seq (.ops bJ) .ret))))) .skip)) (.seq (.ops fE) (.seq (.ops fF) (.seq (.seq (.ops dI) (.cond (.t (K 82)) (.ops fG) .skip)) (.seq (.seq (.ops dJ) (.cond (.t (K 88)) (.ops fH) .skip)) (.seq (.ops cC) (.seq (.ops bL) (.seq (.staged bM ⟨[K 105,K 106,K 107,K 108,K 109,K 110,K 111],[]⟩) (.seq (.seq (.ops bK) (.cond (.t (K 124)) (.ops bA) .skip)) (.seq (.staged aU ⟨[K 134,K 135,K 136,K 137,K 138,K 139,K 140,K 141,K 142,K 143],[]⟩) (.seq (.ops aV) (.seq (.ops aW) (.seq (.ops aK) (.cond (.t (K 162)) (.ops aX) .skip)))))))))))))) (bB [] (Uw bg n0 mi l g k h nx))) (bB [] (Uw bg n0 mi l g k h nx))) (fun _ _ _ hq=>hq)
  simp only[bp,bE] at key
  simp[sE,hd3,hv3,aFH,aFI,aB4]
  refine key _ ?_
  simp
 ·have aB4:((e17:Int)==16)=false:=bq (by omega)
  simp[sE,hd3,hv3,aFH,aFI,aB4]
  have vn:∀ tm' h' nx',bB [] (Uw bg n0 mi l g k h nx) .ret tm' h' nx'→av (eP C (.seq (.ops fE) (.seq (.ops fF) (.seq (.seq (.ops dI) (.cond (.t (K 82)) (.ops fG) .skip)) (.seq (.seq (.ops dJ) (.cond (.t (K 88)) (.ops fH) .skip)) (.seq (.ops cC) (.seq (.ops bL) (.seq (.staged bM ⟨[K 105,K 106,K 107,K 108,K 109,K 110,K 111],[]⟩) (.seq (.seq (.ops bK) (.cond (.t (K 124)) (.ops bA) .skip)) (.seq (.staged aU ⟨[K 134,K 135,K 136,K 137,K 138,K 139,K 140,K 141,K 142,K 143],[]⟩) (.seq (.ops aV) (.seq (.ops aW) (.seq (.ops aK) (.cond (.t (K 162)) (.ops aX) .skip))))))))))))) (bB [] (Uw bg n0 mi l g k h nx))) (bB [] (Uw bg n0 mi l g k h nx)) .ret tm' h' nx':=fun _ _ _ hq=>hq
  cases ho:g.o c with
  |true=>
   have key:=fun ay a b d=>aqv S G hl hk hn rq hc ho (tm:=ay) (Q:=av (eP C (.seq (.ops fE) (.seq (.ops fF) (.seq (.seq (.ops dI) (.cond (.t (K 82)) (.ops fG) .skip)) (.seq (.seq (.ops dJ) (.cond (.t (K 88)) (.ops fH) .skip)) (.seq (.ops cC) (.seq (.ops bL) (.seq (.staged bM ⟨[K 105,K 106,K 107,K 108,K 109,K 110,K 111],[]⟩) (.seq (.seq (.ops bK) (.cond (.t (K 124)) (.ops bA) .skip)) (.seq (.staged aU ⟨[K 134,K 135,K 136,K 137,K 138,K 139,K 140,K 141,K 142,K 143],[]⟩) (.seq (.ops aV) (.seq (.ops aW) (.seq (.ops aK) (.cond (.t (K 162)) (.ops aX) .skip))))))))))))) (bB [] (Uw bg n0 mi l g k h nx))) (bB [] (Uw bg n0 mi l g k h nx))) a b d vn
   simp only[bp,bE,eu,bw] at key
   clear vn
   rcases hc with rfl|rfl|rfl
   ·simp[eh,hb,gB,ho]
    refine key _ ?_ ?_ ?_<;>simp
   ·simp[eh,hb,gB,ho]
    refine key _ ?_ ?_ ?_<;>simp
   ·simp[eh,hb,gB,ho]
    refine key _ ?_ ?_ ?_<;>simp
  |false=>
   have key:=fun ay a b d=>aji S G hi hl hk hn rq hc ho (tm:=ay) a b d
   simp only[bp,bE,eu,bw] at key
   rcases hc with rfl|rfl|rfl
   ·simp[eh,hb,gB,ho]
    refine key _ ?_ ?_ ?_<;>simp
   ·simp[eh,hb,gB,ho]
    refine key _ ?_ ?_ ?_<;>simp
   ·simp[eh,hb,gB,ho]
    refine key _ ?_ ?_ ?_<;>simp
def aLV(mi:Nat)(n most:Nat)(c1:AV)(bg:Key)(h:T ag)(nx:Key)(m:Nat)(tm':T AV)(h':T ag)(nx':Key):Prop:=∃ (j:Nat) (l:List Ev) (g:GS) (cL cQ:AV) (oL oQ:Option Key),m=most-j∧j≤most∧j≤n∧l.length=j∧aa (K 1) tm'=some c1∧aa (K 2) tm'=some (I most)∧aa (K 7) tm'=some (.ptr bg 0)∧aa (K 8) tm'=some (I j)∧ub bg nx (jS mi) l g j cL cQ oL oQ h' nx'∧Jl mi l g∧Old nx h nx h' nx'
def aFJ(mi most:Nat)(h:T ag)(nx:Key)(o:Out)(h':T ag)(nx':Key):Prop:=∃ cR l g,o=.ret cR∧jN 8 eE cR l∧l.length≤most∧Jl mi l g∧Ext h nx h' nx'
theorem ajY{mi:Nat}(hi:mi<3){ks:List Int}(wQ:∀ x∈ks,qX x){c1:AV}(hc:jN 1 eI c1 ks){most:Nat}(hm:most≤16){h:T ag}{nx:Key}:aI C jo [dO mi,c1,I most] h nx (aFJ mi most h nx):=by
 have rA:C.raw bQ=false:=S.nr (by decide)
 have rG:C.raw kJ=false:=S.nr (by decide)
 have s1:=kTSu nx
 refine S.AR.call ?_
 simp[xh]
 simp[yJ]
 simp[yK]
 simp[yL]
 have G0:ub nx nx (jS mi) [] ⟨0,fun _=>0,fun _=>false,fun _=>false,fun _=>0,fun _=>(0,0)⟩ 0 .nils .nils none none (au nx (some (.cells (gB (jS mi) .nils .nils ⟨0,fun _=>0,fun _=>false,fun _=>false,fun _=>0,fun _=>(0,0)⟩) .fix)) h) nx.succ:=⟨by simp,Gr.nil _ _ _,⟨0,fh _,.inl ⟨rfl,rfl,rfl⟩⟩,fh _,by omega,(fun b hb=>by cases hb),(fun b hb=>by cases hb)⟩
 have e0:=E0 h nx (.cells (gB (jS mi) .nils .nils ⟨0,fun _=>0,fun _=>false,fun _=>false,fun _=>0,fun _=>(0,0)⟩) .fix)
 simp[gB] at G0 e0
 refine W.dQ (n:=most) (aLV mi ks.length most c1 nx h nx) ⟨0,[],_,_,_,_,_,by simp,by omega,by omega,rfl,by simp,by simp,by simp,by simp,G0,.nil _ rfl,by omega,fun b hb=>e0.g b hb⟩ ?_
 rintro m dn h1 bN ⟨j,l,g,cL,cQ,oL,oQ,rfl,hjm,hjn,hlj,g1,g2,g7,g8,G,hr,O⟩
 have nO:=O.n
 refine W.of ?_
 simp[yM]
 have hR:Rd 1 c1 (aj eI ks) ks.length h1 bN:=hc.rd _ _
 have fin:∀ ay:T AV,aa (K 7) ay=some (.ptr nx 0)→eP C (.seq (.ops qq) .ret) (bB [.tmp (K 6)] (aFJ mi most h nx)) ay h1 bN:=by
  intro ay q7
  have fr:=G.L.GM fe 9998
  have hb:=G.oR
  simp
  simp[qq,q7,hb,gB]
  refine⟨_,l,g,rfl,fr.1,by omega,hr,by omega,fun b hb=>?_⟩
  rw[fr.2 b (fun e=>by have:=(G.lo b e).1;omega)]
  exact O.g b hb
 simp only[bp,bE] at fin
 by_cases bz:j<ks.length
 ·have uA:(j:Int)<ks.length:=by omega
  by_cases aSI:j<most
  ·have aLX:(j:Int)<most:=by omega
   have hx:=wQ _ (Dn bz)
   have bO:=IU (m:=1000000) (by omega) ks[j]
   have Ka:=ud S hx (m:=1000000) (by omega) (by omega) (h:=h1) (nx:=bN)
   simp[↓hR.ln,lx,g1,g2,g8,uA,aLX]
   simp at Ka
   simp[↓hR.ixI bz,yN,g1,g7,g8,rA]
   refine Ka.mono ?_
   rintro o h2 aH ⟨rfl,rfl,rfl⟩
   simp[rG]
   refine(auR S G hi (by omega) (by omega) nO bO).mono ?_
   rintro o h3 bF ⟨rfl,x,g',cL',BH,oL',Fo,G3,O3,st⟩
   simp
   simp[yO,g8]
   rw[aq (by omega) (by omega)]
   exact⟨most-(j+1),by omega,j+1,l ++ [x],g',cL',BH,oL',Fo,rfl,by omega,by omega,by simp[hlj],by simp[g1],by simp[g2],by simp[g7],by simp,G3,hr.snoc st,O.trans O3⟩
  ·have qL:j=most:=by omega
   subst qL
   simp[↓hR.ln,lx,g1,g2,g8,uA]
   refine fin _ ?_
   simp[g7]
 ·have qL:j=ks.length:=by omega
  subst qL
  simp[↓hR.ln,lx,g1,g2,g8]
  refine fin _ ?_
  simp[g7]
end Ln
/-
 LN: the law of Check: its end. No condition.
-/
namespace Ln
open Go.Sx Go
theorem Rd.ord{c:AV}{l:List Int}{h:T ag}{nx:Key}(g:Rd 1 c (aj eI l) l.length h nx):Ord c l l.length h nx:=by
 refine⟨fh _,?_⟩
 rcases g with⟨e,_,e2⟩|⟨f,e⟩|⟨b,k,e,hb,hl,_⟩
 ·exact .inl ⟨e,e2⟩
 ·exact .inr (.inl ⟨f,by rw[List.take_length];exact e⟩)
 ·exact .inr (.inr ⟨b,k,e,hb,hl⟩)
theorem ajW(n:Int):Mb n<3:=IU (by omega) n
variable{C:cD}{X:Kn}(S:Std C X)
include S
end Ln
/-
 LN: the law of Check: the orders, one by one. No condition.
-/
namespace Ln
open Go.Sx Go
structure az0(c:AV)(h:T ag)(nx:Key):Prop where
 ex:∃ ord:List Int,ord.length≤1000∧Ord c ord ord.length h nx
 bq:AV.beq c c=true
theorem az0.ext{c:AV}{h h':T ag}{nx nx':Key}(o:az0 c h nx)(e:Ext h nx h' nx'):az0 c h' nx':=by
 obtain⟨ord,h1,h2⟩:=o.ex
 exact⟨⟨ord,h1,h2.ext e⟩,o.bq⟩
variable{C:cD}{X:Kn}(S:Std C X)
include S
end Ln
/-
 LN: the law of Check: the list of orders. No condition.
-/
namespace Ln
open Go.Sx Go
variable{C:cD}{X:Kn}(S:Std C X)
include S
end Ln
/-
 LN: a proof out of configurations: the law's. No condition.
-/
namespace Ln
open Go.Sx Go
theorem axT{α:Type}{z:Nat}{enc:α→List AV}(F:Flat z enc){l:List α}{j o:Nat}(hj:j<l.length)(ho:o<z):(aj enc l)[j*z+o]?=(enc l[j])[o]?:=by
 have:=F.at hj
 rw[← this,List.getElem?_take,if_pos ho,List.getElem?_drop]
theorem aB1{l:List Ci}{j:Nat}(hj:j<l.length):List.take 4 (List.drop (j*5+1) (aj eD l))=eS l[j].2:=by
 have h1:List.drop (j*5+1) (aj eD l)=List.drop 1 (List.drop (j*5) (aj eD l)):=by rw[List.drop_drop]
 have h2:List.take 4 (List.drop 1 (List.drop (j*5) (aj eD l)))=List.drop 1 (List.take 5 (List.drop (j*5) (aj eD l))):=by rw[List.drop_take]
 rw[h1,h2,dF.at hj]
 rfl
def PrI(l:List Ci)(c0:AV)(n0:Key)(h0:T ag)(m:Nat)(tm':T AV)(h':T ag)(nx':Key):Prop:=∃ (j:Nat) (cP:AV) (ob:Option Key),m=l.length-j∧j≤l.length∧aa (K 0) tm'=some c0∧aa (K 2) tm'=some (.ptr n0 0)∧aa (K 3) tm'=some (.ptr n0.succ 0)∧aa (K 4) tm'=some (I j)∧aa n0 h'=some (.cells [.nils] .fix)∧aa n0.succ h'=some (.cells [cP] .fix)∧n0.succ.toNat<nx'.toNat∧
 Gr 5 cP (aj eD (l.take j)) (l.take j).length h' nx' ob∧(∀ b,ob=some b→n0.succ.toNat<b.toNat)∧Ext h0 n0 h' nx'
variable{C:cD}{X:Kn}(S:Std C X)
include S
theorem auH{l:List Ci}(hl:l.length≤10000){c0:AV}{h:T ag}{nx:Key}(hR:Rd 5 c0 (aj eD l) l.length h nx) :
  aI C mq [c0] h nx (fun o h' nx'=>(∃ cP,o=.ret (.agg [cP])∧jN 5 eD cP l)∧Ext h nx h' nx'):=by
 have s1:=kTSu nx
 have s2:=kTSu nx.succ
 refine S.Ez.call ?_
 simp[CQ]
 simp[C8]
 simp[C9]
 simp[Da]
 have e2:=(E0 h nx (.cells [.nils] .fix)).trans (E0 _ nx.succ (.cells [.nils] .fix))
 refine W.dQ (n:=l.length) (PrI l c0 nx h) ⟨0,.nils,none,by simp,by omega,by simp,by simp,by simp,by simp,by rw[ax (by omega)];simp,by simp,by omega,Gr.nil _ _ _,by simp,e2⟩ ?_
 rintro m dn h1 bN ⟨j,cP,ob,rfl,hj,g0,g2,g3,g4,v2,v3,lt,G,hob,e1⟩
 have n1:=e1.n
 have t1:=kTSu bN
 have t2:=kTSu bN.succ
 refine W.of ?_
 simp[Db]
 have R1:Rd 5 c0 (aj eD l) l.length h1 bN:=hR.ext e1
 have hr:=dF.rows l
 by_cases bz:j<l.length
 ·have uA:(j:Int)<l.length:=by omega
  have ec:=dF.at bz
  have tx:5≤l.length*5-j*5:=by omega
  have r0:(aj eD l)[j*5]?=some (I l[j].1):=by
   have:=axT dF bz (o:=0) (by omega)
   rw[Nat.add_zero] at this;exact this
  have r0':∀ hh:j*5<(aj eD l).length,(aj eD l)[j*5]'hh=I l[j].1:=fun hh=>by
   have:=Pe hh
   rw[r0] at this;exact(Option.some.inj this).symm
  have r1:=aB1 bz
  have tx4:4≤l.length*5-(j*5+1):=by omega
  have ed0:(eD l[j])[0]?=some (I l[j].1):=rfl
  have edt:List.take 4 (eD l[j]).tail=eS l[j].2:=rfl
  have eds:I l[j].1 ::eS l[j].2=eD l[j]:=rfl
  simp[↓R1.ln,vo,g0,g4,uA]
  have e3:=E0 h1 bN (.cells (eD l[j]) .fix)
  have aSw:(l.take j).length=j:=by rw[zqy,Nat.min_eq_left (by omega)]
  obtain⟨c6,h6,nx6,o6,ha,G6,F6⟩:=(G.ext e3).Fm dF (by decide) (by decide) (by omega) l[j]
  have gc:=G6.cell
  rw[← zqu bz] at G6
  have F:=(tO.pr e3 ob).trans F6
  have nF:=F.n
  have obn:∀ b,b.toNat≤nx.succ.toNat→ob≠some b:=fun b hb e=>by have:=hob b e;omega
  have v26:aa nx h6=some (.cells [.nils] .fix):=by rw[F.g nx (by omega) (obn _ (by omega))];exact v2
  have v36:aa nx.succ h6=some (.cells [cP] .fix):=by rw[F.g nx.succ lt (obn _ (by omega))];exact v3
  have o6n:∀ b,o6=some b→nx.succ.toNat<b.toNat:=fun b e=>by
   rcases F.o with h|⟨b',h,fL⟩
   ·rw[h] at e;exact hob b e
   ·rw[h] at e;cases e;omega
  have e6:Ext h nx h6 nx6:=⟨by omega,fun b hb=>by rw[F.g b (by omega) (obn _ (by omega))];exact e1.g b hb⟩
  have fin:∀ ay:T AV,aa (K 0) ay=some c0→aa (K 2) ay=some (.ptr nx 0)→aa (K 3) ay=some (.ptr nx.succ 0)→aa (K 4) ay=some (I j)→
    mX C (av (fun tm h' nx'=>∃ m,m<l.length-j∧PrI l c0 nx h m tm h' nx') (al 0 (av (eP C (.seq (.ops vp) .ret) (bB [.cell (K 2) true 1] fun o h' nx'=>(∃ cP,o=.ret (.agg [cP])∧jN 5 eD cP l)∧Ext h nx h' nx')) (bB [.cell (K 2) true 1] fun o h' nx'=>(∃ cP,o=.ret (.agg [cP])∧jN 5 eD cP l)∧Ext h nx h' nx')))) vq ay (au nx.succ (some (.cells [c6] .fix)) h6) nx6:=by
   intro ay q0 q2 q3 q4
   simp[vq,q4]
   rw[aq (by omega) (by omega)]
   exact⟨l.length-(j+1),by omega,j+1,c6,o6,rfl,by omega,by simp[q0],by simp[q2],by simp[q3],by simp,by rw[ax (by omega)];exact v26,by simp,by omega,G6.ew (fh _) (fun b hb=>bG _ _ _ _ (by rintro rfl;have:=o6n _ hb;omega)),o6n,e6.put (by omega)⟩
  rcases R1 with⟨_,_,e⟩|⟨f,rfl⟩|⟨b,k,rfl,hb,Iq,_⟩
  ·omega
  ·simp[-appendTo,vr,g0,g3,g4,v3,bz,hr,tx,ec,ed0,edt,eds,Ao,lenS,B9,asw,ha,gc,v36]
   refine fin _ ?_ ?_ ?_ ?_<;>simp[g0,g2,g3,g4]
  ·simp[-appendTo,vr,g0,g3,g4,v3,hb,bz,hr,tx,tx4,r0',r1,eds,Ao,lenS,B9,asw,ha,gc,v36]
   refine fin _ ?_ ?_ ?_ ?_<;>simp[g0,g2,g3,g4]
 ·have qL:j=l.length:=by omega
  subst qL
  rw[List.take_length] at G
  have gc:=G.cell
  have G':Gr 5 cP (aj eD l) l.length (au nx (some (.cells [cP] .fix)) h1) bN ob:=G.ew (fh _) fun b hb=>bG _ _ _ _ (by rintro rfl;have:=hob _ hb;omega)
  have fr:=G'.GM dF 9997
  simp[↓R1.ln,vo,g0,g4]
  simp[vp,g2,g3,v2,v3,gc]
  exact⟨fr.1,e1.n,fun b hb=>by rw[fr.2 b (fun e=>by have:=hob b e;omega),ax hb];exact e1.g b hb⟩
end Ln
/-
 LN: the histories of the generator are without fault. No condition.
-/
namespace Ln
open Go.Sx Go
theorem Kj(x:Ev):∀ (l p:List Ev),bk p l=0→bk p (l ++ [x])=xk (l.reverse++p) x
 | [],p,_=>by
  show(match xk p x with|0=>bk (x ::p) []|n=>n)=xk p x
  cases xk p x<;>rfl
 |y ::l,p,h=>by
  have h':(match xk p y with|0=>bk (y ::p) l|n=>n)=0:=h
  have hb:xk p y=0:=by
   cases hb:xk p y with
   |zero=>rfl
   |succ n=>rw[hb] at h';simp at h'
  have hv:bk (y ::p) l=0:=by simpa[hb] using h'
  show(match xk p y with|0=>bk (y ::p) (l ++ [x])|n=>n)=_
  simp only[hb]
  rw[Kj x l (y ::p) hv]
  simp
theorem Wt(i:Nat)(x:Ev)(o:Op):(mz i x o).name=o.name∧(mz i x o).args=o.args∧(mz i x o).b=o.b:=by
 unfold mz
 split
 ·split
  ·exact⟨rfl,rfl,rfl⟩
  ·split<;>exact⟨rfl,rfl,rfl⟩
 ·exact⟨rfl,rfl,rfl⟩
theorem L4{i:Nat}:∀ {l:List Op},(∀ o∈l,∃ c,kD i o.name=some c∧o.args.length=c.ar)→jR i l=0
 | [],_=>rfl
 |o ::l,h=>by
  obtain⟨c,h1,h2⟩:=h o (by simp)
  show(match kD i o.name with|none=>6|some c=>if o.args.length=c.ar then jR i l else 1)=0
  rw[h1]
  simp only[h2,if_true]
  exact L4 fun o ho=>h o (by simp[ho])
theorem at4{i:Nat}(hi:i<3){c:gQ}(h:c∈az i):kD i c.name=some c:=by
 have:i=0∨i=1∨i=2:=by omega
 rcases this with rfl|rfl|rfl<;>cases c<;>first|(exact absurd h (by decide))|decide
theorem aBK(c:gQ):c.name≠(0,0)∧c.name.1≤16∧c.ar≤1:=by cases c<;>decide
structure Cln(mi:Nat)(l:List Ev)(g:GS):Prop where
 v:bk [] l=0
 o:∀ c:Nat,c<3→(g.o c=true↔0≤fU c l.reverse)
 b:jR mi (cU 0 l)=0
theorem Cln.nil(mi:Nat){g:GS}(h:g.o=fun _=>false):Cln mi [] g:=⟨rfl,fun c _=>by simp[h,fU],rfl⟩
theorem Cln.step{mi:Nat}(hi:mi<3){l:List Ev}{g g':GS}{x:Ev}(C:Cln mi l g)(s:Vc mi g x g'):Cln mi (l ++ [x]) g':=by
 have hv:=Kj x l [] C.v
 have hold:∀ o∈(cU 0 l).map (mz (0+l.length) x),∃ c,kD mi o.name=some c∧o.args.length=c.ar:=by
  intro o ho
  obtain⟨o',KN,rfl⟩:=Fa.1 ho
  obtain⟨n1,n2,_⟩:=Wt (0+l.length) x o'
  rw[n1,n2]
  exact Tz C.b o' KN
 cases s with
 |lost h ho=>
  refine⟨?_,?_,?_⟩
  ·rw[hv]
   subst h
   rfl
  ·intro c hc
   rw[ho,List.reverse_append]
   have:fU (c:Int) (x ::l.reverse)=-1:=aot (by subst h;rfl)
   show(false=true↔0≤fU (c:Int) (x ::l.reverse))
   rw[this]
   simp
  ·refine L4 ?_
   rw[yA]
   subst h
   intro o ho
   rcases List.mem_append.1 ho with ho|ho
   ·exact hold o ho
   ·simp at ho
 |ends c r hc ho h KN=>
  have Sm:=(C.o c hc).1 ho
  refine⟨?_,?_,?_⟩
  ·rw[hv]
   subst h
   unfold xk
   have h1:pt ⟨1,c,(0,0),[],⟨0,r⟩⟩=true:=by
    unfold pt
    rw[decide_eq_true_eq]
    simp[v7]
    omega
   rw[h1]
   simp
   omega
  ·intro d hd
   have hx:x.kind=1:=by subst h;rfl
   have hxc:x.client=c:=by subst h;rfl
   rw[KN,List.reverse_append]
   show((ko g.o c false) d=true↔0≤fU (d:Int) (x ::l.reverse))
   rw[aou hx,hxc]
   by_cases e:d=c
   ·subst e
    simp[ko]
   ·have e':¬ (d:Int)=c:=by omega
    rw[if_neg e']
    have:ko g.o c false d=g.o d:=by simp[ko,e]
    rw[this]
    exact C.o d hd
  ·refine L4 ?_
   rw[yA]
   intro o ho
   rcases List.mem_append.1 ho with ho|ho
   ·exact hold o ho
   ·rw[if_neg (by subst h;simp)] at ho
    simp at ho
 |begins c cmd aZZ hc ho hm ha hk h KN=>
  have Sm:¬ 0≤fU c l.reverse:=fun q=>by
   have:=(C.o c hc).2 q
   rw[ho] at this
   simp at this
  obtain⟨k1,k2,k3⟩:=aBK cmd
  refine⟨?_,?_,?_⟩
  ·rw[hv]
   subst h
   unfold xk
   have h1:pt ⟨0,c,cmd.name,aZZ,⟨0,0⟩⟩=true:=by
    unfold pt
    rw[decide_eq_true_eq]
    have ha':aZZ.all v7=true:=vV.2 fun u hu=>by simp[v7,hk u hu]
    have:aZZ.length≤16:=by omega
    refine⟨by simp,by simp,by simp,by show(c:Int)≤3;omega,.inl ⟨rfl,rfl,k1,k2,this,ha'⟩⟩
   rw[h1]
   simp
   omega
  ·intro d hd
   have hx:x.kind=0:=by subst h;rfl
   have hxc:x.client=c:=by subst h;rfl
   rw[KN,List.reverse_append]
   show((ko g.o c true) d=true↔0≤fU (d:Int) (x ::l.reverse))
   rw[aov hx,hxc]
   by_cases e:d=c
   ·subst e
    simp[ko]
   ·have e':¬ (d:Int)=c:=by omega
    rw[if_neg e']
    have:ko g.o c true d=g.o d:=by simp[ko,e]
    rw[this]
    exact C.o d hd
  ·refine L4 ?_
   rw[yA]
   intro o ho
   rcases List.mem_append.1 ho with ho|ho
   ·exact hold o ho
   ·rw[if_pos (by subst h;rfl)] at ho
    simp at ho
    subst ho
    subst h
    exact⟨cmd,at4 hi hm,ha⟩
theorem Jl.cln{mi:Nat}(hi:mi<3){l:List Ev}{g:GS}(h:Jl mi l g):Cln mi l g:=by
 induction h with
 |nil g h=>exact Cln.nil mi h
 |snoc h s ih=>exact ih.step hi s
theorem Jl.code{mi:Nat}(hi:mi<3){l:List Ev}{g:GS}(h:Jl mi l g):nw mi l=0:=by
 have C:=h.cln hi
 unfold nw
 rw[if_pos C.v,C.b]
def Fwd(o:Op):Prop:=(o.e<0∨(o.b:Int)≤o.e)∧(o.lost<0∨(o.b:Int)≤o.lost)
theorem N3:∀ (l:List Ev) (o:Op) (i:Nat),o.b≤i→Fwd o→Fwd (follow o i l)
 | [],o,i,_,h=>h
 |x ::l,o,i,hb,h=>by
  refine N3 l (mz i x o) (i+1) (by rw[(Wt i x o).2.2];omega) ?_
  unfold mz
  split
  ·split
   ·exact⟨h.1,.inr (by show(o.b:Int)≤(i:Int);omega)⟩
   ·split
    ·exact⟨.inr (by show(o.b:Int)≤(i:Int);omega),h.2⟩
    ·exact h
  ·exact h
theorem Wu:∀ (l:List Ev) (i:Nat),∀ o∈cU i l,Fwd o
 | [],i,o,ho=>by simp[cU] at ho
 |x ::l,i,o,ho=>by
  rcases List.mem_append.1 ho with ho|ho
  ·split at ho
   ·simp at ho
    subst ho
    exact N3 l _ _ (by show i≤i+1;omega) ⟨.inl (by show(-1:Int)<0;omega),.inl (by show(-1:Int)<0;omega)⟩
   ·simp at ho
  ·exact Wu l (i+1) o ho
theorem Wv{l:List Ev}{i:Nat}:∀ o∈cU i l,before o o=false:=by
 intro o ho
 obtain⟨h1,h2⟩:=Wu l i o ho
 unfold before
 rw[decide_eq_false_iff_not]
 omega
end Ln
/-
 LN: configurations compared: the program. No condition.
-/
namespace Ln
open Go.Sx Go
def cI(a b:Int):Int:=if a<b then -1 else if b<a then 1 else 0
def Tl(a b:Ci):Int:=if a.1<b.1 then -1 else if b.1<a.1 then 1 else wV a.2 b.2
theorem HJ{a b:Ci}:Tl a b<0↔D9 a b:=by
 unfold Tl D9
 by_cases h:a.1<b.1
 ·simp[h]
 ·by_cases h2:b.1<a.1
  ·simp[h,h2];omega
  ·have:a.1=b.1:=by omega
   simp[h,h2,this]
theorem anI{a b:Ci}:Tl a b=0↔a=b:=by
 unfold Tl
 by_cases h:a.1<b.1
 ·simp[h]
  rintro rfl;omega
 ·by_cases h2:b.1<a.1
  ·simp[h,h2]
   rintro rfl;omega
  ·have e:a.1=b.1:=by omega
   simp[h,h2]
   constructor
   ·intro q;exact Prod.ext e (Dw.1 q)
   ·rintro rfl;exact Dw.2 rfl
theorem anJ(a:Ci):¬ D9 a a:=by
 intro h
 have:=HJ.2 h
 rw[anI.2 rfl] at this
 omega
variable{C:cD}{X:Kn}(S:Std C X)
include S
theorem au0(a:Int){h:T ag}{nx:Key}:aI C gx [I a] h nx (fun o h' nx'=>o=.ret (.bool false)∧h'=h∧nx'=nx):=by
 refine S.AO.call ?_
 simp[xc]
 simp[zd]
 simp[ze]
theorem arv(a b:Int){h:T ag}{nx:Key}:aI C gJ [I a,I b] h nx (fun o h' nx'=>o=.ret (I (cI a b))∧h'=h∧nx'=nx):=by
 have rn:C.raw gx=false:=S.nr (by decide)
 refine S.wz.call ?_
 simp[sw]
 simp[vu]
 simp[vw,rn]
 refine(au0 S a).mono ?_
 rintro o h1 bN ⟨rfl,rfl,rfl⟩
 simp
 simp[vz,rn]
 refine(au0 S b).mono ?_
 rintro o h1 bN ⟨rfl,rfl,rfl⟩
 simp
 simp[vA]
 simp[vB]
 by_cases h1:a<b
 ·simp[mP,h1]
  simp[tG,cI,h1]
 ·simp[mP,h1]
  by_cases h2:b<a
  ·simp[l3,h2]
   simp[tH,cI,h1,h2]
  ·simp[l3,h2]
   simp[tI,cI,h1,h2]
omit S in
theorem ax3{a b:Int}{j:Nat}(hj:j<2):List.take 1 (List.drop j [I a,I b])=[I (if j=0 then a else b)]:=by
 match j,hj with
 |0,_=>rfl
 |1,_=>rfl
def OrI(a b:Int)(h:T ag)(nx:Key)(m:Nat)(tm':T AV)(h':T ag)(nx':Key):Prop:=∃ j:Nat,m=2-j∧j≤2∧aa (K 3) tm'=some (I 0)∧aa (K 6) tm'=some (.sl [I a,I b] 2 1 .any)∧aa (K 7) tm'=some (I 2)∧aa (K 8) tm'=some (I j)∧h'=h∧nx'=nx∧(0<j→a=0)∧(1<j→b=0)
theorem aFN(a b:Int){h:T ag}{nx:Key}:aI C nV [.sl [I a,I b] 2 1 .any] h nx (fun o h' nx'=>o=.ret (I (if a=0 then b else a))∧h'=h∧nx'=nx):=by
 refine S.HT.call ?_
 simp[FI]
 simp[EO]
 simp[EP]
 simp[ER]
 refine W.dQ (n:=2) (OrI a b h nx) ⟨0,by simp,by omega,by simp,by simp,by simp,by simp,rfl,rfl,by omega,by omega⟩ ?_
 rintro m dn h1 bN ⟨j,rfl,hj,g3,g6,g7,g8,rfl,rfl,ha,hb⟩
 refine W.of ?_
 simp[ES]
 by_cases hj2:j<2
 ·have uA:(j:Int)<2:=by omega
  have tx:1≤2-j:=by omega
  have tg:=ax3 (a:=a) (b:=b) hj2
  simp[xr,g7,g8,uA]
  simp[ET,g6,g8,hj2,tx,tg]
  by_cases hz:(if j=0 then a else b)=0
  ·simp[xu,g3,hz]
   simp[EU,g8]
   rw[aq (by omega) (by omega)]
   refine⟨2-(j+1),by omega,j+1,rfl,by omega,by simp[g3],by simp[g6],by simp[g7],by simp,rfl,rfl,?_,?_⟩
   ·intro _
    by_cases h0:j=0
    ·rw[if_pos h0] at hz;exact hz
    ·exact ha (by omega)
   ·intro _
    rw[if_neg (by omega)] at hz;exact hz
  ·simp[xu,g3,bq hz]
   simp[EV]
   by_cases h0:j=0
   ·rw[if_pos h0] at hz
    simp[h0,hz]
   ·have:=ha (by omega)
    simp[h0,this]
 ·have qL:j=2:=by omega
  subst qL
  have h1:=ha (by omega)
  have h2:=hb (by omega)
  simp[xr,g7,g8]
  simp[EW,g3,h1,h2]
theorem FE{a b:Ci}(ha:a.2.kids.length≤3)(hb:b.2.kids.length≤3):RY C cW [.agg (eD a),.agg (eD b)] (·=.ret (I (Tl a b))):=by
 intro h nx
 have s1:=kTSu nx
 have s2:=kTSu nx.succ
 have s3:=kTSu nx.succ.succ
 have rC:C.raw gJ=false:=S.nr (by decide)
 have rV:C.raw il=false:=S.nr (by decide)
 have rO:C.raw nV=false:=S.nr (by decide)
 have ac1:=aZ a.2.kids
 have ac2:=aZ b.2.kids
 have af1:∀ n H,aO n (aC a.2.kids) H=(aC a.2.kids,H):=dp _
 have af2:∀ n H,aO n (aC b.2.kids) H=(aC b.2.kids,H):=dp _
 obtain⟨a1,a2⟩:=a
 obtain⟨b1,b2⟩:=b
 refine S.yC.call ?_
 simp[u6]
 simp[wE,eD,ac1.1,ac2.1]
 have e1:=(E0 h nx (.cells (eD (a1,a2)) .fix)).trans (E0 _ nx.succ (.cells (eD (b1,b2)) .fix))
 have q1:aa nx (au nx.succ (some (.cells (eD (b1,b2)) .fix)) (au nx (some (.cells (eD (a1,a2)) .fix)) h))=some (.cells (eD (a1,a2)) .fix):=by rw[ax (by omega)];simp
 have q2:aa nx.succ (au nx.succ (some (.cells (eD (b1,b2)) .fix)) (au nx (some (.cells (eD (a1,a2)) .fix)) h))=some (.cells (eD (b1,b2)) .fix):=by simp
 simp only[eD] at e1 q1 q2
 generalize au nx.succ (some (.cells [I b1,I b2.k,I b2.n,.str 0 0,aC b2.kids] .fix)) (au nx (some (.cells [I a1,I a2.k,I a2.n,.str 0 0,aC a2.kids] .fix)) h)=h1 at *
 simp[wF,q1,q2,rC,af1,af2]
 refine(arv S a1 b1).mono ?_
 rintro o h2 aH ⟨rfl,rfl,rfl⟩
 have bs1:=az3 a2
 have bs2:=az3 b2
 simp[eS] at bs1 bs2
 simp[q1,q2,bs1,bs2,rV,af1,af2]
 refine aI.known (S.pJ a2 b2 ha hb _ _) ?_
 have hz:aO 9999 (.slice nx.succ.succ 0 2 1) (au nx.succ.succ (some (.cells [I (cI a1 b1),I (wV a2 b2)] .fix)) h2)=(.sl [I (cI a1 b1),I (wV a2 b2)] 2 1 .any,au nx.succ.succ (some (.cells [I (cI a1 b1),I (wV a2 b2)] .ro)) (au nx.succ.succ (some (.cells [I (cI a1 b1),I (wV a2 b2)] .fix)) h2)):=by
  refine Dx (n:=9998) (by simp) rfl ?_
  intro y hy
  simp at hy
  rcases hy with rfl|rfl<;>exact dS _ _
 simp[rO,hz]
 refine(aFN S (cI a1 b1) (wV a2 b2)).mono ?_
 rintro o h2 aH ⟨rfl,rfl,rfl⟩
 simp
 refine⟨?_,?_⟩
 ·unfold cI Tl
  by_cases h1:a1<b1
  ·simp[h1]
  ·by_cases h2:b1<a1
   ·simp[h1,h2]
   ·simp[h1,h2]
 ·exact⟨by have:=e1.n;omega,fun b hb=>by rw[ax (by omega)];exact e1.g b hb⟩
end Ln
/-
 LN: a configuration looked for in a sorted row: the program. No condition.
-/
namespace Ln
open Go.Sx Go
theorem aBr{n:Int}(h:0≤n)(k:n<18446744073709551616):cu .u64 n=n:=by
 unfold cu full half
 simp only[FD]
 have:Int.emod n 18446744073709551616=n:=Int.emod_eq_of_lt h k
 rw[this]
 have hl:decide (n<18446744073709551616)=true:=by simpa using k
 rw[hl];rfl
def BsI(l:List Ci)(x:Ci)(c0:AV)(b4:Key)(h:T ag)(nx:Key)(m:Nat)(tm':T AV)(h':T ag)(nx':Key):Prop:=∃ i j:Nat,m=j-i∧i≤j∧j≤l.length∧aa (K 0) tm'=some c0∧aa (K 2) tm'=some (.fn cW [] [])∧aa (K 4) tm'=some (.ptr b4 0)∧aa (K 8) tm'=some (I l.length)∧aa (K 9) tm'=some (I i)∧aa (K 10) tm'=some (I j)∧
 aa b4 h'=some (.cells (eD x) .fix)∧b4.toNat<nx'.toNat∧Ext h nx h' nx'∧(∀ q (hq:q<l.length),q<i→D9 l[q] x)∧(∀ q (hq:q<l.length),j≤q→¬ D9 l[q] x)
variable{C:cD}{X:Kn}(S:Std C X)
include S
theorem akK{l:List Ci}(hl:l.length≤10000)(hk:∀ y∈l,y.2.kids.length≤3)(hs:l.Pairwise D9){x:Ci}(hx:x.2.kids.length≤3){c0:AV}(hc:jN 5 eD c0 l){h:T ag}{nx:Key} :
  aI C aL [c0,.agg (eD x),.fn cW [] []] h nx (fun o h' nx'=>(∃ p:Int,o=.ret (.tuple [I p,.bool (decide (x∈l))]))∧Ext h nx h' nx'):=by
 have rC:C.raw cW=false:=S.nr (by decide)
 have s1:=kTSu nx
 have hg:=List.pairwise_iff_getElem.1 hs
 have hr:=dF.rows l
 refine S.du.call ?_
 simp[cn]
 simp[da,asx,Ao]
 have e0:=E0 h nx (.cells (eD x) .fix)
 have b4:aa nx (au nx (some (.cells (eD x) .fix)) h)=some (.cells (eD x) .fix):=by simp
 generalize au nx (some (.cells (eD x) .fix)) h=h1 at *
 have R0:Rd 5 c0 (aj eD l) l.length h1 nx:=hc.rd _ _
 simp[↓R0.ln,db]
 simp[dc]
 refine W.dQ (n:=l.length) (BsI l x c0 nx h nx) ⟨0,l.length,by simp,by omega,by omega,by simp,by simp,by simp,by simp,by simp,by simp,b4,by omega,e0,fun q _ h=>absurd h (by omega),fun q hq h=>absurd h (by omega)⟩ ?_
 rintro m dn h2 aH ⟨i,j,rfl,hij,hj,g0,g2,g4,g8,g9,DQ,bx,ltx,e2,ta,hhi⟩
 have n2:=e2.n
 refine W.of ?_
 simp[dd]
 by_cases bO:i<j
 ·have as4:(i:Int)<j:=by omega
  have Hr:c0=.sl (aj eD l) l.length 5 .any:=by
   rcases hc with⟨_,rfl⟩|e
   ·simp at hj;omega
   ·exact e
  have Pl:=g0
  rw[Hr] at Pl
  simp[bR,g9,DQ,as4]
  have w1:cu .i64 ((i:Int)+j)=((i+j:Nat):Int):=by rw[aq (by omega) (by omega)];omega
  have w2:cu .u64 ((i+j:Nat):Int)=((i+j:Nat):Int):=aBr (by omega) (by omega)
  obtain⟨md,hmd⟩:∃ md,md=(i+j) / 2:=⟨_,rfl⟩
  have w3:cu .i64 (((i+j).div 2:Nat):Int)=(md:Int):=by
   have:(i+j).div 2=md:=hmd.symm
   rw[this,aq (by omega) (by omega)]
  have hm:md<l.length:=by omega
  have hmi:i≤md∧md<j:=by omega
  generalize i+j=ij at *
  simp[de,g9,DQ,w1,w2,w3,BB]
  clear w1 w2 w3 hmd
  have hkm:=hk _ (Dn hm)
  have tx:5≤l.length*5-md*5:=by omega
  have ec:=dF.at hm
  simp[df,Pl,g2,g4,hm,hr,tx,ec,bx,B9,Ao,rC,U2]
  refine(FE S hkm hx h2 aH).mono ?_
  rintro o h3 bF ⟨rfl,e3⟩
  have n3:=e3.n
  have bx3:aa nx h3=some (.cells (eD x) .fix):=by rw[e3.g nx ltx];exact bx
  by_cases hlx:D9 l[md] x
  ·have Af:=HJ.2 hlx
   simp[Af]
   simp[dg]
   rw[aq (by omega) (by omega)]
   refine⟨j-(md+1),by omega,md+1,j,rfl,by omega,by omega,by simp[g0],by simp[g2],by simp[g4],by simp[g8],by simp,by simp[DQ],bx3,by omega,e2.trans e3,?_,hhi⟩
   intro q hq hqm
   by_cases e:q=md
   ·subst e;exact hlx
   ·exact aka (hg q md hq hm (by omega)) hlx
  ·have Af:¬ Tl l[md] x<0:=fun q=>hlx (HJ.1 q)
   simp[Af]
   simp[dh]
   refine⟨md-i,by omega,i,md,rfl,by omega,by omega,by simp[g0],by simp[g2],by simp[g4],by simp[g8],by simp[g9],by simp,bx3,by omega,e2.trans e3,ta,?_⟩
   intro q hq hqm hlq
   by_cases e:q=md
   ·subst e;exact hlx hlq
   ·exact hlx (aka (hg md q hm hq (by omega)) hlq)
 ·have qL:j=i:=by omega
  subst qL
  simp[bR,g9,DQ]
  by_cases x4:j<l.length
  ·have aBs:(j:Int)<l.length:=by omega
   have Hr:c0=.sl (aj eD l) l.length 5 .any:=by
    rcases hc with⟨_,rfl⟩|e
    ·simp at x4
    ·exact e
   have Pl:=g0
   rw[Hr] at Pl
   have hkm:=hk _ (Dn x4)
   have tx:5≤l.length*5-j*5:=by omega
   have ec:=dF.at x4
   simp[bS,Pl,g2,g4,g8,g9,aBs,x4,hr,tx,ec,bx,B9,Ao,rC,U2]
   refine(FE S hkm hx h2 aH).mono ?_
   rintro o h3 bF ⟨rfl,e3⟩
   have hd:(Tl l[j] x==0)=decide (x∈l):=by
    rw[Bool.eq_iff_iff]
    simp only[beq_iff_eq,decide_eq_true_eq,anI]
    constructor
    ·rintro rfl;exact Dn x4
    ·intro hm
     obtain⟨q,hq,rfl⟩:=List.getElem_of_mem hm
     rcases Dr q j with h1|h1
     ·exact absurd (ta q hq h1) (anJ _)
     ·rcases Dr j q with h2|h2
      ·exact absurd (hg j q x4 hq h2) (hhi j x4 (fh _))
      ·have:q=j:=by omega
       subst this;rfl
   simp
   exact⟨hd,e2.trans e3⟩
  ·have aBs:¬ (j:Int)<l.length:=by omega
   have iI:x∉l:=by
    intro hm
    obtain⟨q,hq,rfl⟩:=List.getElem_of_mem hm
    exact anJ _ (ta q hq (by omega))
   simp[bS,g8,g9,aBs]
   exact⟨iI,e2⟩
end Ln
/-
 LN: calls that may be next; configurations that end: the program. No condition.
-/
namespace Ln
open Go.Sx Go
def TK(os:List Op)(k d q:Nat):Bool:=!(d.testBit q&&before (os.getD k default) (os.getD q default)) && !(!d.testBit q&&decide (0≤(os.getD q default).e)&&before (os.getD q default) (os.getD k default))
def Od(os:List Op)(k d:Nat):Bool:=!d.testBit k&&(List.range os.length).all (TK os k d)
theorem apY{os:List Op}(hb:∀ o∈os,before o o=false){k d q:Nat}(hk:k<os.length):TK os k d q=TL os k d q:=by
 unfold TK TL
 by_cases e:q=k
 ·subst e
  have:=hb _ (Dn hk)
  rw[nC hk,this]
  simp
 ·have:(q==k)=false:=by simpa using e
  rw[this,Bool.false_or]
  cases d.testBit q<;>cases before (os.getD k default) (os.getD q default)<;>cases before (os.getD q default) (os.getD k default)<;>cases decide (0≤(os.getD q default).e)<;>rfl
theorem axj{os:List Op}(hb:∀ o∈os,before o o=false){k d:Nat}(hk:k<os.length):Od os k d=wZ os k d:=by
 have:wZ os k d=(!d.testBit k&&(List.range os.length).all (TL os k d)):=rfl
 rw[this]
 unfold Od
 congr 1
 rw[Bool.eq_iff_iff,vV,vV]
 exact⟨fun h q hq=>by rw[← apY hb hk];exact h q hq,fun h q hq=>by rw[apY hb hk];exact h q hq⟩
theorem apZ{d k:Nat}(hd:d<65536):cu .i64 ((Q2 .i64 ((d.div (2^k):Nat):Int) &&& Q2 .i64 1:Nat):Int)=if d.testBit k=true then 1 else 0:=by
 have h1:d.div (2^k)≤d:=Nat.div_le_self _ _
 have h2:Q2 .i64 ((d.div (2^k):Nat):Int)=d.div (2^k):=pV (by omega)
 have h3:Q2 .i64 1=1:=by decide
 rw[h2,h3,Nat.and_one_is_mod,aq (by omega) (by omega),Nat.testBit_eq_decide_div_mod_eq]
 show(((d / 2^k)%2:Nat):Int)=_
 by_cases h:d / 2^k%2=1
 ·simp[h]
 ·have:d / 2^k%2=0:=by omega
  simp[this]
def TiI(X:Kn)(os:List Op)(cells:List AV)(cO:AV)(k d:Nat)(bj:Key)(h:T ag)(nx:Key)(m:Nat)(tm':T AV)(h':T ag)(nx':Key):Prop:=∃ j:Nat,m=os.length-j∧j≤os.length∧aa (K 0) tm'=some (.ptr bj 0)∧aa (K 1) tm'=some (I k)∧aa (K 2) tm'=some (I d)∧aa (K 18) tm'=some cO∧aa (K 19) tm'=some (I os.length)∧aa (K 20) tm'=some (I j)∧aa bj h'=some (.cells cells .fix)∧Ext h nx h' nx'∧∀ q,q<j→TK os k d q=true
variable{C:cD}{X:Kn}(S:Std C X)
include S
theorem aqT{i:Nat}{os:List Op}(ho:os.length≤16){cO:AV}(hc:jN 10 eO cO os){s0:St}{en k d:Nat}(hk:k<os.length)(hd:d<65536){h:T ag}{nx bj:Key}(hb:aa bj h=some (.cells (jB X i cO s0 en) .fix))(Iq:bj.toNat<nx.toNat) :
  aI C dY [.ptr bj 0,I k,I d] h nx (fun o h' nx'=>o=.ret (.bool (Od os k d))∧Ext h nx h' nx'):=by
 have rB:C.raw fD=false:=S.nr (by decide)
 have Cr:cO=.sl (aj eO os) os.length 10 .any:=by
  rcases hc with⟨_,rfl⟩|e
  ·simp at hk
  ·exact e
 subst Cr
 have hr:=ep.rows os
 have eck:=ep.at hk
 have tk:10≤os.length*10-k*10:=by omega
 have uP:k≤64:=by omega
 refine S.nZ.call ?_
 simp[kH]
 simp[m9]
 have ab:=apZ (k:=k) hd
 cases Tj:d.testBit k with
 |true=>
  rw[Tj,if_pos rfl] at ab
  have:Od os k d=false:=by unfold Od;rw[Tj];rfl
  simp[iu,BB,uP,ab]
  simp[na]
  exact⟨this,Ext.refl _ _⟩
 |false=>
  rw[Tj,if_neg (by simp)] at ab
  have oV:Od os k d=(List.range os.length).all (TK os k d):=by unfold Od;rw[Tj];rfl
  simp[iu,BB,uP,ab]
  simp[nd,hb,jB]
  refine W.dQ (n:=os.length) (TiI X os (jB X i (.sl (aj eO os) os.length 10 .any) s0 en) (.sl (aj eO os) os.length 10 .any) k d bj h nx) ⟨0,by simp,by omega,by simp,by simp,by simp,by simp,by simp,by simp,by simpa[jB] using hb,Ext.refl _ _,fun q hq=>absurd hq (by omega)⟩ ?_
  rintro m dn h2 aH ⟨j,rfl,hj,g0,g1,g2,g18,g19,g20,Ux,e2,hq⟩
  have n2:=e2.n
  have s2:=kTSu aH
  refine W.of ?_
  simp[nf]
  by_cases bz:j<os.length
  ·have uA:(j:Int)<os.length:=by omega
   have ecj:=ep.at bz
   have tj:10≤os.length*10-j*10:=by omega
   have j64:j≤64:=by omega
   have DZ:TK os k d j=(!(d.testBit j&&before os[k] os[j]) && !(!d.testBit j&&decide (0≤os[j].e)&&before os[j] os[k])):=by unfold TK;rw[nC bz,nC hk]
   have KP:(eO os[j]).all AV.aN=true:=vV.2 (ep.cell _)
   have abj:=apZ (k:=j) hd
   simp[iv,g19,g20,uA]
   simp[ng,g18,g20,bz,hr,tj,ecj,S8,Kc,KP]
   have e3:=E0 h2 aH (.cells (eO os[j]) .fix)
   have bo3:aa aH (au aH (some (.cells (eO os[j]) .fix)) h2)=some (.cells (eO os[j]) .fix):=by simp
   have Sj:aa bj (au aH (some (.cells (eO os[j]) .fix)) h2)=some (.cells (jB X i (.sl (aj eO os) os.length 10 .any) s0 en) .fix):=by rw[e3.g bj (by omega)];exact Ux
   have Ph:=e2.trans e3
   generalize au aH (some (.cells (eO os[j]) .fix)) h2=h3 at *
   have fail:TK os k d j=false→∀ h' nx',Ext h nx h' nx'→(Od os k d=false∧Ext h nx h' nx'):=fun hf h' nx' e'=>⟨by rw[oV,TN bz hf],e'⟩
   have next:∀ (ay:T AV) (h':T ag) (nx':Key),aa (K 0) ay=some (.ptr bj 0)→aa (K 1) ay=some (I k)→aa (K 2) ay=some (I d)→aa (K 18) ay=some (.sl (aj eO os) os.length 10 .any)→aa (K 19) ay=some (I os.length)→aa (K 20) ay=some (I j)→aa bj h'=some (.cells (jB X i (.sl (aj eO os) os.length 10 .any) s0 en) .fix)→Ext h nx h' nx'→TK os k d j=true→
     mX C (av (fun tm h' nx'=>∃ m,m<os.length-j∧TiI X os (jB X i (.sl (aj eO os) os.length 10 .any) s0 en) (.sl (aj eO os) os.length 10 .any) k d bj h nx m tm h' nx') (al 0 (av (eP C (.seq (.ops hJ) .ret) (bB [.tmp (K 6)] fun o h' nx'=>o=.ret (.bool (Od os k d))∧Ext h nx h' nx')) (bB [.tmp (K 6)] fun o h' nx'=>o=.ret (.bool (Od os k d))∧Ext h nx h' nx')))) iw ay h' nx':=by
    intro ay h' nx' q0 q1 q2 q18 q19 q20 b' e' mD
    simp[iw,q20]
    rw[aq (by omega) (by omega)]
    exact⟨os.length-(j+1),by omega,j+1,rfl,by omega,by simp[q0],by simp[q1],by simp[q2],by simp[q18],by simp[q19],by simp,b',e',TO hq mD⟩
   cases hbj:d.testBit j with
   |true=>
    rw[hbj,if_pos rfl] at abj
    rw[hbj] at DZ
    simp[iy,g2,BB,j64,abj]
    simp[eX,g0,g1,Sj,jB,bo3,hk,hr,tk,eck,Kc,S8,rB,anB]
    refine(Oe S os[k] os[j] _ _).mono ?_
    rintro o h4 DE ⟨rfl,e4⟩
    have bj4:aa bj h4=some (.cells (jB X i (.sl (aj eO os) os.length 10 .any) s0 en) .fix):=by rw[e4.g bj (by omega)];exact Sj
    cases uq:before os[k] os[j] with
    |true=>
     rw[uq] at DZ
     simp
     simp[iz]
     exact fail (by rw[DZ];rfl) _ _ (Ph.trans e4)
    |false=>
     rw[uq] at DZ
     simp
     refine next _ _ _ ?_ ?_ ?_ ?_ ?_ ?_ bj4 (Ph.trans e4) (by rw[DZ];rfl)<;>simp[g0,g1,g2,g18,g19,g20]
   |false=>
    rw[hbj,if_neg (by simp)] at abj
    rw[hbj] at DZ
    simp[iy,g2,BB,j64,abj]
    by_cases he:os[j].e<0
    ·have he2:¬ 0≤os[j].e:=by omega
     simp[he2] at DZ
     have e2':(eO os[j])[2]?=some (I os[j].e):=rfl
     simp[eX,g0,g1,bo3,e2',he]
     refine next _ _ _ ?_ ?_ ?_ ?_ ?_ ?_ Sj Ph DZ<;>simp[g0,g1,g2,g18,g19,g20]
    ·have he2:0≤os[j].e:=by omega
     simp[he2] at DZ
     have e2':(eO os[j])[2]?=some (I os[j].e):=rfl
     simp[eX,g0,g1,Sj,jB,bo3,hk,hr,tk,eck,Kc,S8,rB,anB,e2',he]
     refine(Oe S os[j] os[k] _ _).mono ?_
     rintro o h4 DE ⟨rfl,e4⟩
     have bj4:aa bj h4=some (.cells (jB X i (.sl (aj eO os) os.length 10 .any) s0 en) .fix):=by rw[e4.g bj (by omega)];exact Sj
     cases uq:before os[j] os[k] with
     |true=>
      rw[uq] at DZ
      simp
      simp[iz]
      exact fail (by rw[DZ];rfl) _ _ (Ph.trans e4)
     |false=>
      rw[uq] at DZ
      simp
      refine next _ _ _ ?_ ?_ ?_ ?_ ?_ ?_ bj4 (Ph.trans e4) (by rw[DZ];rfl)<;>simp[g0,g1,g2,g18,g19,g20]
  ·have qL:j=os.length:=by omega
   subst qL
   have fin:Od os k d=true:=by rw[oV];exact Of hq
   simp[iv,g19,g20]
   simp[hJ]
   exact⟨fin,e2⟩
end Ln
/-
 SX: ranges over functions: what must hold ahead of code that has such loops. No condition.
-/
namespace Go.Sx
def aqb(ds:List Key):List Sb:=ds.map Sb.coll
abbrev pA:=Ex→List Key→T AV→T ag→Key→Prop
def oO(af:jP)(ds:List Key):jP:={af with dfs:=aqb ds++af.dfs}
def aF4(Q:pA)(af:jP)(k:List cJ)(cs:List jP)(m:AM):Prop:=∃ e ds tm' h' nx' fr,Q e ds tm' h' nx'∧Aft (oO af ds) k e tm' fr∧m=⟨fr,cs,h',nx'⟩
def VI(C:cD)(x:cJ)(Q:pA)(ds:List Key)(tm:T AV)(h:T ag)(nx:Key):Prop:=
 ∀ (af:jP) (k:List cJ) (cs:List jP),af.mode=.run→af.qZ=none→Ev C (aF4 Q af k cs) ⟨{oO af ds with tm:=tm,todo:=x ::k},cs,h,nx⟩
abbrev V(C:cD)(c:aA):pA→List Key→T AV→T ag→Key→Prop:=VI C (.code c)
section
variable{C:cD}{Q Q':pA}{ds:List Key}{tm:T AV}{h:T ag}{nx:Key}
theorem VI.mono{x:cJ}(hw:VI C x Q ds tm h nx)(hq:∀ e ds tm h nx,Q e ds tm h nx→Q' e ds tm h nx):VI C x Q' ds tm h nx:=by
 intro af k cs h1 h2
 refine(hw af k cs h1 h2).mono ?_
 rintro m ⟨e,Io,tm',h',nx',fr,q,a,t⟩
 exact⟨e,Io,tm',h',nx',fr,hq _ _ _ _ _ q,a,t⟩
theorem V.ajk{c:aA}(hw:W C c (fun e tm h nx=>Q e ds tm h nx) tm h nx):V C c Q ds tm h nx:=by
 intro af k cs h1 h2
 refine(hw (oO af ds) k cs h1 trivial).mono ?_
 rintro m ⟨e,tm',h',nx',fr,q,a,t⟩
 exact⟨e,ds,tm',h',nx',fr,q,a,t⟩
def OA(Wp:List Key→T AV→T ag→Key→Prop)(Q:pA):pA:=fun e ds tm h nx=>match e with
 |.norm=>Wp ds tm h nx
 |e=>Q e ds tm h nx
def n9(id:Nat)(Q:pA):pA:=fun e ds tm h nx=>match e with
 |.exit j=>if j=id then Q .norm ds tm h nx else Q (.exit j) ds tm h nx
 |e=>Q e ds tm h nx
theorem V.seq{a b:aA}(hw:V C a (OA (V C b Q) Q) ds tm h nx):V C (.seq a b) Q ds tm h nx:=by
 intro af k cs h1 h2
 refine .step (m':=⟨{oO af ds with tm:=tm,todo:=.code a ::.code b ::k},cs,h,nx⟩) (aS h1 rfl) ((hw af (.code b ::k) cs h1 h2).bind ?_)
 rintro m ⟨e,Io,tm',h',nx',fr,q,ha,rfl⟩
 cases e with
 |norm=>cases ha;exact q af k cs h1 h2
 |ret=>exact .now ⟨.ret,Io,tm',h',nx',fr,q,ha,rfl⟩
 |exit id=>
  obtain⟨k2,e1,e2⟩:=ha
  exact .now ⟨.exit id,Io,tm',h',nx',fr,q,⟨k2,e1,e2⟩,rfl⟩
 |pan a=>exact .now ⟨.pan a,Io,tm',h',nx',fr,q,ha,rfl⟩
theorem V.cond{x:PX}{a b:aA}{t:Bool}(hx:x.at tm=some (.bool t))(hw:V C (if t then a else b) Q ds tm h nx):V C (.cond x a b) Q ds tm h nx:=by
 intro af k cs h1 h2
 refine .step (m':=⟨{oO af ds with tm:=tm,todo:=.code (if t then a else b) ::k},cs,h,nx⟩) (aS h1 ?_) (hw af k cs h1 h2)
 simp only[bP,hx]
 cases t<;>rfl
theorem V.block{id:Nat}{c:aA}(hw:V C c (n9 id Q) ds tm h nx):V C (.block id c) Q ds tm h nx:=by
 intro af k cs h1 h2
 refine .step (m':=⟨{oO af ds with tm:=tm,todo:=.code c ::.inBlock id ::k},cs,h,nx⟩) (aS h1 rfl) ((hw af (.inBlock id ::k) cs h1 h2).bind ?_)
 rintro m ⟨e,Io,tm',h',nx',fr,q,ha,rfl⟩
 cases e with
 |norm=>
  cases ha
  exact .step (m':=⟨{oO af Io with tm:=tm',todo:=k},cs,h',nx'⟩) (aS h1 rfl) (.now ⟨.norm,Io,tm',h',nx',_,q,rfl,rfl⟩)
 |ret=>exact .now ⟨.ret,Io,tm',h',nx',fr,q,ha,rfl⟩
 |exit j=>
  obtain⟨k2,e1,rfl⟩:=ha
  by_cases hj:j=id
  ·subst hj
   simp only[n9,if_true] at q
   refine .step (m':=⟨{oO af Io with tm:=tm',todo:=k},cs,h',nx'⟩) (aS h1 ?_) (.now ⟨.norm,Io,tm',h',nx',_,q,rfl,rfl⟩)
   simp only[bP,e1,kQ,beqN_eq,decide_true,cond_true]
  ·simp only[n9,if_neg hj] at q
   refine .now ⟨.exit j,Io,tm',h',nx',_,q,⟨k2,?_,rfl⟩,rfl⟩
   rw[e1]
   simp only[kQ,beqN_eq,show ¬ id=j from fun e=>hj e.symm,decide_false,cond_false]
 |pan a=>exact .now ⟨.pan a,Io,tm',h',nx',fr,q,ha,rfl⟩
theorem V.dQ{c:aA}(Inv:Nat→List Key→T AV→T ag→Key→Prop){n:Nat}(hi:Inv n ds tm h nx)
  (hw:∀ n ds tm h nx,Inv n ds tm h nx→V C c (OA (fun ds tm h nx=>∃ m,m<n∧Inv m ds tm h nx) Q) ds tm h nx):V C (.loop c) Q ds tm h nx:=by
 have key:∀ (n:Nat) (ds:List Key) (tm:T AV) (h:T ag) (nx:Key),Inv n ds tm h nx→VI C (.inLoop c) Q ds tm h nx:=by
  intro n
  induction n using Nat.strongRecOn with
  |_ n ih=>
   intro ds tm h nx hi af k cs h1 h2
   refine .step (m':=⟨{oO af ds with tm:=tm,todo:=.code c ::.inLoop c ::k},cs,h,nx⟩) (aS h1 rfl) ((hw n ds tm h nx hi af (.inLoop c ::k) cs h1 h2).bind ?_)
   rintro m ⟨e,Io,tm',h',nx',fr,q,ha,rfl⟩
   cases e with
   |norm=>
    cases ha
    obtain⟨m,hm,him⟩:=q
    exact ih m hm Io tm' h' nx' him af k cs h1 h2
   |ret=>exact .now ⟨.ret,Io,tm',h',nx',fr,q,ha,rfl⟩
   |exit id=>
    obtain⟨k2,e1,e2⟩:=ha
    exact .now ⟨.exit id,Io,tm',h',nx',fr,q,⟨k2,e1,e2⟩,rfl⟩
   |pan a=>exact .now ⟨.pan a,Io,tm',h',nx',fr,q,ha,rfl⟩
 intro af k cs h1 h2
 refine .step (m':=⟨{oO af ds with tm:=tm,todo:=.code c ::.inLoop c ::k},cs,h,nx⟩) (aS h1 rfl) ((hw n ds tm h nx hi af (.inLoop c ::k) cs h1 h2).bind ?_)
 rintro m ⟨e,Io,tm',h',nx',fr,q,ha,rfl⟩
 cases e with
 |norm=>
  cases ha
  obtain⟨m,hm,him⟩:=q
  exact key m Io tm' h' nx' him af k cs h1 h2
 |ret=>exact .now ⟨.ret,Io,tm',h',nx',fr,q,ha,rfl⟩
 |exit id=>
  obtain⟨k2,e1,e2⟩:=ha
  exact .now ⟨.exit id,Io,tm',h',nx',fr,q,⟨k2,e1,e2⟩,rfl⟩
 |pan a=>exact .now ⟨.pan a,Io,tm',h',nx',fr,q,ha,rfl⟩
def aMw(Q:pA):Option aA→List Key→T AV→T ag→Key→Prop
 |none,ds,tm,h,nx=>Q .norm ds tm h nx
 |some .ret,ds,tm,h,nx=>Q .ret ds tm h nx
 |some (.exit i),ds,tm,h,nx=>Q (.exit i) ds tm h nx
 |some _,_,_,_,_=>False
def aqa(Q:pA)(d l:Key)(fn:Nat)(tm:T AV)(res:List RV)(ps:List Key)(a b:aA)(ds:List Key):Out→T ag→Key→Prop:=fun o h' nx'=>∃ v,o=.ret v∧∃ st pd,aa l h'=some (.loop st pd fn tm res ps a b d)∧st≠.busy∧aMw Q pd (d ::ds) tm (au l (some (.loop .exhausted pd fn tm res ps a b d)) h') nx'
noncomputable def Ij(fn:Nat)(tm:T AV)(res:List RV)(ps:List Key)(a b:aA)(h:T ag)(nx:Key):T ag:=au nx.succ (some (.loop .ready none fn tm res ps a b nx)) (au nx (some (.dfs false)) h)
theorem V.rangeF{f:PX}{ps:List Key}{a b:aA}{g:Nat}{first cap:List AV}(hf:f.at tm=some (.fn g first cap))(hs:∀ l h nx,C.sum g l h nx=none)
  (hc:∀ fn res,aI C g (first ++ .yld nx.succ ::cap) (Ij fn tm res ps a b h nx) nx.succ.succ (aqa Q nx nx.succ fn tm res ps a b ds)):V C (.rangeF f ps a b) Q ds tm h nx:=by
 intro af k cs h1 h2
 rcases hc af.fn af.res with⟨v,h',nx',e,_⟩|⟨_,p,hp,dP⟩
 ·rw[hs] at e;cases e
 ·refine .step (m':=⟨ae g p (first ++ .yld nx.succ ::cap),{oO af (nx ::ds) with tm:=tm,todo:=.inRF nx.succ ::k} ::cs,Ij af.fn tm af.res ps a b h nx,nx.succ.succ⟩) (aS h1 ?_) ((dP _).bind ?_)
  ·have HL:(bif Nat.beq (Key.eH 12 g).toNat g then aa (Key.eH 12 g) C.fns else none)=some p:=hp
   have hr:(oO af ds).qZ=none:=h2
   simp only[bP,hf,hr,sTCe,BY,HL,zq]
   have Pk:(oO af (nx ::ds)).qZ=none:=h2
   rw[Pk]
   rfl
  ·rintro m2 ⟨o,h',nx',Gb,h3,⟨v,rfl,st,pd,hl,dL,hq⟩,hfn,hdf,⟨hd,HH,l,Fq,rfl,rfl⟩,rfl⟩
   have e1:gC C ⟨Gb,{oO af (nx ::ds) with tm:=tm,todo:=.inRF nx.succ ::k} ::cs,h3,nx'⟩=.next ⟨{oO af (nx ::ds) with tm:=tm,todo:=.endRF nx.succ ::k},cs,(ct (C.lS g) l h3).2,nx'⟩:=by
    unfold gC
    simp only[HH]
    unfold vZ
    simp only[hd,HH,Fq,hfn,ur]
    unfold GH
    simp only[hdf,cond_false,bD]
   refine .step e1 ?_
   refine .step (m':=⟨{oO af (nx ::ds) with tm:=tm,todo:=(pd.map cJ.code).toList++k},cs,au nx.succ (some (.loop .exhausted pd af.fn tm af.res ps a b nx)) (ct (C.lS g) l h3).2,nx'⟩) (aS h1 ?_) ?_
   ·cases st with
    |busy=>exact absurd rfl dL
    |_=>
     simp only[bP,hl,sTCe]
     cases pd<;>rfl
   ·cases pd with
    |none=>exact .now ⟨.norm,_,_,_,_,_,hq,rfl,rfl⟩
    |some c=>
     cases c with
     |ret=>exact .now ⟨.ret,_,_,_,_,_,hq,⟨k,rfl⟩,rfl⟩
     |exit i=>exact .now ⟨.exit i,_,_,_,_,_,hq,⟨k,rfl,rfl⟩,rfl⟩
     |_=>exact hq.elim
end
noncomputable def HY(C:cD):aA→pA→List Key→T AV→T ag→Key→Prop
 |.seq a b,Q,ds,tm,h,nx=>HY C a (OA (HY C b Q) Q) ds tm h nx
 |.cond x a b,Q,ds,tm,h,nx=>match x.at tm with
  |some (.bool t)=>(t=true→HY C a Q ds tm h nx)∧(t=false→HY C b Q ds tm h nx)
  |_=>False
 |.block id c,Q,ds,tm,h,nx=>HY C c (n9 id Q) ds tm h nx
 |.loop c,Q,ds,tm,h,nx=>V C (.loop c) Q ds tm h nx
 |.rangeF f ps a b,Q,ds,tm,h,nx=>V C (.rangeF f ps a b) Q ds tm h nx
 |.skip,Q,ds,tm,h,nx=>Q .norm ds tm h nx
 |.exit id,Q,ds,tm,h,nx=>Q (.exit id) ds tm h nx
 |.ret,Q,ds,tm,h,nx=>Q .ret ds tm h nx
 |.ops l,Q,ds,tm,h,nx=>mX C (fun e tm h nx=>Q e ds tm h nx) l tm h nx
 |.staged l d,Q,ds,tm,h,nx=>wpS C (fun e tm h nx=>Q e ds tm h nx) d l [] tm h nx
section
variable{C:cD}
theorem qJ:∀ {c:aA} {Q:pA} {ds:List Key} {tm:T AV} {h:T ag} {nx:Key},HY C c Q ds tm h nx→V C c Q ds tm h nx
 |.seq a b,Q,ds,tm,h,nx,hw=>by
  have hw:HY C a (OA (HY C b Q) Q) ds tm h nx:=hw
  refine V.seq ((qJ hw).mono fun e ds tm h nx hq=>?_)
  cases e with
  |norm=>exact qJ hq
  |_=>exact hq
 |.cond x a b,Q,ds,tm,h,nx,hw=>by
  unfold HY at hw
  split at hw
  ·rename_i t hx
   refine V.cond hx ?_
   cases t with
   |true=>exact qJ (hw.1 rfl)
   |false=>exact qJ (hw.2 rfl)
  ·exact hw.elim
 |.block id c,Q,ds,tm,h,nx,hw=>by
  have hw:HY C c (n9 id Q) ds tm h nx:=hw
  exact V.block (qJ hw)
 |.loop c,Q,ds,tm,h,nx,hw=>hw
 |.rangeF f ps a b,Q,ds,tm,h,nx,hw=>hw
 |.skip,Q,ds,tm,h,nx,hw=>V.ajk (W.skip hw)
 |.exit id,Q,ds,tm,h,nx,hw=>V.ajk (W.exit hw)
 |.ret,Q,ds,tm,h,nx,hw=>V.ajk (W.ret hw)
 |.ops l,Q,ds,tm,h,nx,hw=>V.ajk (W.ops (uh hw))
 |.staged l d,Q,ds,tm,h,nx,hw=>V.ajk (W.staged (yS hw))
variable(Q:pA)(ds:List Key)(tm:T AV)(h:T ag)(nx:Key)
@[simp] theorem aHx(a b:aA):HY C (.seq a b) Q ds tm h nx=HY C a (OA (HY C b Q) Q) ds tm h nx:=ug Iff.rfl
@[simp] theorem aF5(x:PX)(a b:aA):HY C (.cond x a b) Q ds tm h nx=(match x.at tm with
  |some (.bool t)=>(t=true→HY C a Q ds tm h nx)∧(t=false→HY C b Q ds tm h nx)
  |_=>False):=ug Iff.rfl
@[simp] theorem aDE(id:Nat)(c:aA):HY C (.block id c) Q ds tm h nx=HY C c (n9 id Q) ds tm h nx:=ug Iff.rfl
@[simp] theorem aF6(c:aA):HY C (.loop c) Q ds tm h nx=V C (.loop c) Q ds tm h nx:=ug Iff.rfl
@[simp] theorem aCo(f:PX)(ps:List Key)(a b:aA):HY C (.rangeF f ps a b) Q ds tm h nx=V C (.rangeF f ps a b) Q ds tm h nx:=ug Iff.rfl
@[simp] theorem aF7:HY C .skip Q ds tm h nx=Q .norm ds tm h nx:=ug Iff.rfl
@[simp] theorem aF8(id:Nat):HY C (.exit id) Q ds tm h nx=Q (.exit id) ds tm h nx:=ug Iff.rfl
@[simp] theorem aHy:HY C .ret Q ds tm h nx=Q .ret ds tm h nx:=ug Iff.rfl
def atD(Q:pA)(ds:List Key):dN:=fun e tm h nx=>Q e ds tm h nx
@[simp] theorem aMx(e:Ex):atD Q ds e tm h nx=Q e ds tm h nx:=ug Iff.rfl
@[simp] theorem aHz(l:List J):HY C (.ops l) Q ds tm h nx=mX C (atD Q ds) l tm h nx:=ug Iff.rfl
@[simp] theorem aCp(l:List aM)(d:SD):HY C (.staged l d) Q ds tm h nx=wpS C (atD Q ds) d l [] tm h nx:=ug Iff.rfl
@[simp] theorem aDF(Wp:List Key→T AV→T ag→Key→Prop):OA Wp Q .norm ds tm h nx=Wp ds tm h nx:=ug Iff.rfl
@[simp] theorem aF9(Wp:List Key→T AV→T ag→Key→Prop):OA Wp Q .ret ds tm h nx=Q .ret ds tm h nx:=ug Iff.rfl
@[simp] theorem aDG(Wp:List Key→T AV→T ag→Key→Prop)(i:Nat):OA Wp Q (.exit i) ds tm h nx=Q (.exit i) ds tm h nx:=ug Iff.rfl
@[simp] theorem aGa(Wp:List Key→T AV→T ag→Key→Prop)(a:AV):OA Wp Q (.pan a) ds tm h nx=Q (.pan a) ds tm h nx:=ug Iff.rfl
@[simp] theorem azs(j:Nat):n9 j Q .norm ds tm h nx=Q .norm ds tm h nx:=ug Iff.rfl
@[simp] theorem aCq(j:Nat):n9 j Q .ret ds tm h nx=Q .ret ds tm h nx:=ug Iff.rfl
@[simp] theorem azt(j i:Nat):n9 j Q (.exit i) ds tm h nx=if i=j then Q .norm ds tm h nx else Q (.exit i) ds tm h nx:=ug Iff.rfl
@[simp] theorem aCr(j:Nat)(a:AV):n9 j Q (.pan a) ds tm h nx=Q (.pan a) ds tm h nx:=ug Iff.rfl
end
def Kt(res:List RV)(R:Out→T ag→Key→Prop):pA:=fun e ds tm h nx=>match e with
 |.norm|.ret=>ds.Nodup∧(∀ b∈ds,aa b h=some (.dfs false))∧∀ h2:T ag,(∀ b,b∉ds→aa b h2=aa b h)→∃ l,resultsA h2 tm res=some l∧R (.ret (lT (bY (aO 9999) l h2).1)) (bY (aO 9999) l h2).2 nx
 |_=>False
theorem KG{C:cD}{S:AM→Prop}:∀ (ds:List Key) (fr:jP) (cs:List jP) (h:T ag) (nx:Key),ds.Nodup→(∀ b∈ds,aa b h=some (.dfs false))→fr.mode=.ret→fr.dfs=aqb ds→
  (∀ h2:T ag,(∀ b,b∉ds→aa b h2=aa b h)→Ev C S ⟨{fr with dfs:=[]},cs,h2,nx⟩)→Ev C S ⟨fr,cs,h,nx⟩
 | [],fr,cs,h,nx,_,_,_,hd,hk=>by
  have:=hk h (fun _ _=>rfl)
  have e:({fr with dfs:=[]}:jP)=fr:=by
   cases fr;cases hd;rfl
  rw[e] at this;exact this
 |b ::ds,fr,cs,h,nx,hn,hb,hm,hd,hk=>by
  rw[List.nodup_cons] at hn
  refine .step (m':=⟨{fr with dfs:=aqb ds},cs,au b (some (.dfs true)) h,nx⟩) ?_ (KG ds _ cs _ nx hn.2 (fun c hc=>?_) hm rfl fun h2 h3=>?_)
  ·have hd:fr.dfs=.coll b ::aqb ds:=hd
   unfold gC
   simp only[hm]
   unfold vZ
   simp only[hd,hb b (by simp),sTCe,hm]
  ·rw[bG _ _ _ _ (fun e=>hn.1 (by rw[← e];exact hc))]
   exact hb c (by simp[hc])
  ·refine hk h2 fun c hc=>?_
   simp only[Ga,not_or] at hc
   rw[h3 c hc.2,bG _ _ _ _ hc.1]
theorem aI.aMr{C:cD}{f:Nat}{p:fK}{l:List AV}{h:T ag}{nx:Key}{R:Out→T ag→Key→Prop}(hs:C.sum f l h nx=none)(hp:CC C f=some p)(hr:C.lS f=false)(hw:V C p.body (Kt p.res R) [] (fV l (K 0) .nil) h nx):aI C f l h nx R:=by
 refine .inr ⟨hs,p,hp,fun cs=>(hw (ae f p l) [] cs rfl rfl).bind ?_⟩
 have fin:∀ (tm':T AV) (t:List cJ) (ds:List Key) (h':T ag) (nx':Key),ds.Nodup→(∀ b∈ds,aa b h'=some (.dfs false))→(∀ h2:T ag,(∀ b,b∉ds→aa b h2=aa b h')→∃ l,resultsA h2 tm' p.res=some l∧R (.ret (lT (bY (aO 9999) l h2).1)) (bY (aO 9999) l h2).2 nx')→
   Ev C (aFB C f R cs) ⟨{oO (ae f p l) ds with tm:=tm',todo:=t,mode:=.ret},cs,h',nx'⟩:=by
  intro tm' t ds h' nx' q1 q2 q3
  refine KG ds _ cs h' nx' q1 q2 rfl (List.append_nil _) fun h2 h3=>?_
  obtain⟨l1,hl,hR⟩:=q3 h2 h3
  refine .now ⟨_,_,nx',_,h2,hR,rfl,rfl,⟨rfl,rfl,l1,hl,?_,?_⟩,rfl⟩<;>rw[hr]<;>rfl
 rintro m ⟨e,ds,tm',h',nx',fr,q,ha,rfl⟩
 cases e with
 |norm=>
  cases ha
  exact .step (m':=⟨{oO (ae f p l) ds with tm:=tm',todo:=[],mode:=.ret},cs,h',nx'⟩) (aS rfl rfl) (fin _ _ _ _ _ q.1 q.2.1 q.2.2)
 |ret=>
  obtain⟨t',rfl⟩:=ha
  exact .step (m':=⟨{oO (ae f p l) ds with tm:=tm',todo:=.code .ret ::t',mode:=.ret},cs,h',nx'⟩) (aS rfl rfl) (fin _ _ _ _ _ q.1 q.2.1 q.2.2)
 |exit id=>exact q.elim
 |pan a=>exact q.elim
end Go.Sx
/-
 LN: configurations that end; the steps from one, handed on one by one: the program. No condition.
-/
namespace Go.Sx
theorem CB.mono{C:cD}{l:Key}{args:List AV}{h:T ag}{nx:Key}{R R':Out→T ag→Key→Prop}(hy:CB C l args h nx R)(hr:∀ o h nx,R o h nx→R' o h nx):CB C l args h nx R':=by
 obtain⟨fn,tm,res,ps,a,b,d,hl,dn,hz,hw⟩:=hy
 refine⟨fn,tm,res,ps,a,b,d,hl,dn,hz,hw.mono ?_⟩
 rintro e ay h2 aH ⟨he,p,hp,hw2⟩
 refine⟨he,p,hp,hw2.mono ?_⟩
 rintro e3 JL h3 bF ⟨hp3,q⟩
 refine⟨hp3,?_⟩
 cases e3 with
 |norm=>exact hr _ _ _ q
 |ret=>exact hr _ _ _ q
 |exit i=>exact hr _ _ _ q
 |pan a=>exact q
end Go.Sx
namespace Ln
open Go.Sx Go
theorem NQ(os:List Op)(q:Nat):∀ n:Nat,(jV os n).testBit q=(decide (q<n)&&decide (0≤(os.getD q default).e))
 |0=>by simp[jV]
 |n+1=>by
  unfold jV
  have ih:=NQ os q n
  by_cases he:0≤(os.getD n default).e
  ·rw[if_pos he,Nat.testBit_or,ih,Nat.testBit_two_pow]
   by_cases e:n=q
   ·subst e;simp;simpa using he
   ·by_cases hq:q<n
    ·simp[hq,show q<n+1 by omega,e]
    ·simp[hq,show ¬ q<n+1 by omega,e]
  ·rw[if_neg he,ih]
   by_cases e:q=n
   ·subst e;simp;simpa using he
   ·by_cases hq:q<n
    ·simp[hq,show q<n+1 by omega]
    ·simp[hq,show ¬ q<n+1 by omega]
theorem axh(os:List Op)(d:Nat):(d &&& jV os os.length=jV os os.length)↔HF os d=true:=by
 unfold HF
 rw[vV]
 constructor
 ·intro h q hq
  have hq:=List.mem_range.1 hq
  have h2:=congrArg (fun x=>Nat.testBit x q) h
  simp only[Nat.testBit_and,NQ,hq,decide_true,Bool.true_and] at h2
  cases h3:decide (0≤(os.getD q default).e) with
  |false=>rfl
  |true=>rw[h3,Bool.and_true] at h2;rw[h2];rfl
 ·intro h
  apply Nat.eq_of_testBit_eq
  intro q
  rw[Nat.testBit_and,NQ]
  by_cases hq:q<os.length
  ·have:=h q (List.mem_range.2 hq)
   cases h3:decide (0≤(os.getD q default).e) with
   |false=>simp
   |true=>rw[h3] at this;simp at this;simp[hq,this]
  ·simp[hq]
variable{C:cD}{X:Kn}(S:Std C X)
include S
theorem axi{i:Nat}{os:List Op}(ho:os.length≤16){cO:AV}{s0:St}{c:Cf St}(hd:c.1<65536){h:T ag}{nx bj:Key}(hb:aa bj h=some (.cells (jB X i cO s0 (jV os os.length)) .fix))(Iq:bj.toNat<nx.toNat) :
  aI C dH [.ptr bj 0,.agg (eC c)] h nx (fun o h' nx'=>o=.ret (.bool (HF os c.1))∧Ext h nx h' nx'):=by
 refine S.m8.call ?_
 simp[jW]
 simp[mn,Nw,uI]
 have e0:=E0 h nx (.cells (eC c) .fix)
 have bc:aa nx (au nx (some (.cells (eC c) .fix)) h)=some (.cells (eC c) .fix):=by simp
 have bj1:aa bj (au nx (some (.cells (eC c) .fix)) h)=some (.cells (jB X i cO s0 (jV os os.length)) .fix):=by rw[e0.g bj Iq];exact hb
 generalize au nx (some (.cells (eC c) .fix)) h=h1 at *
 have elt:=Ti os os.length
 have p16:=kn (j:=os.length) ho
 have Rb:Q2 .i64 (c.1:Int)=c.1:=pV (by omega)
 have Fq:Q2 .i64 ((jV os os.length:Nat):Int)=jV os os.length:=pV (by omega)
 have hle:c.1 &&& jV os os.length≤c.1:=Nat.and_le_left
 have hw:cu .i64 ((c.1 &&& jV os os.length:Nat):Int)=((c.1 &&& jV os os.length:Nat):Int):=aq (by omega) (by omega)
 have ec0:(eC c)[0]?=some (I c.1):=rfl
 simp[mo,bc,bj1,jB,ec0,Rb,Fq,hw]
 refine⟨?_,e0⟩
 rw[Bool.eq_iff_iff,beq_iff_eq,← axh]
 omega
theorem aqR{bj:Key}{c:Cf St}{h:T ag}{nx:Key}:aI C eA [.ptr bj 0,.agg (eC c)] h nx (fun o h' nx'=>o=.ret (.fn bX [] [.ptr nx 0,.ptr nx.succ 0])∧aa nx h'=some (.cells [.ptr bj 0] .fix)∧aa nx.succ h'=some (.cells (eC c) .fix)∧nx'=nx.succ.succ∧Ext h nx h' nx'):=by
 have s1:=kTSu nx
 have s2:=kTSu nx.succ
 refine S.pz.call ?_
 simp[lZ]
 simp[nQ,Nw,uI]
 simp[nR]
 exact(E0 h nx _).trans (E0 _ nx.succ _)
structure aBl(C:cD)(X:Kn)(i:Nat)(os:List Op)(cO:AV)(s0:St)(bj b2 b3 lk:Key)(c:Cf St)(Inv:Nat→T ag→Key→Prop)(R:Out→T ag→Key→Prop):Prop where
 ew:∀ k h nx h' nx',Inv k h nx→Ext h nx h' nx'→Inv k h' nx'
 has:∀ k h nx,Inv k h nx→aa bj h=some (.cells (jB X i cO s0 (jV os os.length)) .fix)∧aa b2 h=some (.cells [.ptr bj 0] .fix)∧aa b3 h=some (.cells (eC c) .fix)∧bj.toNat<nx.toNat∧b2.toNat<nx.toNat∧b3.toNat<nx.toNat
 skip:∀ k h nx,k<os.length→(bH X i os).step c k=none→Inv k h nx→Inv (k+1) h nx
 yld:∀ k x h nx,k<os.length→(bH X i os).step c k=some (k,x)→Inv k h nx→CB C lk [I k,.agg (eC x)] h nx (fun o h' nx'=>(o=.ret (.bool true)∧Inv (k+1) h' nx')∨(o=.ret (.bool false)∧R (.ret (.tuple [])) h' nx'))
 fin:∀ h nx,Inv os.length h nx→R (.ret (.tuple [])) h nx
def S1I(os:List Op)(b2 b3 lk:Key)(Inv:Nat→T ag→Key→Prop)(m:Nat)(tm':T AV)(h':T ag)(nx':Key):Prop:=∃ k:Nat,m=os.length-k∧k≤os.length∧aa (K 0) tm'=some (.yld lk)∧aa (K 1) tm'=some (.ptr b2 0)∧aa (K 2) tm'=some (.ptr b3 0)∧aa (K 11) tm'=some (I os.length)∧aa (K 12) tm'=some (I k)∧Inv k h' nx'
theorem aqS{i:Nat}(hi:i<3){os:List Op}(nq:jR i os=0)(mB:∀ o∈os,before o o=false)(ho:os.length≤16){cO:AV}(hc:jN 10 eO cO os){s0:St}{bj b2 b3 lk:Key}{c:Cf St}(hd:c.1<65536)(hs:dR i c.2){Inv:Nat→T ag→Key→Prop}{R:Out→T ag→Key→Prop}(A:aBl C X i os cO s0 bj b2 b3 lk c Inv R){h:T ag}{nx:Key}(h0:Inv 0 h nx) :
  aI C bX [.yld lk,.ptr b2 0,.ptr b3 0] h nx R:=by
 have rT:C.raw dY=false:=S.nr (by decide)
 have rP:C.raw ez=false:=S.nr (by decide)
 refine S.gY.call ?_
 simp[jd]
 obtain⟨bj0,HG,b30,_⟩:=A.has _ _ _ h0
 have start:∀ n:Nat,n=os.length→W C (.loop gi) (al 0 (bB [] R)) (au (K 12) (some (I 0)) (au (K 11) (some (I n)) (au (K 10) (some cO) (au (K 9) (some (.ptr bj 2)) (au (K 8) (some (.ptr bj 0)) (au (K 7) (some (.ptr bj 0)) (au (K 2) (some (.ptr b3 0)) (au (K 1) (some (.ptr b2 0)) (au (K 0) (some (.yld lk)) .nil))))))))) h nx:=by
  rintro _ rfl
  refine W.dQ (n:=os.length) (S1I os b2 b3 lk Inv) ⟨0,by simp,by omega,by simp,by simp,by simp,by simp,by simp,h0⟩ ?_
  rintro m dn h1 bN ⟨k,rfl,hk,g0,g1,g2,g11,Gg,h1k⟩
  obtain⟨bj1,b21,b31,ltj,lt2,lt3⟩:=A.has _ _ _ h1k
  refine W.of ?_
  simp[gi]
  by_cases SA:k<os.length
  ·have hki:(k:Int)<os.length:=by omega
   have ec0:(eC c)[0]?=some (I c.1):=rfl
   simp[gj,g11,Gg,hki]
   simp[lM,Gg]
   simp[lN,g1,g2,b21,b31,ec0,rT]
   refine(aqT S ho hc SA hd bj1 ltj).mono ?_
   rintro o h2 aH ⟨rfl,e2⟩
   rw[axj mB SA]
   have n2:=e2.n
   have h2k:=A.ew _ _ _ _ _ h1k e2
   obtain⟨Ux,b22,b32,aK3,aRL,aRM⟩:=A.has _ _ _ h2k
   have next:∀ (ay:T AV) (h':T ag) (nx':Key),aa (K 0) ay=some (.yld lk)→aa (K 1) ay=some (.ptr b2 0)→aa (K 2) ay=some (.ptr b3 0)→aa (K 11) ay=some (I os.length)→aa (K 12) ay=some (I k)→Inv (k+1) h' nx'→
     mX C (av (fun tm h nx=>∃ m,m<os.length-k∧S1I os b2 b3 lk Inv m tm h nx) (al 0 (bB [] R))) gk ay h' nx':=by
    intro ay h' nx' q0 q1 q2 K1 q12 hI
    simp[gk,q12]
    rw[aq (by omega) (by omega)]
    exact⟨os.length-(k+1),by omega,k+1,rfl,by omega,by simp[q0],by simp[q1],by simp[q2],by simp[K1],by simp,hI⟩
   have dL:(bH X i os).step c k=if wZ os k c.1=true then(X.take (cm i os[k]) os[k] c.2).map (fun s=>(k,(c.1+2^k,s))) else none:=by rw[Rg,nC SA]
   cases kb:wZ os k c.1 with
   |false=>
    rw[kb] at dL
    simp
    refine next _ _ _ ?_ ?_ ?_ ?_ ?_ (A.skip _ _ _ SA (by rw[dL];rfl) h2k)<;>simp[g0,g1,g2,g11,Gg]
   |true=>
    rw[kb,if_pos rfl] at dL
    have hco:=Sr hi nq (Pe SA)
    have tk:List.take 4 (eC c).tail=eS c.2:=rfl
    have Tj:c.1.testBit k=false:=anf X i os k c.1 kb
    simp
    simp[lO,g1,g2,b22,b32,uI,tk,rP,GG]
    refine(atg S hc hco hs Ux aK3).mono ?_
    rintro o h3 bF ⟨⟨u,rfl,hu⟩,e3⟩
    have n3:=e3.n
    have s3:=kTSu bF
    simp[Kb,lenS,anA]
    have e4:=E0 h3 bF (.cells (eS u) .fix)
    have b5:aa bF (au bF (some (.cells (eS u) .fix)) h3)=some (.cells (eS u) .fix):=by simp
    generalize au bF (some (.cells (eS u) .fix)) h3=h4 at *
    have h4k:=A.ew _ _ _ _ _ h2k (e3.trans e4)
    obtain⟨bj4,b24,b34,aRO,aRP,aRQ⟩:=A.has _ _ _ h4k
    cases ht:X.take (cm i os[k]) os[k] c.2 with
    |none=>
     rw[ht] at dL
     simp[gn]
     refine next _ _ _ ?_ ?_ ?_ ?_ ?_ (A.skip _ _ _ SA dL h4k)<;>simp[g0,g1,g2,g11,Gg]
    |some v=>
     rw[ht] at dL
     have:=hu v ht
     subst this
     have hsh:BB .i64 k=true:=by unfold BB;exact Nat.ble_eq_true_of_le (by omega)
     have hp2:2^k≤65536:=kn (by omega)
     have hw:cu .i64 ((2^k:Nat):Int)=((2^k:Nat):Int):=by
      obtain⟨z,hz,hzl⟩:∃ z:Nat,z=2^k∧z≤65536:=⟨_,rfl,hp2⟩
      rw[← hz];exact aq (by omega) (by omega)
     have Rb:Q2 .i64 ((2^k:Nat):Int)=2^k:=pV hp2
     have Fq:Q2 .i64 (c.1:Int)=c.1:=pV (by omega)
     have hor:=akd k c.1 Tj
     have hw2:cu .i64 ((c.1 ||| 2^k:Nat):Int)=((c.1+2^k:Nat):Int):=by
      obtain⟨z,hz,hzl⟩:∃ z:Nat,z=c.1+2^k∧z≤200000:=⟨_,rfl,by omega⟩
      rw[hor,← hz];exact aq (by omega) (by omega)
     simp[gn,g0,g2,b34,ec0,b5,lenS,Ei,hsh,-Int.natCast_pow,-Int.natCast_add,hw,Rb,Fq,hw2]
     refine(A.yld k (c.1+2^k,u) _ _ SA dL h4k).mono ?_
     rintro o h5 Ut (⟨rfl,h5k⟩|⟨rfl,hR⟩)
     ·simp
      refine next _ _ _ ?_ ?_ ?_ ?_ ?_ h5k<;>simp[g0,g1,g2,g11,Gg]
     ·simp
      exact hR
  ·have hke:k=os.length:=by omega
   subst hke
   simp[gj,g11,Gg]
   exact A.fin _ _ h1k
 rcases id hc with⟨e0,e1⟩|e0
 ·have hl0:os.length=0:=by rw[e1];rfl
  have:=start 0 hl0.symm
  simp[gq,HG,bj0,jB,e0]
  simpa[e0] using this
 ·have:=start os.length rfl
  simp[gq,HG,bj0,jB,e0]
  simpa[e0] using this
end Ln
/-
 LN: whether a configuration is in a proof; the form of a proof: the program. No condition.
-/
namespace Go.Sx
theorem V.aFu{C:cD}{c:aA}{j:Nat}{Q:pA}{ds:List Key}{tm:T AV}{h:T ag}{nx:Key}(hw:W C (.loop c) (al j (atD Q ds)) tm h nx):V C (.loop c) (n9 j Q) ds tm h nx:=
 V.ajk (hw.mono fun e tm h nx hq=>by cases e<;>exact hq)
end Go.Sx
namespace Ln
open Go.Sx Go
variable{C:cD}{X:Kn}(S:Std C X)
include S
theorem ap2{l:List Ci}(hl:l.length≤10000)(hk:∀ y∈l,y.2.kids.length≤3)(hs:l.Pairwise D9){x:Ci}(hx:x.2.kids.length≤3){c0:AV}(hc:jN 5 eD c0 l){h:T ag}{nx b8:Key}(hb:aa b8 h=some (.cells [c0] .fix))(Iq:b8.toNat<nx.toNat) :
  aI C aR [.agg (eD x),.ptr b8 0] h nx (fun o h' nx'=>o=.ret (.bool (decide (x∈l)))∧Ext h nx h' nx'):=by
 have rB:C.raw aL=false:=S.nr (by decide)
 have hz:∀ H,aO 9999 c0 H=(c0,H):=fun H=>hc.D3 _ _
 refine S.u7.call ?_
 simp[qg]
 simp[tD,asx,Ao]
 have e0:=E0 h nx (.cells (eD x) .fix)
 have bx:aa nx (au nx (some (.cells (eD x) .fix)) h)=some (.cells (eD x) .fix):=by simp
 have b81:aa b8 (au nx (some (.cells (eD x) .fix)) h)=some (.cells [c0] .fix):=by rw[e0.g b8 Iq];exact hb
 generalize au nx (some (.cells (eD x) .fix)) h=h1 at *
 simp[tE,bx,b81,B9,Ao,rB,hz,U2]
 refine(akK S hl hk hs hx hc).mono ?_
 rintro o h2 aH ⟨⟨p,rfl⟩,e2⟩
 simp
 simp[tF]
 exact e0.trans e2
structure RfA(X:Kn)(i:Nat)(os:List Op)(cO c3:AV)(b8 b10 bj:Key)(tm:T AV)(h:T ag)(nx:Key):Prop where
 k8:aa (K 8) tm=some (.ptr b8 0)
 bZ:aa (K 10) tm=some (.ptr b10 0)
 cF:aa (K 11) tm=some (.ptr bj 0)
 v8:aa b8 h=some (.cells [c3] .fix)
 v10:aa b10 h=some (.cells [I 0] .fix)
 vj:aa bj h=some (.cells (jB X i cO (cd i) (jV os os.length)) .fix)
 lt:b8.toNat<nx.toNat∧b10.toNat<nx.toNat∧bj.toNat<nx.toNat
omit S in
theorem RfA.ext{i:Nat}{os:List Op}{cO c3:AV}{b8 b10 bj:Key}{tm tm':T AV}{h h':T ag}{nx nx':Key}(A:RfA X i os cO c3 b8 b10 bj tm h nx)(e:Ext h nx h' nx')(h8:aa (K 8) tm'=aa (K 8) tm)(h10:aa (K 10) tm'=aa (K 10) tm)(h11:aa (K 11) tm'=aa (K 11) tm):RfA X i os cO c3 b8 b10 bj tm' h' nx':=by
 have n:=e.n
 have lt:=A.lt
 exact⟨h8.trans A.k8,h10.trans A.bZ,h11.trans A.cF,(e.g b8 lt.1).trans A.v8,(e.g b10 lt.2.1).trans A.v10,(e.g bj lt.2.2).trans A.vj,by omega⟩
def FoI(X:Kn)(i:Nat)(os:List Op)(cO c3:AV)(b8 b10 bj:Key)(l:List Ci)(h:T ag)(nx:Key)(m:Nat)(tm':T AV)(h':T ag)(nx':Key):Prop:=∃ j:Nat,m=l.length-j∧j≤l.length∧RfA X i os cO c3 b8 b10 bj tm' h' nx'∧aa (K 32) tm'=some c3∧aa (K 33) tm'=some (I l.length)∧aa (K 34) tm'=some (I j)∧Ext h nx h' nx'∧ny os.length l j
theorem arn{i:Nat}{os:List Op}(ho:os.length≤16){cO:AV}(hcO:jN 10 eO cO os){l:List Ci}(hl:l.length≤10000)(hk:∀ y∈l,y.2.kids.length≤3){c3:AV}(hc:jN 5 eD c3 l){b8 b10 bj:Key}{Q:dN}{tm:T AV}{h h1:T ag}{nx bN:Key}{m:Nat}(hn:nx.toNat≤b10.toNat)(A:FoI X i os cO c3 b8 b10 bj l h nx m tm h1 bN)
  (oW:∀ tm' h' nx',aa (K 10) tm'=some (.ptr b10 0)→aa b10 h'=some (.cells [I 1] .fix)→¬ cZ os.length l→Ext h nx h' nx'→Q .ret tm' h' nx')
  (eK:∀ tm' h' nx',RfA X i os cO c3 b8 b10 bj tm' h' nx'→cZ os.length l→Ext h nx h' nx'→Q .norm tm' h' nx') :
  W C (.loop lv) (al 0 Q) tm h1 bN:=by
 have rC:C.raw cW=false:=S.nr (by decide)
 have hr:=dF.rows l
 refine W.dQ (FoI X i os cO c3 b8 b10 bj l h nx) A ?_
 rintro m dn h2 aH ⟨j,rfl,hj,B,g32,g33,g34,e2,hf⟩
 have n2:=e2.n
 have lt:=B.lt
 have s2:=kTSu aH
 refine W.of ?_
 simp[lv]
 by_cases bz:j<l.length
 ·have uA:(j:Int)<l.length:=by omega
  have Hr:c3=.sl (aj eD l) l.length 5 .any:=by
   rcases hc with⟨_,rfl⟩|e
   ·simp at bz
   ·exact e
  have aFv:=g32
  rw[Hr] at aFv
  have tx:5≤l.length*5-j*5:=by omega
  have ec:=dF.at bz
  have n64:os.length≤64:=by omega
  have hkj:=hk _ (Dn bz)
  simp[ql,g33,g34,uA]
  simp[yD,aFv,g34,bz,hr,tx,ec,Ao,B9,asx]
  have e3:=E0 h2 aH (.cells (eD l[j]) .fix)
  have bc:aa aH (au aH (some (.cells (eD l[j]) .fix)) h2)=some (.cells (eD l[j]) .fix):=by simp
  have B8:=B.v8
  rw[Hr] at B8
  have b83:aa b8 (au aH (some (.cells (eD l[j]) .fix)) h2)=some (.cells [.sl (aj eD l) l.length 5 .any] .fix):=by rw[e3.g b8 lt.1];exact B8
  have Sj:aa bj (au aH (some (.cells (eD l[j]) .fix)) h2)=some (.cells (jB X i cO (cd i) (jV os os.length)) .fix):=by rw[e3.g bj lt.2.2];exact B.vj
  have aLD:aa b10 (au aH (some (.cells (eD l[j]) .fix)) h2)=some (.cells [I 0] .fix):=by rw[e3.g b10 lt.2.1];exact B.v10
  generalize au aH (some (.cells (eD l[j]) .fix)) h2=h3 at *
  have bad:∀ (ay:T AV) (h':T ag) (nx':Key),aa (K 10) ay=some (.ptr b10 0)→Ext h3 aH.succ h' nx'→¬ cZ os.length l→
    mX C (av (eP C .ret (al 1 (av (eP C (.ops iA) (av (fun tm h' nx'=>∃ m,m<l.length-j∧FoI X i os cO c3 b8 b10 bj l h nx m tm h' nx') (al 0 Q))) (av (fun tm h' nx'=>∃ m,m<l.length-j∧FoI X i os cO c3 b8 b10 bj l h nx m tm h' nx') (al 0 Q))))) (al 1 (av (eP C (.ops iA) (av (fun tm h' nx'=>∃ m,m<l.length-j∧FoI X i os cO c3 b8 b10 bj l h nx m tm h' nx') (al 0 Q))) (av (fun tm h' nx'=>∃ m,m<l.length-j∧FoI X i os cO c3 b8 b10 bj l h nx m tm h' nx') (al 0 Q))))) qm ay h' nx':=by
   intro ay h' nx' Sk e' iI
   have aLE:aa b10 h'=some (.cells [I 0] .fix):=by rw[e'.g b10 (by omega)];exact aLD
   simp[qm,Sk,aLE]
   refine oW _ _ _ ?_ ?_ iI (((e2.trans e3).trans e').put hn)<;>simp[Sk]
  have next:∀ (ay:T AV) (h':T ag) (nx':Key),(∀ k:Key,k=K 8∨k=K 10∨k=K 11∨k=K 32∨k=K 33∨k=K 34→aa k ay=aa k dn)→Ext h3 aH.succ h' nx'→ny os.length l (j+1)→
    mX C (av (fun tm h' nx'=>∃ m,m<l.length-j∧FoI X i os cO c3 b8 b10 bj l h nx m tm h' nx') (al 0 Q)) iA ay h' nx':=by
   intro ay h' nx' q e' hf'
   have q32:=(q (K 32) (by simp)).trans g32
   have q33:=(q (K 33) (by simp)).trans g33
   have q34:=(q (K 34) (by simp)).trans g34
   simp[iA,q34]
   rw[aq (by omega) (by omega)]
   exact⟨l.length-(j+1),by omega,j+1,rfl,by omega,B.ext (e3.trans e') (by simpa using q _ (by simp)) (by simpa using q _ (by simp)) (by simpa using q _ (by simp)),by simp[q32],by simp[q33],by simp,(e2.trans e3).trans e',hf'⟩
  have ed0:(eD l[j])[0]?=some (I l[j].1):=rfl
  have Im:∀ k:Int,(k==0)=decide (k=0):=fun k=>by by_cases h:k=0<;>simp[h]
  have hO:∀ (tm:T AV) (hh:T ag) (k:Key),aa k tm=some cO→lightOp C.orc (.lenL (.t k)) tm hh=some (I os.length):=by
   intro tm hh k hk
   rcases id hcO with⟨rfl,rfl⟩|rfl<;>simp[hk]
  by_cases hj0:j=0
  ·have Nx:¬ 0<j:=by omega
   by_cases akr:l[j].1<0
   ·have iI:¬ cZ os.length l:=fun h=>by have:=(h j bz).1;omega
    simp[iB,Nx,g34,bc,ed0,akr]
    refine bad _ _ _ ?_ (Ext.refl _ _) iI
    simp[B.bZ]
   ·obtain⟨a,ha⟩:=Int.eq_ofNat_of_zero_le (show 0≤l[j].1 by omega)
    have IT:=ed0
    rw[ha] at IT
    have PR:¬ (a:Int)<0:=by omega
    have hdv:a.div (2^os.length)=a / 2^os.length:=rfl
    have xR:0<2^os.length:=Nat.two_pow_pos _
    by_cases hz:a<2^os.length
    ·have h0:a / 2^os.length=0:=Nat.div_eq_of_lt hz
     simp[iB,Nx,g34,bc,IT,PR,B.cF,Sj,jB,↓hO,BB,n64,hdv,h0]
     refine next _ _ _ ?_ (Ext.refl _ _) (hf.step bz (by omega) (by rw[ha];omega) (by omega))
     rintro k (rfl|rfl|rfl|rfl|rfl|rfl)<;>simp
    ·have h0:a / 2^os.length≠0:=by
      intro q
      exact hz ((Nat.div_eq_zero_iff_lt xR).1 q)
     have h0':((a / 2^os.length:Nat):Int)≠0:=by omega
     have iI:¬ cZ os.length l:=fun h=>by have:=(h j bz).2.1;rw[ha] at this;omega
     simp[iB,Nx,g34,bc,IT,PR,B.cF,Sj,jB,↓hO,BB,n64,hdv,-Int.natCast_ediv,h0',bq h0']
     refine bad _ _ _ ?_ (Ext.refl _ _) iI
     simp[B.bZ]
  ·have Nx:0<j:=by omega
   have hj1:j-1<l.length:=by omega
   have w1:cu .i64 ((j:Int)-1)=((j-1:Nat):Int):=by rw[aq (by omega) (by omega)];omega
   have tx1:5≤l.length*5-(j-1)*5:=by omega
   have ec1:=dF.at hj1
   have hk1:=hk _ (Dn hj1)
   simp[iB,g34,Nx,B.k8,b83,w1,hj1,hr,tx1,ec1,B9,Ao,bc,rC,U2]
   refine(FE S hk1 hkj _ _).mono ?_
   rintro o h4 DE ⟨rfl,e4⟩
   have bc4:aa aH h4=some (.cells (eD l[j]) .fix):=by rw[e4.g aH (by omega)];exact bc
   have bj4:aa bj h4=some (.cells (jB X i cO (cd i) (jV os os.length)) .fix):=by rw[e4.g bj (by omega)];exact Sj
   by_cases bO:D9 l[j-1] l[j]
   ·have Af:=HJ.2 bO
    by_cases akr:l[j].1<0
    ·have iI:¬ cZ os.length l:=fun h=>by have:=(h j bz).1;omega
     simp[Af,g34,bc4,ed0,akr]
     refine bad _ _ _ ?_ e4 iI
     simp[B.bZ]
    ·obtain⟨a,ha⟩:=Int.eq_ofNat_of_zero_le (show 0≤l[j].1 by omega)
     have IT:=ed0
     rw[ha] at IT
     have PR:¬ (a:Int)<0:=by omega
     have hdv:a.div (2^os.length)=a / 2^os.length:=rfl
     have xR:0<2^os.length:=Nat.two_pow_pos _
     by_cases hz:a<2^os.length
     ·have h0:a / 2^os.length=0:=Nat.div_eq_of_lt hz
      simp[Af,g34,bc4,IT,PR,B.cF,bj4,jB,↓hO,BB,n64,hdv,h0]
      refine next _ _ _ ?_ e4 (hf.step bz (by omega) (by rw[ha];omega) (fun _=>bO))
      rintro k (rfl|rfl|rfl|rfl|rfl|rfl)<;>simp
     ·have h0:a / 2^os.length≠0:=by
       intro q
       exact hz ((Nat.div_eq_zero_iff_lt xR).1 q)
      have h0':((a / 2^os.length:Nat):Int)≠0:=by omega
      have iI:¬ cZ os.length l:=fun h=>by have:=(h j bz).2.1;rw[ha] at this;omega
      simp[Af,g34,bc4,IT,PR,B.cF,bj4,jB,↓hO,BB,n64,hdv,-Int.natCast_ediv,h0',bq h0']
      refine bad _ _ _ ?_ e4 iI
      simp[B.bZ]
   ·have Af:¬ Tl l[j-1] l[j]<0:=fun q=>bO (HJ.1 q)
    have iI:¬ cZ os.length l:=fun h=>bO ((h j bz).2.2 (by omega))
    simp[Af]
    refine bad _ _ _ ?_ e4 iI
    simp[B.bZ]
 ·have qL:j=l.length:=by omega
  subst qL
  simp[ql,g33,g34]
  refine eK _ _ _ (B.ext (Ext.refl _ _) ?_ ?_ ?_) hf.all e2<;>simp
end Ln
