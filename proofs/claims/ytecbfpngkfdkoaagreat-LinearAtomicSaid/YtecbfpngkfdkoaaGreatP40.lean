/- A part of the proof. No condition. -/
import Derived.Test.YtecbfpngkfdkoaaGreatP38
import Derived.Test.YtecbfpngkfdkoaaGreatP39
import Derived.Test.YtecbfpngkfdkoaaGreatRows
import Derived.WalkKit
import Derived.ProofKit
import Derived.OpenShut
import Derived.Handed
import Derived.JoinedOf
import Derived.RowKit
import Derived.RowKitTokens
import Derived.Carry
namespace Go.Proofs.YtecbfpngkfdkoaaGreat.linearAtomic
open Go.ChangeShapes Go.WideShapes Go.ChangeAt Go.RowKit
theorem own:ownKnob Tryz.prog.godebug=none:=by kernel_rfl
theorem laidOut:laidOutB Tryz.prog=true:=by kernel_rfl
theorem u22:Tryz.prog.underlying 22=some (.slice 3):=by kernel_rfl
theorem u3:Tryz.prog.underlying 3=some (.int .i64):=by kernel_rfl
theorem u4:Tryz.prog.underlying 4=some .bool:=by kernel_rfl
theorem c3:Tryz.prog.cellsOf 3=1:=by kernel_rfl
theorem gN:Tryz.prog.globals.size=0:=by kernel_rfl
open Go.Sx in
theorem ar2(W:World):ji Tryz.prog .nil ⟨W,zW W⟩:=⟨by rw[gN];exact Nat.zero_le _,fun b B h=>by simp at h⟩
open Go.Sx in
theorem ar3{W:World}{b o:Nat}{v:Value}(h:W.cell? ⟨b,o,none⟩=some v):zW W b o=some v:=by unfold zW;unfold World.cell? at h;split at h<;>simp_all
open Go.Sx in
def YD(W:World)(v:Value)(l:List Int):Prop:=(v=.slice none 0 0∧l=[])∨∃(a:Addr) (cap b o:Nat),v=.slice (some a) l.length cap∧l.length≤cap∧(cap=0∨a=⟨b,o,none⟩)∧∀i (h:i<l.length),zW W b (o+i)=some (.int .i64 l[i])
open Go.Sx in
theorem abw{W:World}{v:Value}{l:List Int}(hv:YD W v l):∃cl,nW 1 Ln.eI cl l∧aX (fun _=>0) (gMu Tryz.prog .nil (zW W)) cl v:=by
 have hm:∀l:List Int,aq Ln.eI l=l.map I:=fun l=>by
  induction l with
  |nil=>rfl
  |cons a l ih=>rw[dg,ih];rfl
 rcases hv with⟨rfl,rfl⟩|⟨ad,cap,b,o,rfl,BT,qO,hz⟩
 ·exact⟨.nils,.inl ⟨rfl,rfl⟩,.nils⟩
 ·refine⟨.sl (l.map I) l.length 1 .any,.inr (by rw[hm]),.sl _ _ _ _ cap b o ad (l.map fun n=>Value.int .i64 n) ?_ (by simp) BT qO ?_ trivial⟩
  ·refine aB.Ry (by simp) fun i y hy=>?_;simp at hy;obtain⟨n,hn,rfl⟩:=hy;exact⟨.int .i64 n,by simp[hn],.int _ _ _ rfl⟩
  ·intro i y hy;simp at hy;obtain⟨n,hn,rfl⟩:=hy;obtain⟨hi,rfl⟩:=List.getElem?_eq_some_iff.1 hn;exact hz i hi
open Go.Sx in
theorem walk{W:World}{v0:Value}{l0:List Int}{a1:Int}{v2:Value}{l2:List Int}(hv0:YD W v0 l0)(in0:∀x∈l0,Ln.qA x)(in1:Ln.qA a1)(hv2:YD W v2 l2)(in2:∀x∈l2,Ln.qA x) :
  Calls Tryz.prog 11 #[v0,.int .i64 a1,v2] W fun e w'=>e=.returned (.bool true)∧Below W.heap.size W w':=by
 have hl:=ar2 W;have hM:=It (ρ:=fun _=>0) hl ar4 (nx:=bC.toNat) Ln.few;have X:=Ln.aJN (ρ:=fun _=>0) _ hl;obtain⟨cl0,AF,hr0⟩:=abw hv0;obtain⟨cl2,hc2,N9⟩:=abw hv2;have hc:=Ln.aeC Ln.aJO Ln.aB3 Ln.aJP Ln.aJQ in1 in0 in2 AF hc2 .nil bC;refine(HE X hM (fun _ _ h=>h) (args:=#[v0,.int .i64 a1,v2]) (.cons _ _ _ _ hr0 (.cons _ _ _ _ (.int _ _ _ rfl) (.cons _ _ _ _ N9 .nil))) (fun o h nx h1=>⟨_,h1.1⟩) hc).mono ?_;rintro e w' ⟨v,h',nx',u,μ,G,⟨hv,_⟩,rfl,hr,_,hM2,_⟩;cases hv;cases hr;exact⟨rfl,hM2.below⟩
theorem ahZ{n:Int}(h:(Lit.int .i64 n).wf=true):Ln.qA n:=by
 have e1:IntKind.i64.min=-9223372036854775808:=by decide
 have e2:IntKind.i64.max=9223372036854775807:=by decide
 simp[Lit.wf,e1,e2]at h;unfold Ln.qA;omega
theorem ah0{W:World}{H:Type}{enc:TypeId×Value→H}{ad0:Option Addr}{len cap:Nat}{d:DataW H}{p:List MemPlace}(h0:DataW.Trod enc Tryz.prog W 0 (fun _=>true) true 22 (.slice ad0 len cap) d p):∃l:List Int,(∀x∈l,Ln.qA x)∧YD W (.slice ad0 len cap) l:=by
 obtain⟨fuel,hf⟩:=h0;rcases open_ints u22 u3 c3 hf with⟨Oc,hx⟩|⟨a,aSk,avT,zs,Oc,_,hl,hm,hz,hx,ng,hwz⟩
 ·simp[Value.cells]at Oc;obtain⟨rfl,rfl,rfl⟩:=Oc;exact⟨[],fun n hn=>by simp at hn,.inl ⟨rfl,rfl⟩⟩
 ·simp[Value.cells]at Oc;obtain⟨rfl,rfl,rfl⟩:=Oc;simp only[if_true]at hz;obtain⟨b,off,spot⟩:=a;refine⟨zs.take len,fun n hn=>ahZ (hwz n (List.mem_of_mem_take hn)),.inr ⟨⟨b,off,spot⟩,cap,b,off,?_,by simp;omega,?_,?_⟩⟩
  ·rw[List.length_take,Nat.min_eq_left (by omega)]
  ·by_cases hc:cap=0
   ·exact .inl hc
   ·right;have anK:spot=none:=by simpa[Addr.add]using World.cell?_spot (ng 0 (by omega))
    subst anK;rfl
  ·intro i hi;have hi2:i<len∧i<zs.length:=by simp at hi;omega
   have hci:=ng i hi2.2;have anK:spot=none:=by simpa[Addr.add]using World.cell?_spot (ng 0 (by omega))
   subst anK;rw[add_plain]at hci;have:=ar3 hci;rw[this];simp[List.getD,List.getElem?_eq_getElem hi2.2]
set_option maxRecDepth 100000 in
theorem lifted(os:Os)(started:os.Started)(H:Type)(enc:TypeId×Value→H) :
  ReturnsInHanded {} Tryz.checked os 11 .any (Rows.linearAtomicSpec.pre6 enc Tryz.prog Tryz.f11 [] false) (Rows.linearAtomicSpec.post enc Tryz.prog Tryz.f11 false true false false):=by
 refine returnsInHanded_of_change (C:=Tryz.checked) own started (by kernel_rfl) Tryz.func11
  (ChangeSpec.witness6 (enc:=enc) (C:=Tryz.checked) false ⟨#[],#[.slice none 0 0,.int .i64 0,.slice none 0 0],[]⟩ 8 (by kernel_rfl) (by kernel_rfl) (by kernel_rfl) (by kernel_rfl)) ?_
 intro W base args ds gs before auG hW _ _;have Ol:∀(j:Nat) t v,Tryz.f11.params[j]?=some t→args[j]?=some v→Value.okWide Tryz.prog W .any base t v:=auG;have hW':=hW;obtain⟨p,q,hA0,hV,rfl,Yl,Ge⟩:=hW;have hA:DataW.TrodAll enc Tryz.prog W 0 (fun _=>true) true Tryz.f11.params.toList args.toList ds p:=hA0;rw[Tryz.params11]at hA Ol;obtain⟨v0,vs0,d0,ds0,p0,q0,dI,rfl,rfl,h0,r0⟩:=trodAll_cons hA;obtain⟨v1,vs1,d1,ds1,p1,q1,rfl,rfl,rfl,h1,r1⟩:=trodAll_cons r0;obtain⟨v2,vs2,d2,ds2,p2,q2,rfl,rfl,rfl,h2,r2⟩:=trodAll_cons r1;obtain⟨rfl,rfl,rfl⟩:=trodAll_nil r2;obtain rfl:args=#[v0,v1,v2]:=by cases args;simp_all
 obtain⟨rfl,rfl⟩:=trodVars_none hV;obtain⟨ad0,aJR,aJS,rfl⟩:=okWide_slice u22 (Ol 0 22 v0 rfl rfl);obtain⟨a1,rfl,rfl,rfl,w1⟩:=open_int u3 (Ol 1 3 v1 rfl rfl) h1;obtain⟨ad2,aJT,aJU,rfl⟩:=okWide_slice u22 (Ol 2 22 v2 rfl rfl);clear hA0 auG;simp only[List.append_nil]at hW';have aJV:∀y∈p0,y.block<W.heap.size:=fun y hy=>by simpa using hW'.lt y (by simp[hy])
 have axA:∀(W':World),Below W.heap.size W W'→DataW.Trod enc Tryz.prog W' 0 (fun b=>decide (b<W.heap.size)) true 22 (.slice ad0 aJR aJS) d0 p0:=
  fun W' hn=>Below.trod laidOut (by kernel_rfl) (of_decide_eq_true (by kernel_rfl)) h0 hn aJV
 obtain⟨l0,in0,hs0⟩:=ah0 h0;have aJW:∀y∈p2,y.block<W.heap.size:=fun y hy=>by simpa using hW'.lt y (by simp[hy])
 have axB:∀(W':World),Below W.heap.size W W'→DataW.Trod enc Tryz.prog W' 0 (fun b=>decide (b<W.heap.size)) true 22 (.slice ad2 aJT aJU) d2 p2:=
  fun W' hn=>Below.trod laidOut (by kernel_rfl) (of_decide_eq_true (by kernel_rfl)) h2 hn aJW
 obtain⟨l2,in2,hs2⟩:=ah0 h2;refine(walk hs0 in0 (ahZ w1) hs2 in2).mono fun e W' ⟨he,hg⟩=>?_;subst he;refine⟨_,rfl,_,_,_,[],(p0++([]++(p2 ++ []))),[],hW',?_,?_,?_,hg.frame _,fun h=>by cases h⟩
 ·exact(trodAll_cons_mk (shut_bool u4 _) trodAll_mk0)
 ·exact(trodAll_cons_mk (axA _ hg) (trodAll_cons_mk (shut_int u3 w1) (trodAll_cons_mk (axB _ hg) trodAll_mk0)))
 ·rfl
end Go.Proofs.YtecbfpngkfdkoaaGreat.linearAtomic
