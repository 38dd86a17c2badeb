/- A part of the proof. No condition. -/
import Derived.Test.YtecbfpngkfdkoaaGreatP39
import Derived.Test.YtecbfpngkfdkoaaGreatP40
import Derived.Test.YtecbfpngkfdkoaaGreatRows
import Derived.WalkKit
import Derived.ProofKit
import Derived.OpenShut
import Derived.Handed
import Derived.JoinedOf
import Derived.RowKit
import Derived.RowKitTokens
import Derived.Carry
namespace Go.Proofs.YtecbfpngkfdkoaaGreat.linearSequential
open Go.ChangeShapes Go.WideShapes Go.ChangeAt Go.RowKit
theorem own:ownKnob Tryz.prog.godebug=none:=by kernel_rfl
theorem laidOut:laidOutB Tryz.prog=true:=by kernel_rfl
theorem u22:Tryz.prog.underlying 22=some (.slice 3):=by kernel_rfl
theorem u3:Tryz.prog.underlying 3=some (.int .i64):=by kernel_rfl
theorem u4:Tryz.prog.underlying 4=some .bool:=by kernel_rfl
theorem c3:Tryz.prog.cellsOf 3=1:=by kernel_rfl
theorem gN:Tryz.prog.globals.size=0:=by kernel_rfl
open Go.Sx in
theorem atw(W:World):jI Tryz.prog .nil ⟨W,zW W⟩:=⟨by rw[gN];exact Nat.zero_le _,fun b B h=>by simp at h⟩
open Go.Sx in
theorem atx{W:World}{b o:Nat}{v:Value}(h:W.cell? ⟨b,o,none⟩=some v):zW W b o=some v:=by unfold zW;unfold World.cell? at h;split at h<;>simp_all
open Go.Sx in
def agQ(W:World)(v:Value)(l:List Int):Prop:=(v=.slice none 0 0∧l=[])∨∃(a:Addr) (cap b o:Nat),v=.slice (some a) l.length cap∧l.length≤cap∧(cap=0∨a=⟨b,o,none⟩)∧∀i (h:i<l.length),zW W b (o+i)=some (.int .i64 l[i])
open Go.Sx in
theorem apP{W:World}{v:Value}{l:List Int}(hv:agQ W v l):∃cl,qf 1 Ln.eI cl l∧aU (fun _=>0) (gMu Tryz.prog .nil (zW W)) cl v:=by
 have hm:∀l:List Int,ak Ln.eI l=l.map I:=fun l=>by
  induction l with
  |nil=>rfl
  |cons a l ih=>rw[dc,ih];rfl
 rcases hv with⟨rfl,rfl⟩|⟨ad,cap,b,o,rfl,Bh,rk,hz⟩
 ·exact⟨.nils,.inl ⟨rfl,rfl⟩,.nils⟩
 ·refine⟨.sl (l.map I) l.length 1 .any,.inr (by rw[hm]),.sl _ _ _ _ cap b o ad (l.map fun n=>Value.int .i64 n) ?_ (by simp) Bh rk ?_ trivial⟩
  ·refine ax.Rf (by simp) fun i y hy=>?_;simp at hy;obtain⟨n,hn,rfl⟩:=hy;exact⟨.int .i64 n,by simp[hn],.int _ _ _ rfl⟩
  ·intro i y hy;simp at hy;obtain⟨n,hn,rfl⟩:=hy;obtain⟨hi,rfl⟩:=List.getElem?_eq_some_iff.1 hn;exact hz i hi
open Go.Sx in
theorem walk{W:World}{v0:Value}{l0:List Int}{a1:Int}(hv0:agQ W v0 l0)(in0:∀x∈l0,Ln.Be x)(in1:Ln.Be a1) :
  Calls Tryz.prog 10 #[v0,.int .i64 a1] W fun e w'=>e=.returned (.bool true)∧Below W.heap.size W w':=by
 have hl:=atw W;have hM:=Ih (ρ:=fun _=>0) hl atm (nx:=bz.toNat) Ln.few;have X:=Ln.aLW (ρ:=fun _=>0) _ hl;obtain⟨cl0,U4,hr0⟩:=apP hv0;have hc:=Ln.aq6 Ln.aLX Ln.aDD Ln.aG6 Ln.aLY in1 in0 U4 .nil bz;refine(Ha X hM (fun _ _ h=>h) (args:=#[v0,.int .i64 a1]) (.cons _ _ _ _ hr0 (.cons _ _ _ _ (.int _ _ _ rfl) .nil)) (fun o h nx h1=>⟨_,h1.1⟩) hc).mono ?_;rintro e w' ⟨v,h',nx',u,μ,G,⟨hv,_⟩,rfl,hr,_,hM2,_⟩;cases hv;cases hr;exact⟨rfl,hM2.below⟩
theorem aiJ{n:Int}(h:(Lit.int .i64 n).wf=true):Ln.Be n:=by
 have e1:IntKind.i64.min=-9223372036854775808:=by decide
 have e2:IntKind.i64.max=9223372036854775807:=by decide
 simp[Lit.wf,e1,e2]at h;unfold Ln.Be;omega
theorem aty{W:World}{H:Type}{enc:TypeId×Value→H}{ad0:Option Addr}{len cap:Nat}{d:DataW H}{p:List MemPlace}(h0:DataW.Trod enc Tryz.prog W 0 (fun _=>true) true 22 (.slice ad0 len cap) d p):∃l:List Int,(∀x∈l,Ln.Be x)∧agQ W (.slice ad0 len cap) l:=by
 obtain⟨fuel,hf⟩:=h0;rcases open_ints u22 u3 c3 hf with⟨C0,hx⟩|⟨a,aWm,awU,zs,C0,_,hl,hm,hz,hx,zS,hwz⟩
 ·simp[Value.cells]at C0;obtain⟨rfl,rfl,rfl⟩:=C0;exact⟨[],fun n hn=>by simp at hn,.inl ⟨rfl,rfl⟩⟩
 ·simp[Value.cells]at C0;obtain⟨rfl,rfl,rfl⟩:=C0;simp only[if_true]at hz;obtain⟨b,off,spot⟩:=a;refine⟨zs.take len,fun n hn=>aiJ (hwz n (List.mem_of_mem_take hn)),.inr ⟨⟨b,off,spot⟩,cap,b,off,?_,by simp;omega,?_,?_⟩⟩
  ·rw[List.length_take,Nat.min_eq_left (by omega)]
  ·by_cases hc:cap=0
   ·exact .inl hc
   ·right;have apQ:spot=none:=by simpa[Addr.add]using World.cell?_spot (zS 0 (by omega))
    subst apQ;rfl
  ·intro i hi;have hi2:i<len∧i<zs.length:=by simp at hi;omega
   have hci:=zS i hi2.2;have apQ:spot=none:=by simpa[Addr.add]using World.cell?_spot (zS 0 (by omega))
   subst apQ;rw[add_plain]at hci;have:=atx hci;rw[this];simp[List.getD,List.getElem?_eq_getElem hi2.2]
set_option maxRecDepth 100000 in
theorem lifted(os:Os)(started:os.Started)(H:Type)(enc:TypeId×Value→H) :
  ReturnsInHanded {} Tryz.checked os 10 .any (Rows.linearSequentialSpec.pre6 enc Tryz.prog Tryz.f10 [] false) (Rows.linearSequentialSpec.post enc Tryz.prog Tryz.f10 false true false false):=by
 refine returnsInHanded_of_change (C:=Tryz.checked) own started (by kernel_rfl) Tryz.func10
  (ChangeSpec.witness6 (enc:=enc) (C:=Tryz.checked) false ⟨#[],#[.slice none 0 0,.int .i64 0],[]⟩ 8 (by kernel_rfl) (by kernel_rfl) (by kernel_rfl) (by kernel_rfl)) ?_
 intro W base args ds gs before avG hW _ _;have P8:∀(j:Nat) t v,Tryz.f10.params[j]?=some t→args[j]?=some v→Value.okWide Tryz.prog W .any base t v:=avG;have hW':=hW;obtain⟨p,q,hA0,hV,rfl,M9,QD⟩:=hW;have hA:DataW.TrodAll enc Tryz.prog W 0 (fun _=>true) true Tryz.f10.params.toList args.toList ds p:=hA0;rw[Tryz.params10]at hA P8;obtain⟨v0,vs0,d0,ds0,p0,q0,eu,rfl,rfl,h0,r0⟩:=trodAll_cons hA;obtain⟨v1,vs1,d1,ds1,p1,q1,rfl,rfl,rfl,h1,r1⟩:=trodAll_cons r0;obtain⟨rfl,rfl,rfl⟩:=trodAll_nil r1;obtain rfl:args=#[v0,v1]:=by cases args;simp_all
 obtain⟨rfl,rfl⟩:=trodVars_none hV;obtain⟨ad0,aM7,aM8,rfl⟩:=okWide_slice u22 (P8 0 22 v0 rfl rfl);obtain⟨a1,rfl,rfl,rfl,w1⟩:=open_int u3 (P8 1 3 v1 rfl rfl) h1;clear hA0 avG;simp only[List.append_nil]at hW';have aM9:∀y∈p0,y.block<W.heap.size:=fun y hy=>by simpa using hW'.lt y (by simp[hy])
 have azn:∀(W':World),Below W.heap.size W W'→DataW.Trod enc Tryz.prog W' 0 (fun b=>decide (b<W.heap.size)) true 22 (.slice ad0 aM7 aM8) d0 p0:=
  fun W' hn=>Below.trod laidOut (by kernel_rfl) (of_decide_eq_true (by kernel_rfl)) h0 hn aM9
 obtain⟨l0,in0,hs0⟩:=aty h0;refine(walk hs0 in0 (aiJ w1)).mono fun e W' ⟨he,hg⟩=>?_;subst he;refine⟨_,rfl,_,_,_,[],(p0++([] ++ [])),[],hW',?_,?_,?_,hg.frame _,fun h=>by cases h⟩
 ·exact(trodAll_cons_mk (shut_bool u4 _) trodAll_mk0)
 ·exact(trodAll_cons_mk (azn _ hg) (trodAll_cons_mk (shut_int u3 w1) trodAll_mk0))
 ·rfl
end Go.Proofs.YtecbfpngkfdkoaaGreat.linearSequential
