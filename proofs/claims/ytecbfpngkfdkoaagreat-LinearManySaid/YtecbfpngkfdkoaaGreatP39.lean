/- A part of the proof. No condition. -/
import Derived.Test.YtecbfpngkfdkoaaGreatP37
import Derived.Test.YtecbfpngkfdkoaaGreatP38
import Derived.Test.YtecbfpngkfdkoaaGreatRows
import Derived.WalkKit
import Derived.ProofKit
import Derived.OpenShut
import Derived.Handed
import Derived.JoinedOf
import Derived.RowKit
import Derived.RowKitTokens
import Derived.Carry
namespace Go.Proofs.YtecbfpngkfdkoaaGreat.linearMany
open Go.ChangeShapes Go.WideShapes Go.ChangeAt Go.RowKit
theorem own:ownKnob Tryz.prog.godebug=none:=by kernel_rfl
theorem u3:Tryz.prog.underlying 3=some (.int .i64):=by kernel_rfl
theorem u4:Tryz.prog.underlying 4=some .bool:=by kernel_rfl
theorem c3:Tryz.prog.cellsOf 3=1:=by kernel_rfl
theorem gN:Tryz.prog.globals.size=0:=by kernel_rfl
open Go.Sx in
theorem ang(W:World):iE Tryz.prog .nil ⟨W,zW W⟩:=⟨by rw[gN];exact Nat.zero_le _,fun b B h=>by simp at h⟩
open Go.Sx in
theorem walk{W:World}{a0:Int}{a1:Int}(in0:Ln.V2 a0)(in1:Ln.V2 a1) :
  Calls Tryz.prog 4 #[.int .i64 a0,.int .i64 a1] W fun e w'=>e=.returned (.bool true)∧Below W.heap.size W w':=by
 have hl:=ang W;have hM:=GA (ρ:=fun _=>0) hl anh (nx:=bD.toNat) Ln.few;have X:=Ln.aDL (ρ:=fun _=>0) _ hl;have hc:=Ln.agS (X:=Ln.K1) Ln.aDM Ln.awY Ln.apK (fun _=>rfl) (fun _=>rfl) (fun _=>rfl) in0 in1 .nil bD;refine(Fp X hM (fun _ _ h=>h) (args:=#[.int .i64 a0,.int .i64 a1]) (.cons _ _ _ _ (.int _ _ _ rfl) (.cons _ _ _ _ (.int _ _ _ rfl) .nil)) (fun o h nx h1=>⟨_,h1.1⟩) hc).mono ?_;rintro e w' ⟨v,h',nx',u,μ,G,⟨hv,_⟩,rfl,hr,_,Y6,_⟩;cases hv;cases hr;exact⟨rfl,Y6.below⟩
theorem ad6{n:Int}(h:(Lit.int .i64 n).wf=true):Ln.V2 n:=by
 have e1:IntKind.i64.min=-9223372036854775808:=by decide
 have e2:IntKind.i64.max=9223372036854775807:=by decide
 simp[Lit.wf,e1,e2]at h;unfold Ln.V2;omega
set_option maxRecDepth 100000 in
theorem lifted(os:Os)(started:os.Started)(H:Type)(enc:TypeId×Value→H) :
  ReturnsInHanded {} Tryz.checked os 4 .any (Rows.linearManySpec.pre6 enc Tryz.prog Tryz.f4 [] false) (Rows.linearManySpec.post enc Tryz.prog Tryz.f4 false true false false):=by
 refine returnsInHanded_of_change (C:=Tryz.checked) own started (by kernel_rfl) Tryz.func4
  (ChangeSpec.witness6 (enc:=enc) (C:=Tryz.checked) false ⟨#[],#[.int .i64 0,.int .i64 0],[]⟩ 8 (by kernel_rfl) (by kernel_rfl) (by kernel_rfl) (by kernel_rfl)) ?_
 intro W base args ds gs before aph hW _ _;have NO:∀(j:Nat) t v,Tryz.f4.params[j]?=some t→args[j]?=some v→Value.okWide Tryz.prog W .any base t v:=aph;have hW':=hW;obtain⟨p,q,hA0,hV,rfl,UB,Of⟩:=hW;have hA:DataW.TrodAll enc Tryz.prog W 0 (fun _=>true) true Tryz.f4.params.toList args.toList ds p:=hA0;rw[Tryz.params4]at hA NO;obtain⟨v0,vs0,d0,ds0,p0,q0,df,rfl,rfl,h0,r0⟩:=trodAll_cons hA;obtain⟨v1,vs1,d1,ds1,p1,q1,rfl,rfl,rfl,h1,r1⟩:=trodAll_cons r0;obtain⟨rfl,rfl,rfl⟩:=trodAll_nil r1;obtain rfl:args=#[v0,v1]:=by cases args;simp_all
 obtain⟨rfl,rfl⟩:=trodVars_none hV;obtain⟨a0,rfl,rfl,rfl,w0⟩:=open_int u3 (NO 0 3 v0 rfl rfl) h0;obtain⟨a1,rfl,rfl,rfl,w1⟩:=open_int u3 (NO 1 3 v1 rfl rfl) h1;clear hA0 aph;simp only[List.append_nil]at hW';refine(walk (ad6 w0) (ad6 w1)).mono fun e W' ⟨he,hg⟩=>?_;subst he;refine⟨_,rfl,_,_,_,[],([]++([] ++ [])),[],hW',?_,?_,?_,hg.frame _,fun h=>by cases h⟩
 ·exact(trodAll_cons_mk (shut_bool u4 _) trodAll_mk0)
 ·exact(trodAll_cons_mk (shut_int u3 w0) (trodAll_cons_mk (shut_int u3 w1) trodAll_mk0))
 ·rfl
end Go.Proofs.YtecbfpngkfdkoaaGreat.linearMany
