/-
 SV: calls of functions that defer one function, which recovers. No condition.
-/
import Derived.Test.YthhjnogfljegnaaGreatDoorMLogic
set_option linter.unusedSimpArgs false
set_option linter.unusedVariables false
set_option linter.unusedSectionVars false
namespace Go.Sx
open Go.RowKit
section
variable {C : Cfg}
def DefPost (C : Cfg) (f : Nat) (res : List RV) (kr : Key) (rs : List POper) (grest : PCode) (args : List AV) (R : Out → T Blk → Key → Prop) (tm2 : T AV) (h2 : T Blk) (nx2 : Key) (x : AV) : Prop :=
 WI C (.ops rs) (seqPost (W C grest (fun e _ h3 nx3 => (e = .norm ∨ e = .ret) ∧ ∃ l, resultsA h3 tm2 res = some l ∧ R (.ret (tupled (frzIfA (C.rawR f) l h3).1)) (frzIfA (C.rawR f) l h3).2 nx3)) (fun _ _ _ _ => False))
  (T.set kr (some x) (paramsT args .z .nil)) h2 nx2
theorem defer_call {f g : Nat} {p gp : PFn} {l cap : List AV} {h : T Blk} {nx : Key} {R : Out → T Blk → Key → Prop} {a rest grest : PCode} {oA : POper} {kx kr : Key} {rs : List POper}
  (hs : C.sum f l h nx = none) (hp : getFn C f = some p) (hb : p.body = .seq a (.seq (.ops [oA, ⟨none, .dfr (.t kx) [], none⟩]) rest)) (hoA : oA.guard = none)
  (hg : getFn C g = some gp) (hgb : gp.body = .seq (.ops (⟨some kr, .recover, none⟩ :: rs)) grest) (hgr : gp.res = [])
  (hw : W C a (fun e tm1 h1 nx1 => e = .norm ∧ ∃ v, aOp C.orc oA.op tm1 h1 nx1 = .val v h1 nx1 ∧ T.get kx (putTm oA.dst v tm1) = some (.fn g [] cap) ∧
   W C rest (fun e tm2 h2 nx2 => match e with
    | .norm | .ret => DefPost C f p.res kr rs grest cap R tm2 h2 nx2 .nili
    | .pan x => DefPost C f p.res kr rs grest cap R tm2 h2 nx2 x
    | .exit _ => False) (putTm oA.dst v tm1) h1 nx1) (paramsT l .z .nil) h nx) : CallA C f l h nx R := by
 refine .inr ⟨hs, p, hp, fun cs => ?_⟩
 obtain ⟨e1, tm1, h1, nx1, fr1, ⟨rfl, v, hv, hk, hrest⟩, ha1, t1⟩ := hw (enterFr f p l) [.code (.seq (.ops [oA, ⟨none, .dfr (.t kx) [], none⟩]) rest)] cs rfl rfl
 cases ha1
 have t1 : To C ⟨enterFr f p l, cs, h, nx⟩ ⟨{ enterFr f p l with tm := tm1, todo := [.code (.seq (.ops [oA, ⟨none, .dfr (.t kx) [], none⟩]) rest)] }, cs, h1, nx1⟩ := by
  refine .head (step_run rfl ?_) t1
  simp only [enterFr, hb, stepRun]
 -- the function is deferred
 have t2 : To C ⟨{ enterFr f p l with tm := tm1, todo := [.code (.seq (.ops [oA, ⟨none, .dfr (.t kx) [], none⟩]) rest)] }, cs, h1, nx1⟩ ⟨{ enterFr f p l with tm := putTm oA.dst v tm1, todo := [.code rest], dfs := [.fn g cap] }, cs, h1, nx1⟩ := by
  refine .head (m1 := ⟨{ enterFr f p l with tm := tm1, todo := [.code (.ops [oA, ⟨none, .dfr (.t kx) [], none⟩]), .code rest] }, cs, h1, nx1⟩) (step_run rfl rfl) ?_
  refine .head (m1 := ⟨{ enterFr f p l with tm := tm1, todo := [.ops [oA, ⟨none, .dfr (.t kx) [], none⟩], .code rest] }, cs, h1, nx1⟩) (step_run rfl rfl) ?_
  refine .head (m1 := ⟨{ enterFr f p l with tm := putTm oA.dst v tm1, todo := [.ops [], .code rest], dfs := [.fn g cap] }, cs, h1, nx1⟩) (step_run rfl ?_) ?_
  ·have hr1 : runOps C.orc [oA, ⟨none, .dfr (.t kx) [], none⟩] tm1 h1 nx1 = .ev (.dfr g cap) [⟨none, .dfr (.t kx) [], none⟩] (putTm oA.dst v tm1) h1 nx1 := by
    rw [runOps_cons, hoA]
    simp only [wants_none, hv, putT_eq]
    rw [runOps_cons]
    simp [aOp, hk]
   simp only [stepRun, hr1, eventA, enterFr, finishA]
   rfl
  ·refine .one (step_run rfl ?_)
   simp only [stepRun, runOps_nil]
 obtain ⟨e2, tm2, h2, nx2, fr2, q2, ha2, t3⟩ := hrest { enterFr f p l with tm := putTm oA.dst v tm1, dfs := [.fn g cap] } [] cs rfl rfl
 have t3 : To C ⟨{ enterFr f p l with tm := putTm oA.dst v tm1, todo := [.code rest], dfs := [.fn g cap] }, cs, h1, nx1⟩ ⟨fr2, cs, h2, nx2⟩ := t3
 have hgf : (bif Nat.beq (Key.ofNatF 12 g).toNat g then T.get (Key.ofNatF 12 g) C.fns else none) = some gp := hg
 -- the frame is being left; the deferred function is entered and recovers
 have key : ∀ (fr : AFr) (x : AV) (m' : AMode), fr.fn = f → fr.dfd = false → fr.res = p.res → fr.tm = tm2 → fr.dfs = [.fn g cap] → ((fr.mode = .ret ∧ x = .nili ∧ m' = .ret) ∨ (fr.mode = .pan x false ∧ m' = .pan x true)) → To C ⟨fr2, cs, h2, nx2⟩ ⟨fr, cs, h2, nx2⟩ → DefPost C f p.res kr rs grest cap R tm2 h2 nx2 x →
   ∃ o h' nx' fr h1, R o h' nx' ∧ fr.fn = f ∧ fr.dfd = false ∧ Left C f fr h1 o h' ∧ To C ⟨enterFr f p l, cs, h, nx⟩ ⟨fr, cs, h1, nx'⟩ := by
  intro fr x m' hfn hdf hre htm hds hmode t4 hD
  let G0 : AFr := { fn := g, tm := paramsT cap .z .nil, todo := [.code gp.body], dfs := [], mode := .run, dfd := true, rnd := none, res := gp.res }
  have t5 : To C ⟨fr, cs, h2, nx2⟩ ⟨G0, { fr with dfs := [] } :: cs, h2, nx2⟩ := by
   refine .one ?_
   have hun : stepA C ⟨fr, cs, h2, nx2⟩ = unwindA C fr cs h2 nx2 := by
    unfold stepA
    rcases hmode with ⟨hm, _⟩ | ⟨hm, _⟩ <;> simp only [hm]
   rw [hun]
   unfold unwindA
   simp only [hds]
   unfold enterA
   simp only [hgf, paramsC_eq]
   rfl
  have t6 : To C ⟨G0, { fr with dfs := [] } :: cs, h2, nx2⟩ ⟨{ G0 with tm := T.set kr (some x) (paramsT cap .z .nil), todo := [.ops rs, .code grest] }, { fr with dfs := [], mode := m' } :: cs, h2, nx2⟩ := by
   refine .head (m1 := ⟨{ G0 with todo := [.code (.ops (⟨some kr, .recover, none⟩ :: rs)), .code grest] }, { fr with dfs := [] } :: cs, h2, nx2⟩) (step_run rfl (by simp only [G0, hgb, stepRun])) ?_
   refine .head (m1 := ⟨{ G0 with todo := [.ops (⟨some kr, .recover, none⟩ :: rs), .code grest] }, { fr with dfs := [] } :: cs, h2, nx2⟩) (step_run rfl rfl) ?_
   refine .one (step_run rfl ?_)
   have hr : runOps C.orc (⟨some kr, .recover, none⟩ :: rs) (paramsT cap .z .nil) h2 nx2 = .ev .recover (⟨some kr, .recover, none⟩ :: rs) (paramsT cap .z .nil) h2 nx2 := by
    rw [runOps_cons]
    simp [aOp]
   simp only [stepRun, G0, hr, eventA]
   rcases hmode with ⟨hm, rfl, rfl⟩ | ⟨hm, rfl⟩
   ·simp only [hm, finishA, putT_eq, putTm_some]
   ·simp only [hm, finishA, putT_eq, putTm_some]
  obtain ⟨e3, tm3, h3, nx3, fr3, q3, ha3, t7⟩ := hD { G0 with tm := T.set kr (some x) (paramsT cap .z .nil) } [.code grest] ({ fr with dfs := [], mode := m' } :: cs) rfl rfl
  cases e3 with
  | ret => exact q3.elim
  | exit i => exact q3.elim
  | pan a => exact q3.elim
  | norm =>
   cases ha3
   obtain ⟨e4, tm4, h4, nx4, fr4, ⟨hor, lr, hlr, hR⟩, ha4, t8⟩ := q3 { G0 with tm := tm3 } [] ({ fr with dfs := [], mode := m' } :: cs) rfl rfl
   have t8 : To C ⟨{ G0 with tm := tm3, todo := [.code grest] }, { fr with dfs := [], mode := m' } :: cs, h3, nx3⟩ ⟨fr4, { fr with dfs := [], mode := m' } :: cs, h4, nx4⟩ := t8
   -- the deferred function returns
   have t9 : ∃ td, To C ⟨fr4, { fr with dfs := [], mode := m' } :: cs, h4, nx4⟩ ⟨{ G0 with tm := tm4, todo := td, mode := .ret }, { fr with dfs := [], mode := m' } :: cs, h4, nx4⟩ := by
    rcases hor with rfl | rfl
    ·cases ha4
     exact ⟨[], .one (step_run rfl rfl)⟩
    ·obtain ⟨td, rfl⟩ := ha4
     exact ⟨td, .refl _⟩
   obtain ⟨td, t9⟩ := t9
   have t10 : To C ⟨{ G0 with tm := tm4, todo := td, mode := .ret }, { fr with dfs := [], mode := m' } :: cs, h4, nx4⟩ ⟨{ fr with dfs := [], mode := .ret }, cs, h4, nx4⟩ := by
    refine .one ?_
    unfold stepA
    simp only [G0]
    unfold unwindA
    simp only [hgr, resultsA, frzIf_eq]
    have hz : frzIfA (C.rawR g) [] h4 = ([], h4) := by cases C.rawR g <;> rfl
    rw [hz]
    unfold returnA
    simp only [cond_true]
    rcases hmode with ⟨hm, rfl, rfl⟩ | ⟨hm, rfl⟩
    ·simp only
    ·simp only
   refine ⟨_, _, nx4, { fr with dfs := [], mode := .ret }, h4, hR, hfn, hdf, ⟨rfl, rfl, lr, ?_, rfl, rfl⟩, ?_⟩
   ·simp only [htm, hre]; exact hlr
   ·exact t1.trans (t2.trans (t3.trans (t4.trans (t5.trans (t6.trans (t7.trans (t8.trans (t9.trans t10))))))))
 cases e2 with
 | norm =>
  cases ha2
  exact key { enterFr f p l with tm := tm2, todo := [], dfs := [.fn g cap], mode := .ret } .nili .ret rfl rfl rfl rfl rfl (.inl ⟨rfl, rfl, rfl⟩) (.one (step_run rfl rfl)) q2
 | ret =>
  obtain ⟨td, rfl⟩ := ha2
  exact key _ .nili .ret rfl rfl rfl rfl rfl (.inl ⟨rfl, rfl, rfl⟩) (.refl _) q2
 | exit i => exact q2.elim
 | pan x =>
  cases ha2
  exact key _ x (.pan x true) rfl rfl rfl rfl rfl (.inr ⟨rfl, rfl⟩) (.refl _) q2
end
end Go.Sx
