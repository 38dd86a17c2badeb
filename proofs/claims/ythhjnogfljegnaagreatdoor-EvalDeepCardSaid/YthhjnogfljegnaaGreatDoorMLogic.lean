/-
 SX: a logic for the machine's code. No condition.
-/
import Derived.Test.YthhjnogfljegnaaGreatDoorMSim
set_option linter.unusedSimpArgs false
set_option linter.unusedVariables false
set_option linter.unusedSectionVars false
namespace Go.Sx
open Go.RowKit
inductive Ex where
 | norm
 | ret
 | exit (id : Nat)
 | pan (a : AV)
def Aft (af : AFr) (k : List AItem) : Ex → T AV → AFr → Prop
 | .norm, tm, fr => fr = { af with tm := tm, todo := k }
 | .ret, tm, fr => ∃ t, fr = { af with tm := tm, todo := t, mode := .ret }
 | .exit id, tm, fr => ∃ k2, exitToA id k2 = exitToA id k ∧ fr = { af with tm := tm, todo := .code (.exit id) :: k2 }
 | .pan a, tm, fr => fr = { af with tm := tm, todo := [], mode := .pan a false }
abbrev Post := Ex → T AV → T Blk → Key → Prop
def WI (C : Cfg) (x : AItem) (Q : Post) (tm : T AV) (h : T Blk) (nx : Key) : Prop :=
 ∀ (af : AFr) (k : List AItem) (cs : List AFr), af.mode = .run → af.rnd = none → ∃ e tm' h' nx' fr, Q e tm' h' nx' ∧ Aft af k e tm' fr ∧ To C ⟨{ af with tm := tm, todo := x :: k }, cs, h, nx⟩ ⟨fr, cs, h', nx'⟩
abbrev W (C : Cfg) (c : PCode) : Post → T AV → T Blk → Key → Prop := WI C (.code c)
section
variable {C : Cfg} {Q Q' : Post} {tm : T AV} {h : T Blk} {nx : Key}
theorem WI.mono {x : AItem} (hw : WI C x Q tm h nx) (hq : ∀ e tm h nx, Q e tm h nx → Q' e tm h nx) : WI C x Q' tm h nx := by
 intro af k cs h1 h2
 obtain ⟨e, tm', h', nx', fr, q, a, t⟩ := hw af k cs h1 h2
 exact ⟨e, tm', h', nx', fr, hq _ _ _ _ q, a, t⟩
theorem step_run {m : AM} {r : SR} (hm : m.fr.mode = .run) (hr : stepRun C m.fr m.cs m.h m.nx = r) : stepA C m = r := by
 unfold stepA; simp only [hm]; exact hr
theorem WI.to {x y : AItem} (hs : ∀ (af : AFr) (k : List AItem) (cs : List AFr), af.mode = .run → af.rnd = none → stepRun C { af with tm := tm, todo := x :: k } cs h nx = .next ⟨{ af with tm := tm, todo := y :: k }, cs, h, nx⟩) (hw : WI C y Q tm h nx) : WI C x Q tm h nx := by
 intro af k cs h1 h2
 obtain ⟨e, tm', h', nx', fr, q, a, t⟩ := hw af k cs h1 h2
 exact ⟨e, tm', h', nx', fr, q, a, .head (step_run h1 (hs af k cs h1 h2)) t⟩
theorem W.skip (hq : Q .norm tm h nx) : W C .skip Q tm h nx := by
 intro af k cs h1 h2
 exact ⟨.norm, tm, h, nx, _, hq, rfl, .one (step_run h1 rfl)⟩
theorem W.ret (hq : Q .ret tm h nx) : W C .ret Q tm h nx := by
 intro af k cs h1 h2
 refine ⟨.ret, tm, h, nx, _, hq, ⟨.code .ret :: k, rfl⟩, .one (step_run h1 ?_)⟩
 show leaveA (some .ret) _ cs h nx = _
 unfold leaveA
 simp only [h2]
theorem W.exit {id : Nat} (hq : Q (.exit id) tm h nx) : W C (.exit id) Q tm h nx := by
 intro af k cs h1 h2
 exact ⟨.exit id, tm, h, nx, _, hq, ⟨k, rfl, rfl⟩, .refl _⟩
theorem W.seq {a b : PCode} (hw : W C a (fun e tm h nx => match e with | .norm => W C b Q tm h nx | e => Q e tm h nx) tm h nx) : W C (.seq a b) Q tm h nx := by
 intro af k cs h1 h2
 obtain ⟨e, tm', h', nx', fr, q, ha, t⟩ := hw af (.code b :: k) cs h1 h2
 have t : To C ⟨{ af with tm := tm, todo := .code (.seq a b) :: k }, cs, h, nx⟩ ⟨fr, cs, h', nx'⟩ := .head (step_run h1 rfl) t
 cases e with
 | norm =>
  cases ha
  obtain ⟨e2, tm2, hh2, nx2, fr2, q2, a2, t2⟩ := q { af with tm := tm' } k cs h1 h2
  refine ⟨e2, tm2, hh2, nx2, fr2, q2, ?_, t.trans t2⟩
  cases e2 <;> exact a2
 | ret => exact ⟨.ret, tm', h', nx', fr, q, ha, t⟩
 | exit id =>
  obtain ⟨k2, e1, e2⟩ := ha
  exact ⟨.exit id, tm', h', nx', fr, q, ⟨k2, e1, e2⟩, t⟩
 | pan a => exact ⟨.pan a, tm', h', nx', fr, q, ha, t⟩
theorem W.cond {x : PX} {a b : PCode} {t : Bool} (hx : x.at tm = some (.bool t)) (hw : W C (if t then a else b) Q tm h nx) : W C (.cond x a b) Q tm h nx := by
 refine WI.to (y := .code (if t then a else b)) ?_ hw
 intro af k cs h1 h2
 simp only [stepRun, hx]
 cases t <;> rfl
theorem W.block {id : Nat} {c : PCode} (hw : W C c (fun e tm h nx => match e with | .exit j => if j = id then Q .norm tm h nx else Q (.exit j) tm h nx | e => Q e tm h nx) tm h nx) : W C (.block id c) Q tm h nx := by
 intro af k cs h1 h2
 obtain ⟨e, tm', h', nx', fr, q, ha, t⟩ := hw af (.inBlock id :: k) cs h1 h2
 have t : To C ⟨{ af with tm := tm, todo := .code (.block id c) :: k }, cs, h, nx⟩ ⟨fr, cs, h', nx'⟩ := .head (step_run h1 rfl) t
 cases e with
 | norm =>
  cases ha
  exact ⟨.norm, tm', h', nx', _, q, rfl, t.trans (.one (step_run h1 rfl))⟩
 | ret => exact ⟨.ret, tm', h', nx', fr, q, ha, t⟩
 | exit j =>
  obtain ⟨k2, e1, rfl⟩ := ha
  by_cases hj : j = id
  ·subst hj
   simp only [if_true] at q
   refine ⟨.norm, tm', h', nx', _, q, rfl, t.trans (.one (step_run h1 ?_))⟩
   simp only [stepRun, e1, exitToA, beqN_eq, decide_true, cond_true]
  ·simp only [if_neg hj] at q
   refine ⟨.exit j, tm', h', nx', _, q, ⟨k2, ?_, rfl⟩, t⟩
   rw [e1]
   simp only [exitToA, beqN_eq, show ¬ id = j from fun e => hj e.symm, decide_false, cond_false]
 | pan a => exact ⟨.pan a, tm', h', nx', fr, q, ha, t⟩
theorem W.loop {c : PCode} (Inv : Nat → T AV → T Blk → Key → Prop)
  (hw : ∀ n tm h nx, Inv n tm h nx → W C c (fun e tm h nx => match e with | .norm => ∃ m, m < n ∧ Inv m tm h nx | e => Q e tm h nx) tm h nx) {n : Nat} (hi : Inv n tm h nx) : W C (.loop c) Q tm h nx := by
 have key : ∀ (n : Nat) (tm : T AV) (h : T Blk) (nx : Key), Inv n tm h nx → WI C (.inLoop c) Q tm h nx := by
  intro n
  induction n using Nat.strongRecOn with
  | _ n ih =>
   intro tm h nx hi af k cs h1 h2
   obtain ⟨e, tm', h', nx', fr, q, ha, t⟩ := hw n tm h nx hi af (.inLoop c :: k) cs h1 h2
   have t : To C ⟨{ af with tm := tm, todo := .inLoop c :: k }, cs, h, nx⟩ ⟨fr, cs, h', nx'⟩ := .head (step_run h1 rfl) t
   cases e with
   | norm =>
    cases ha
    obtain ⟨m, hm, him⟩ := q
    obtain ⟨e2, tm2, hh2, nx2, fr2, q2, a2, t2⟩ := ih m hm tm' h' nx' him { af with tm := tm' } k cs h1 h2
    refine ⟨e2, tm2, hh2, nx2, fr2, q2, ?_, t.trans t2⟩
    cases e2 <;> exact a2
   | ret => exact ⟨.ret, tm', h', nx', fr, q, ha, t⟩
   | exit id =>
    obtain ⟨k2, e1, e2⟩ := ha
    exact ⟨.exit id, tm', h', nx', fr, q, ⟨k2, e1, e2⟩, t⟩
   | pan a => exact ⟨.pan a, tm', h', nx', fr, q, ha, t⟩
 intro af k cs h1 h2
 obtain ⟨e, tm', h', nx', fr, q, a, t⟩ := key n tm h nx hi af k cs h1 h2
 refine ⟨e, tm', h', nx', fr, q, a, ?_⟩
 -- the loop's code and its item go the same way
 obtain ⟨m, hm⟩ := t
 cases m with
 | zero =>
  exfalso
  have e0 : SR.next ⟨{ af with tm := tm, todo := .inLoop c :: k }, cs, h, nx⟩ = SR.next ⟨fr, cs, h', nx'⟩ := hm
  simp only [SR.next.injEq, AM.mk.injEq, true_and] at e0
  obtain ⟨e0, _⟩ := e0
  cases e with
  | norm => cases a; simp at e0
  | ret => obtain ⟨_, rfl⟩ := a; simp [h1] at e0
  | exit id => obtain ⟨_, _, rfl⟩ := a; simp at e0
  | pan a' => cases a; simp at e0
 | succ m =>
  refine ⟨m + 1, ?_⟩
  rw [runA_succ] at hm ⊢
  rw [step_run (m := ⟨{ af with tm := tm, todo := .inLoop c :: k }, cs, h, nx⟩) h1 rfl] at hm
  rw [step_run (m := ⟨{ af with tm := tm, todo := .code (.loop c) :: k }, cs, h, nx⟩) h1 rfl]
  exact hm
inductive Out where
 | ret (v : AV)
 | pan (a : AV)
noncomputable def getFn (C : Cfg) (f : Nat) : Option PFn := bif Nat.beq (Key.ofNatF 12 f).toNat f then T.get (Key.ofNatF 12 f) C.fns else none
def Left (C : Cfg) (f : Nat) (fr : AFr) (h1 : T Blk) (o : Out) (h' : T Blk) : Prop := fr.dfs = [] ∧ match o with
 | .ret v => fr.mode = .ret ∧ ∃ l, resultsA h1 fr.tm fr.res = some l ∧ v = tupled (frzIfA (C.rawR f) l h1).1 ∧ h' = (frzIfA (C.rawR f) l h1).2
 | .pan a => fr.mode = .pan a false ∧ h' = h1
def CallA (C : Cfg) (f : Nat) (l : List AV) (h : T Blk) (nx : Key) (R : Out → T Blk → Key → Prop) : Prop :=
 (∃ v h' nx', C.sum f l h nx = some (v, h', nx') ∧ R (.ret v) h' nx') ∨
 (C.sum f l h nx = none ∧ ∃ p, getFn C f = some p ∧ ∀ cs, ∃ o h' nx' fr h1, R o h' nx' ∧ fr.fn = f ∧ fr.dfd = false ∧ Left C f fr h1 o h' ∧ To C ⟨enterFr f p l, cs, h, nx⟩ ⟨fr, cs, h1, nx'⟩)
theorem CallA.mono {f : Nat} {l : List AV} {R R' : Out → T Blk → Key → Prop} (hc : CallA C f l h nx R) (hr : ∀ o h nx, R o h nx → R' o h nx) : CallA C f l h nx R' := by
 rcases hc with ⟨v, h', nx', h1, h2⟩ | ⟨h1, p, h2, h3⟩
 ·exact .inl ⟨v, h', nx', h1, hr _ _ _ h2⟩
 ·refine .inr ⟨h1, p, h2, fun cs => ?_⟩
  obtain ⟨o, h', nx', fr, h1, q, r⟩ := h3 cs
  exact ⟨o, h', nx', fr, h1, hr _ _ _ q, r⟩
def BodyPost (C : Cfg) (f : Nat) (res : List RV) (R : Out → T Blk → Key → Prop) : Post := fun e tm h nx => match e with
 | .norm | .ret => ∃ l, resultsA h tm res = some l ∧ R (.ret (tupled (frzIfA (C.rawR f) l h).1)) (frzIfA (C.rawR f) l h).2 nx
 | .pan a => R (.pan a) h nx
 | .exit _ => False
theorem CallA.of_W {f : Nat} {p : PFn} {l : List AV} {R : Out → T Blk → Key → Prop} (hs : C.sum f l h nx = none) (hp : getFn C f = some p) (hw : W C p.body (BodyPost C f p.res R) (paramsT l .z .nil) h nx) : CallA C f l h nx R := by
 refine .inr ⟨hs, p, hp, fun cs => ?_⟩
 obtain ⟨e, tm', h', nx', fr, q, ha, t⟩ := hw (enterFr f p l) [] cs rfl rfl
 have t : To C ⟨enterFr f p l, cs, h, nx⟩ ⟨fr, cs, h', nx'⟩ := t
 cases e with
 | norm =>
  cases ha
  obtain ⟨l1, hl, hr⟩ := q
  refine ⟨_, _, nx', { enterFr f p l with tm := tm', todo := [], mode := .ret }, h', hr, rfl, rfl, ⟨rfl, rfl, l1, hl, rfl, rfl⟩, t.trans (.one (step_run rfl rfl))⟩
 | ret =>
  obtain ⟨t', rfl⟩ := ha
  obtain ⟨l1, hl, hr⟩ := q
  exact ⟨_, _, nx', _, h', hr, rfl, rfl, ⟨rfl, rfl, l1, hl, rfl, rfl⟩, t⟩
 | exit id => exact q.elim
 | pan a =>
  cases ha
  exact ⟨.pan a, h', nx', _, h', q, rfl, rfl, ⟨rfl, rfl, rfl⟩, t⟩
theorem W.ops {l : List POper} (hw : WI C (.ops l) Q tm h nx) : W C (.ops l) Q tm h nx :=
 WI.to (y := .ops l) (fun _ _ _ _ _ => rfl) hw
theorem WI.ops_fin {l : List POper} {tm' : T AV} {h' : T Blk} {nx' : Key} (hr : runOps C.orc l tm h nx = .fin tm' h' nx') (hq : Q .norm tm' h' nx') : WI C (.ops l) Q tm h nx := by
 intro af k cs h1 h2
 refine ⟨.norm, tm', h', nx', _, hq, rfl, .one (step_run h1 ?_)⟩
 simp only [stepRun, hr]
theorem call_goes {f : Nat} {args : List AV} {fr c : AFr} {cs : List AFr} {R : Out → T Blk → Key → Prop} (hc : CallA C f (frzIfA (C.raw f) args h).1 (frzIfA (C.raw f) args h).2 nx R) :
  ∃ o h' nx', R o h' nx' ∧ (∀ v fr', o = .ret v → finishA v fr = some fr' → ∀ (m : AM), stepA C m = eventA C (.call f args) fr c cs h nx → To C m ⟨fr', cs, h', nx'⟩) ∧
   (∀ a, o = .pan a → fr.mode = .run → ∀ (m : AM), stepA C m = eventA C (.call f args) fr c cs h nx → To C m ⟨{ fr with mode := .pan a false, todo := [], tm := (match fr.todo with | .staged _ d _ :: _ => eraseC d.ds fr.tm (fun t => t) | _ => fr.tm) }, cs, h', nx'⟩) := by
 rcases hc with ⟨v, h', nx', hs, hr⟩ | ⟨hs, p, hp, hrun⟩
 ·refine ⟨.ret v, h', nx', hr, ?_, ?_⟩
  ·intro v' fr' e hf m hm
   cases e
   refine .one ?_
   rw [hm]
   simp only [eventA, frzIf_eq, hs, hf]
  ·intro a e; cases e
 ·obtain ⟨o, h', nx', fr2, h1, hr, hfn, hdf, ⟨hd, hL⟩, ht⟩ := hrun (fr :: cs)
  have hen : ∀ m : AM, stepA C m = eventA C (.call f args) fr c cs h nx → stepA C m = .next ⟨enterFr f p (frzIfA (C.raw f) args h).1, fr :: cs, (frzIfA (C.raw f) args h).2, nx⟩ := by
   intro m hm
   rw [hm]
   simp only [eventA, frzIf_eq, hs]
   unfold enterA
   have hp' : (bif Nat.beq (Key.ofNatF 12 f).toNat f then T.get (Key.ofNatF 12 f) C.fns else none) = some p := hp
   simp only [hp', paramsC_eq]
   rfl
  refine ⟨o, h', nx', hr, ?_, ?_⟩
  ·intro v fr' e hf m hm
   subst e
   obtain ⟨hm2, l, hl, rfl, rfl⟩ := hL
   refine .head (hen m hm) (ht.trans (.one ?_))
   unfold stepA
   simp only [hm2]
   unfold unwindA
   simp only [hd, hm2, hl, hfn, frzIf_eq]
   unfold returnA
   simp only [hdf, cond_false, hf]
  ·intro a e hrunm m hm
   subst e
   obtain ⟨hm2, rfl⟩ := hL
   refine .head (hen m hm) (ht.trans (.one ?_))
   unfold stepA
   simp only [hm2]
   unfold unwindA
   simp only [hd, hm2, hrunm]
   rfl
theorem WI.ops_call {l : List POper} {f : Nat} {args : List AV} {o : POper} {rest : List POper} {tm1 : T AV} {h1 : T Blk} {nx1 : Key} {R : Out → T Blk → Key → Prop} (hr : runOps C.orc l tm h nx = .ev (.call f args) (o :: rest) tm1 h1 nx1)
  (hc : CallA C f (frzIfA (C.raw f) args h1).1 (frzIfA (C.raw f) args h1).2 nx1 R)
  (hret : ∀ v h2 nx2, R (.ret v) h2 nx2 → WI C (.ops rest) Q (putTm o.dst v tm1) h2 nx2)
  (hpan : ∀ a h2 nx2, R (.pan a) h2 nx2 → Q (.pan a) tm1 h2 nx2) : WI C (.ops l) Q tm h nx := by
 intro af k cs m1 m2
 have hst : stepA C ⟨{ af with tm := tm, todo := .ops l :: k }, cs, h, nx⟩ = eventA C (.call f args) { af with tm := tm1, todo := .ops (o :: rest) :: k } { af with tm := tm1, todo := [] } cs h1 nx1 := by
  refine step_run m1 ?_
  simp only [stepRun, hr]
 obtain ⟨out, h', nx', hR, g1, g2⟩ := call_goes (fr := { af with tm := tm1, todo := .ops (o :: rest) :: k }) (c := { af with tm := tm1, todo := [] }) (cs := cs) hc
 cases out with
 | ret v =>
  have t := g1 v { af with tm := putTm o.dst v tm1, todo := .ops rest :: k } rfl (by simp only [finishA, putT_eq]) _ hst
  obtain ⟨e2, tm2, hh2, nx2, fr2, q2, a2, t2⟩ := hret v h' nx' hR { af with tm := putTm o.dst v tm1 } k cs m1 m2
  refine ⟨e2, tm2, hh2, nx2, fr2, q2, ?_, t.trans t2⟩
  cases e2 <;> exact a2
 | pan a =>
  exact ⟨.pan a, tm1, h', nx', _, hpan a h' nx' hR, rfl, g2 a rfl m1 _ hst⟩
theorem W.staged {l : List SItem} {d : SD} (hw : WI C (.staged l d []) Q tm h nx) : W C (.staged l d) Q tm h nx :=
 WI.to (y := .staged l d []) (fun _ _ _ _ _ => rfl) hw
theorem WI.st_fin {l : List SItem} {d : SD} {pend : List (Nat × Key × Blk)} {tm' : T AV} {h' : T Blk} {nx' : Key} (hr : runSt C.orc d.ads l pend tm h nx = .fin tm' h' nx') (hq : Q .norm tm' h' nx') : WI C (.staged l d pend) Q tm h nx := by
 intro af k cs h1 h2
 refine ⟨.norm, tm', h', nx', _, hq, rfl, .one (step_run h1 ?_)⟩
 simp only [stepRun, hr]
theorem WI.st_call {l : List SItem} {d : SD} {pend pend1 : List (Nat × Key × Blk)} {f : Nat} {args : List AV} {i : Nat} {o : POper} {ad : List Nat} {rest : List SItem} {tm1 : T AV} {h1 : T Blk} {nx1 : Key} {R : Out → T Blk → Key → Prop}
  (hr : runSt C.orc d.ads l pend tm h nx = .ev (.call f args) (.H i o ad :: rest) pend1 tm1 h1 nx1)
  (hc : CallA C f (frzIfA (C.raw f) args h1).1 (frzIfA (C.raw f) args h1).2 nx1 R)
  (hret : ∀ v h2 nx2, R (.ret v) h2 nx2 → WI C (.staged rest d pend1) Q (putTm o.dst v tm1) h2 nx2)
  (hpan : ∀ a h2 nx2, R (.pan a) h2 nx2 → Q (.pan a) (eraseT d.ds tm1) h2 nx2) : WI C (.staged l d pend) Q tm h nx := by
 intro af k cs m1 m2
 have hst : stepA C ⟨{ af with tm := tm, todo := .staged l d pend :: k }, cs, h, nx⟩ = eventA C (.call f args) { af with tm := tm1, todo := .staged (.H i o ad :: rest) d pend1 :: k } { af with tm := eraseT d.ds tm1, todo := [] } cs h1 nx1 := by
  refine step_run m1 ?_
  simp only [stepRun, hr, eraseC_eq]
 obtain ⟨out, h', nx', hR, g1, g2⟩ := call_goes (fr := { af with tm := tm1, todo := .staged (.H i o ad :: rest) d pend1 :: k }) (c := { af with tm := eraseT d.ds tm1, todo := [] }) (cs := cs) hc
 cases out with
 | ret v =>
  have t := g1 v { af with tm := putTm o.dst v tm1, todo := .staged rest d pend1 :: k } rfl (by simp only [finishA, putT_eq]) _ hst
  obtain ⟨e2, tm2, hh2, nx2, fr2, q2, a2, t2⟩ := hret v h' nx' hR { af with tm := putTm o.dst v tm1 } k cs m1 m2
  refine ⟨e2, tm2, hh2, nx2, fr2, q2, ?_, t.trans t2⟩
  cases e2 <;> exact a2
 | pan a =>
  refine ⟨.pan a, eraseT d.ds tm1, h', nx', _, hpan a h' nx' hR, rfl, ?_⟩
  have := g2 a rfl m1 _ hst
  simpa only [eraseC_eq] using this
theorem WI.ops_pan {l : List POper} {a : AV} {rest : List POper} {tm1 : T AV} {h1 : T Blk} {nx1 : Key} (hr : runOps C.orc l tm h nx = .ev (.pan a) rest tm1 h1 nx1) (hq : Q (.pan a) tm1 h1 nx1) : WI C (.ops l) Q tm h nx := by
 intro af k cs m1 m2
 refine ⟨.pan a, tm1, h1, nx1, _, hq, rfl, .one (step_run m1 ?_)⟩
 simp only [stepRun, hr, eventA]
end
end Go.Sx
/-
 SX: how rows of operations are worked out, for data that are not known. No condition.
-/
namespace Go.Sx
def K (n : Nat) : Key := bif Nat.blt n 4095 then Key.ofNatF 12 n else Key.ofNatF n n
theorem ofNatF_toNat : ∀ (f n : Nat), n + 1 < 2 ^ (f + 1) → (Key.ofNatF f n).toNat = n
 | 0, n, h => by
  have : n = 0 := by omega
  subst this; rfl
 | f + 1, n, h => by
  unfold Key.ofNatF
  have hp : 2 ^ (f + 1 + 1) = 2 * 2 ^ (f + 1) := by rw [Nat.pow_succ, Nat.mul_comm]
  cases h0 : Nat.beq n 0 with
  | true => have := Nat.eq_of_beq_eq_true h0; subst this; rfl
  | false =>
   have hn : n ≠ 0 := by intro e; subst e; cases h0
   simp only [cond_false]
   cases h1 : Nat.beq (n % 2) 1 with
   | true =>
    have h1 := Nat.eq_of_beq_eq_true h1
    simp only [cond_true, Key.toNat, ofNatF_toNat f (n / 2) (by omega)]
    omega
   | false =>
    have h1 : n % 2 ≠ 1 := by intro e; rw [e] at h1; cases h1
    simp only [cond_false, Key.toNat, ofNatF_toNat f (n / 2 - 1) (by omega)]
    omega
theorem K_toNat (n : Nat) : (K n).toNat = n := by
 unfold K
 cases h : Nat.blt n 4095 with
 | true =>
  rw [bltN_eq, decide_eq_true_eq] at h
  exact ofNatF_toNat 12 n (by omega)
 | false =>
  refine ofNatF_toNat n n ?_
  have : n + 1 < 2 ^ (n + 1) := Nat.lt_two_pow_self
  exact this
theorem K_inj {i j : Nat} (h : K i = K j) : i = j := by rw [← K_toNat i, ← K_toNat j, h]
theorem K_succ (n : Nat) : (K n).succ = K (n + 1) := Key.toNat_inj (by rw [Key.toNat_succ, K_toNat, K_toNat])
theorem get_set_K {α : Type} (i j : Nat) (v : Option α) (t : T α) : T.get (K i) (T.set (K j) v t) = if i = j then v else T.get (K i) t := by
 by_cases h : i = j
 ·subst h; rw [if_pos rfl, T.get_set_same]
 ·rw [if_neg h, T.get_set_ne _ _ _ _ (fun e => h (K_inj e))]
section
variable {orc : Orc} {tm : T AV} {h : T Blk} {nx : Key}
theorem at_t (k : Key) : (PX.t k).at tm = T.get k tm := rfl
theorem at_v (a : AV) : (PX.v a).at tm = some a := rfl
theorem runOps_nil : runOps orc [] tm h nx = .fin tm h nx := rfl
theorem putTm_some (k : Key) (v : AV) : putTm (some k) v tm = T.set k (some v) tm := rfl
theorem putTm_none (v : AV) : putTm none v tm = tm := rfl
theorem wants_none : wantsP none tm = some true := rfl
theorem wants_some (k : Key) (b : Bool) : wantsP (some (k, b)) tm = match T.get k tm with
  | some (.bool c) => some (c == b)
  | some (.tuple []) => some false
  | _ => none := rfl
theorem ltI_dec (a b : Int) : ltI a b = decide (a < b) := ltI_eq a b
theorem wrap_id {n : Int} (h1 : -9223372036854775808 ≤ n) (h2 : n < 9223372036854775808) : wrapF .i64 n = n := by
 rw [wrapF_eq]
 have : IntKind.wrap .i64 n = n := by
  rw [← wrapF_eq]
  simp only [wrapF, full, half, ltI_eq]
  have h3 : Int.emod n 18446744073709551616 = n % 18446744073709551616 := rfl
  rw [h3]
  by_cases h0 : 0 ≤ n
  ·rw [show n % 18446744073709551616 = n by omega]
   have : decide (n < 9223372036854775808) = true := by simpa using h2
   rw [this]; rfl
  ·rw [show n % 18446744073709551616 = n + 18446744073709551616 by omega]
   have : decide (n + 18446744073709551616 < 9223372036854775808) = false := by simp; omega
   rw [this]
   show n + 18446744073709551616 - 18446744073709551616 = n
   omega
 exact this
end
end Go.Sx
/-
 SX: what must hold ahead of code, reckoned by program. No condition.
-/
namespace Go.Sx
open Go.RowKit
def wpG (t : Option Bool) (A B : Prop) : Prop := match t with
 | none => False
 | some t => (t = true → A) ∧ (t = false → B)
noncomputable def wpO (C : Cfg) (Q : Post) : List POper → T AV → T Blk → Key → Prop
 | [], tm, h, nx => Q .norm tm h nx
 | o :: l, tm, h, nx => wpG (wantsP o.guard tm)
   (match aOp C.orc o.op tm h nx with
   | .val v h nx => wpO C Q l (putTm o.dst v tm) h nx
   | .call f args => CallA C f (frzIfA (C.raw f) args h).1 (frzIfA (C.raw f) args h).2 nx (fun out h nx => match out with
    | .ret v => wpO C Q l (putTm o.dst v tm) h nx
    | .pan a => Q (.pan a) tm h nx)
   | .pan a => Q (.pan a) tm h nx
   | _ => False)
   (wpO C Q l (putTm o.dst (.tuple []) tm) h nx)
noncomputable def wpS (C : Cfg) (Q : Post) (d : SD) : List SItem → List (Nat × Key × Blk) → T AV → T Blk → Key → Prop
 | [], pend, tm, h, nx => Q .norm tm (adoptH pend h) nx
 | .L i o :: l, pend, tm, h, nx => wpG (wantsP o.guard tm)
   (match lightOp C.orc o.op tm (viewH (adAt i d.ads) pend h) with
   | some v => wpS C Q d l pend (putTm o.dst v tm) h nx
   | none => False)
   (wpS C Q d l pend (putTm o.dst (.tuple []) tm) h nx)
 | .A i o :: l, pend, tm, h, nx => wpG (wantsP o.guard tm)
   (match allocOp o.op tm with
   | some (v, b) => wpS C Q d l ((i, nx, b) :: pend) (putTm o.dst (v nx) tm) h nx.succ
   | none => False)
   (wpS C Q d l pend (putTm o.dst (.tuple []) tm) h nx)
 | .H i o ad :: l, pend, tm, h, nx => wpG (wantsP o.guard tm)
   (match aOp C.orc o.op tm (adoptH (pend.filter fun x => memN x.1 ad) h) nx with
   | .val v h nx => wpS C Q d l (pend.filter fun x => !(memN x.1 ad)) (putTm o.dst v tm) h nx
   | .call f args => CallA C f (frzIfA (C.raw f) args (adoptH (pend.filter fun x => memN x.1 ad) h)).1 (frzIfA (C.raw f) args (adoptH (pend.filter fun x => memN x.1 ad) h)).2 nx (fun out h nx => match out with
    | .ret v => wpS C Q d l (pend.filter fun x => !(memN x.1 ad)) (putTm o.dst v tm) h nx
    | .pan a => Q (.pan a) (eraseT d.ds tm) h nx)
   | .pan a => Q (.pan a) (eraseT d.ds tm) (adoptH (pend.filter fun x => memN x.1 ad) h) nx
   | _ => False)
   (wpS C Q d l (pend.filter fun x => !(memN x.1 ad)) (putTm o.dst (.tuple []) tm) (adoptH (pend.filter fun x => memN x.1 ad) h) nx)
 | .R os :: l, pend, tm, h, nx => recheck C.orc d.ads pend tm h os = true ∧ wpS C Q d l pend tm h nx
def seqPost (W : T AV → T Blk → Key → Prop) (Q : Post) : Post := fun e tm h nx => match e with
 | .norm => W tm h nx
 | e => Q e tm h nx
def blockPost (id : Nat) (Q : Post) : Post := fun e tm h nx => match e with
 | .exit j => if j = id then Q .norm tm h nx else Q (.exit j) tm h nx
 | e => Q e tm h nx
noncomputable def wpC (C : Cfg) : PCode → Post → T AV → T Blk → Key → Prop
 | .skip, Q, tm, h, nx => Q .norm tm h nx
 | .ops l, Q, tm, h, nx => wpO C Q l tm h nx
 | .staged l d, Q, tm, h, nx => wpS C Q d l [] tm h nx
 | .seq a b, Q, tm, h, nx => wpC C a (seqPost (wpC C b Q) Q) tm h nx
 | .cond x a b, Q, tm, h, nx => match x.at tm with
  | some (.bool t) => (t = true → wpC C a Q tm h nx) ∧ (t = false → wpC C b Q tm h nx)
  | _ => False
 | .block id c, Q, tm, h, nx => wpC C c (blockPost id Q) tm h nx
 | .loop c, Q, tm, h, nx => W C (.loop c) Q tm h nx
 | .rangeF f ps a b, Q, tm, h, nx => W C (.rangeF f ps a b) Q tm h nx
 | .exit id, Q, tm, h, nx => Q (.exit id) tm h nx
 | .ret, Q, tm, h, nx => Q .ret tm h nx
section
variable {C : Cfg} {Q : Post}
theorem WI.same {x y : AItem} {tm tm2 : T AV} {h h2 : T Blk} {nx nx2 : Key} (hy : ∀ id, y ≠ .code (.exit id)) (hs : ∀ (af : AFr) (k : List AItem) (cs : List AFr), af.mode = .run → stepRun C { af with tm := tm, todo := x :: k } cs h nx = stepRun C { af with tm := tm2, todo := y :: k } cs h2 nx2)
  (hw : WI C y Q tm2 h2 nx2) : WI C x Q tm h nx := by
 intro af k cs h1 h2'
 obtain ⟨e, tm', h', nx', fr, q, a, t⟩ := hw af k cs h1 h2'
 refine ⟨e, tm', h', nx', fr, q, a, ?_⟩
 obtain ⟨m, hm⟩ := t
 cases m with
 | zero =>
  exfalso
  have e0 : SR.next ⟨{ af with tm := tm2, todo := y :: k }, cs, h2, nx2⟩ = SR.next ⟨fr, cs, h', nx'⟩ := hm
  simp only [SR.next.injEq, AM.mk.injEq, true_and] at e0
  obtain ⟨e0, _⟩ := e0
  cases e with
  | norm => cases a; simp at e0
  | ret => obtain ⟨_, rfl⟩ := a; simp [h1] at e0
  | exit id => obtain ⟨_, _, rfl⟩ := a; simp at e0; exact hy id e0.2.1
  | pan a' => cases a; simp at e0
 | succ m =>
  refine ⟨m + 1, ?_⟩
  rw [runA_succ] at hm ⊢
  rw [step_run (m := ⟨{ af with tm := tm2, todo := y :: k }, cs, h2, nx2⟩) h1 rfl] at hm
  rw [step_run (m := ⟨{ af with tm := tm, todo := x :: k }, cs, h, nx⟩) h1 rfl]
  rw [hs af k cs h1]
  exact hm
theorem wpO_sound : ∀ {l : List POper} {tm : T AV} {h : T Blk} {nx : Key}, wpO C Q l tm h nx → WI C (.ops l) Q tm h nx
 | [], tm, h, nx, hw => WI.ops_fin runOps_nil hw
 | o :: l, tm, h, nx, hw => by
  unfold wpO at hw
  cases hg : wantsP o.guard tm with
  | none => rw [hg] at hw; exact hw.elim
  | some t =>
   rw [hg] at hw
   have hcong : ∀ {tm2 : T AV} {h2 : T Blk} {nx2 : Key}, runOps C.orc (o :: l) tm h nx = runOps C.orc l tm2 h2 nx2 → wpO C Q l tm2 h2 nx2 → WI C (.ops (o :: l)) Q tm h nx := by
    intro tm2 h2 nx2 he hw2
    refine WI.same (y := .ops l) (fun id e => by cases e) ?_ (wpO_sound hw2)
    intro af k cs _
    show (match runOps C.orc (o :: l) tm h nx with | .fin tm h nx => _ | .ev r rest tm h nx => _) = (match runOps C.orc l tm2 h2 nx2 with | .fin tm h nx => _ | .ev r rest tm h nx => _)
    rw [he]
   cases t with
   | false =>
    refine hcong ?_ (hw.2 rfl)
    rw [runOps_cons, hg]
    simp only [putT_eq]
   | true =>
    have hw := hw.1 rfl
    cases ha : aOp C.orc o.op tm h nx with
    | val v h' nx' =>
     rw [ha] at hw
     refine hcong ?_ hw
     rw [runOps_cons, hg, ha]
     simp only [putT_eq]
    | call f args =>
     rw [ha] at hw
     refine WI.ops_call (by rw [runOps_cons, hg, ha]) hw (fun v h2 nx2 hr => wpO_sound hr) (fun a h2 nx2 hr => hr)
    | pan a =>
     rw [ha] at hw
     exact WI.ops_pan (by rw [runOps_cons, hg, ha]) hw
    | yld k args => rw [ha] at hw; exact hw.elim
    | dfr f args => rw [ha] at hw; exact hw.elim
    | recover => rw [ha] at hw; exact hw.elim
    | bad n => rw [ha] at hw; exact hw.elim
theorem wpS_sound {d : SD} : ∀ {l : List SItem} {pend : List (Nat × Key × Blk)} {tm : T AV} {h : T Blk} {nx : Key}, wpS C Q d l pend tm h nx → WI C (.staged l d pend) Q tm h nx
 | [], pend, tm, h, nx, hw => WI.st_fin (by show adoptAll pend h (fun h => RS.fin tm h nx) = _; rw [adoptAll_eq]) hw
 | x :: l, pend, tm, h, nx, hw => by
  have hcong : ∀ {pend2 : List (Nat × Key × Blk)} {tm2 : T AV} {h2 : T Blk} {nx2 : Key}, runSt C.orc d.ads (x :: l) pend tm h nx = runSt C.orc d.ads l pend2 tm2 h2 nx2 → wpS C Q d l pend2 tm2 h2 nx2 → WI C (.staged (x :: l) d pend) Q tm h nx := by
   intro pend2 tm2 h2 nx2 he hw2
   refine WI.same (y := .staged l d pend2) (fun id e => by cases e) ?_ (wpS_sound hw2)
   intro af k cs _
   show (match runSt C.orc d.ads (x :: l) pend tm h nx with | .fin tm h nx => _ | .ev r rest pend tm h nx => _) = (match runSt C.orc d.ads l pend2 tm2 h2 nx2 with | .fin tm h nx => _ | .ev r rest pend tm h nx => _)
   rw [he]
  cases x with
  | L i o =>
   unfold wpS at hw
   cases hg : wantsP o.guard tm with
   | none => rw [hg] at hw; exact hw.elim
   | some t =>
    rw [hg] at hw
    cases t with
    | false =>
     refine hcong ?_ (hw.2 rfl)
     rw [runSt_L, hg]
     simp only [putT_eq]
    | true =>
     have hw := hw.1 rfl
     cases hl : lightOp C.orc o.op tm (viewH (adAt i d.ads) pend h) with
     | none => rw [hl] at hw; exact hw.elim
     | some v =>
      rw [hl] at hw
      refine hcong ?_ hw
      rw [runSt_L, hg, hl]
      simp only [putT_eq]
  | A i o =>
   unfold wpS at hw
   cases hg : wantsP o.guard tm with
   | none => rw [hg] at hw; exact hw.elim
   | some t =>
    rw [hg] at hw
    cases t with
    | false =>
     refine hcong ?_ (hw.2 rfl)
     rw [runSt_A, hg]
     simp only [putT_eq]
    | true =>
     have hw := hw.1 rfl
     cases hl : allocOp o.op tm with
     | none => rw [hl] at hw; exact hw.elim
     | some vb =>
      obtain ⟨v, b⟩ := vb
      rw [hl] at hw
      refine hcong ?_ hw
      rw [runSt_A, hg, hl]
      simp only [putT_eq]
  | H i o ad =>
   unfold wpS at hw
   cases hg : wantsP o.guard tm with
   | none => rw [hg] at hw; exact hw.elim
   | some t =>
    rw [hg] at hw
    cases t with
    | false =>
     refine hcong ?_ (hw.2 rfl)
     rw [runSt_H, adopt_eq, hg]
     simp only [putT_eq]
    | true =>
     have hw := hw.1 rfl
     have hrun : runSt C.orc d.ads (.H i o ad :: l) pend tm h nx = (match aOp C.orc o.op tm (adoptH (pend.filter fun x => memN x.1 ad) h) nx with
       | .val v h nx => putT o.dst (some v) tm fun tm => runSt C.orc d.ads l (pend.filter fun x => !(memN x.1 ad)) tm h nx
       | r => .ev r (.H i o ad :: l) (pend.filter fun x => !(memN x.1 ad)) tm (adoptH (pend.filter fun x => memN x.1 ad) h) nx) := by
      rw [runSt_H, adopt_eq, hg]
      rfl
     cases ha : aOp C.orc o.op tm (adoptH (pend.filter fun x => memN x.1 ad) h) nx with
     | val v h' nx' =>
      rw [ha] at hw hrun
      refine hcong ?_ hw
      rw [hrun]
      simp only [putT_eq]
     | call f args =>
      rw [ha] at hw hrun
      exact WI.st_call hrun hw (fun v h2 nx2 hr => wpS_sound hr) (fun a h2 nx2 hr => hr)
     | pan a =>
      rw [ha] at hw hrun
      intro af k cs m1 m2
      refine ⟨.pan a, eraseT d.ds tm, _, nx, _, hw, rfl, .one (step_run m1 ?_)⟩
      simp only [stepRun, hrun, eraseC_eq, eventA]
     | yld k args => rw [ha] at hw; exact hw.elim
     | dfr f args => rw [ha] at hw; exact hw.elim
     | recover => rw [ha] at hw; exact hw.elim
     | bad n => rw [ha] at hw; exact hw.elim
  | R os =>
   unfold wpS at hw
   refine hcong ?_ hw.2
   rw [runSt_R, hw.1]
   rfl
theorem wpC_sound : ∀ {c : PCode} {Q : Post} {tm : T AV} {h : T Blk} {nx : Key}, wpC C c Q tm h nx → W C c Q tm h nx
 | .skip, Q, tm, h, nx, hw => W.skip hw
 | .ops l, Q, tm, h, nx, hw => W.ops (wpO_sound hw)
 | .staged l d, Q, tm, h, nx, hw => W.staged (wpS_sound hw)
 | .seq a b, Q, tm, h, nx, hw => by
  have hw : wpC C a (seqPost (wpC C b Q) Q) tm h nx := hw
  refine W.seq ((wpC_sound hw).mono fun e tm h nx hq => ?_)
  cases e with
  | norm => exact wpC_sound hq
  | _ => exact hq
 | .cond x a b, Q, tm, h, nx, hw => by
  unfold wpC at hw
  split at hw
  ·rename_i t hx
   refine W.cond hx ?_
   cases t with
   | true => exact wpC_sound (hw.1 rfl)
   | false => exact wpC_sound (hw.2 rfl)
  ·exact hw.elim
 | .block id c, Q, tm, h, nx, hw => by
  have hw : wpC C c (blockPost id Q) tm h nx := hw
  refine W.block ((wpC_sound hw).mono fun e tm h nx hq => ?_)
  cases e with
  | exit j => exact hq
  | _ => exact hq
 | .loop c, Q, tm, h, nx, hw => hw
 | .rangeF f ps a b, Q, tm, h, nx, hw => hw
 | .exit id, Q, tm, h, nx, hw => W.exit hw
 | .ret, Q, tm, h, nx, hw => W.ret hw
theorem CallA.of_wp {f : Nat} {p : PFn} {l : List AV} {h : T Blk} {nx : Key} {R : Out → T Blk → Key → Prop} (hs : C.sum f l h nx = none) (hp : getFn C f = some p) (hw : wpC C p.body (BodyPost C f p.res R) (paramsT l .z .nil) h nx) : CallA C f l h nx R :=
 CallA.of_W hs hp (wpC_sound hw)
end
end Go.Sx
/-
 SX: rules by which 'simp' works code out. No condition.
-/
namespace Go.Sx
noncomputable def A (b : Key) : Nat → Key
 | 0 => b
 | i + 1 => (A b i).succ
theorem A_toNat (b : Key) : ∀ i, (A b i).toNat = b.toNat + i
 | 0 => rfl
 | i + 1 => by simp only [A, Key.toNat_succ, A_toNat b i]; omega
@[simp] theorem A_succ (b : Key) (i : Nat) : (A b i).succ = A b (i + 1) := rfl
@[simp] theorem get_set_A {α : Type} (b : Key) (i j : Nat) (v : Option α) (t : T α) : T.get (A b i) (T.set (A b j) v t) = if i = j then v else T.get (A b i) t := by
 by_cases h : i = j
 ·subst h; rw [if_pos rfl, T.get_set_same]
 ·rw [if_neg h, T.get_set_ne]
  intro e
  have := congrArg Key.toNat e
  simp only [A_toNat] at this
  omega
theorem get_set_old {α : Type} {b : Key} {c : Key} (v : Option α) (t : T α) (h : b.toNat < c.toNat) : T.get b (T.set c v t) = T.get b t :=
 T.get_set_ne _ _ _ _ (fun e => by rw [e] at h; exact absurd h (Nat.lt_irrefl _))
attribute [simp] get_set_K at_t at_v putTm_some putTm_none wants_none wants_some okV T.setC_eq
@[simp] theorem seqPost_norm (W : T AV → T Blk → Key → Prop) (Q : Post) (tm : T AV) (h : T Blk) (nx : Key) : seqPost W Q .norm tm h nx = W tm h nx := propext Iff.rfl
@[simp] theorem seqPost_ret (W : T AV → T Blk → Key → Prop) (Q : Post) (tm : T AV) (h : T Blk) (nx : Key) : seqPost W Q .ret tm h nx = Q .ret tm h nx := propext Iff.rfl
@[simp] theorem seqPost_exit (W : T AV → T Blk → Key → Prop) (Q : Post) (i : Nat) (tm : T AV) (h : T Blk) (nx : Key) : seqPost W Q (.exit i) tm h nx = Q (.exit i) tm h nx := propext Iff.rfl
@[simp] theorem seqPost_pan (W : T AV → T Blk → Key → Prop) (Q : Post) (a : AV) (tm : T AV) (h : T Blk) (nx : Key) : seqPost W Q (.pan a) tm h nx = Q (.pan a) tm h nx := propext Iff.rfl
@[simp] theorem blockPost_norm (j : Nat) (Q : Post) (tm : T AV) (h : T Blk) (nx : Key) : blockPost j Q .norm tm h nx = Q .norm tm h nx := propext Iff.rfl
@[simp] theorem blockPost_ret (j : Nat) (Q : Post) (tm : T AV) (h : T Blk) (nx : Key) : blockPost j Q .ret tm h nx = Q .ret tm h nx := propext Iff.rfl
@[simp] theorem blockPost_exit (j : Nat) (Q : Post) (i : Nat) (tm : T AV) (h : T Blk) (nx : Key) : blockPost j Q (.exit i) tm h nx = if i = j then Q .norm tm h nx else Q (.exit i) tm h nx := propext Iff.rfl
@[simp] theorem blockPost_pan (j : Nat) (Q : Post) (a : AV) (tm : T AV) (h : T Blk) (nx : Key) : blockPost j Q (.pan a) tm h nx = Q (.pan a) tm h nx := propext Iff.rfl
theorem hid {p q : Prop} (h : p ↔ q) : p = q := propext h
section
variable (C : Cfg) (Q : Post) (tm : T AV) (h : T Blk) (nx : Key) (d : SD) (pend : List (Nat × Key × Blk))
@[simp] theorem wpG_some (t : Bool) (A B : Prop) : wpG (some t) A B = ((t = true → A) ∧ (t = false → B)) := hid Iff.rfl
@[simp] theorem wpG_none (A B : Prop) : wpG none A B = False := hid Iff.rfl
@[simp] theorem wpC_skip : wpC C .skip Q tm h nx = Q .norm tm h nx := hid Iff.rfl
@[simp] theorem wpC_ops (l : List POper) : wpC C (.ops l) Q tm h nx = wpO C Q l tm h nx := hid Iff.rfl
@[simp] theorem wpC_staged (l : List SItem) (d : SD) : wpC C (.staged l d) Q tm h nx = wpS C Q d l [] tm h nx := hid Iff.rfl
@[simp] theorem wpC_seq (a b : PCode) : wpC C (.seq a b) Q tm h nx = wpC C a (seqPost (wpC C b Q) Q) tm h nx := hid Iff.rfl
@[simp] theorem wpC_cond (x : PX) (a b : PCode) : wpC C (.cond x a b) Q tm h nx = (match x.at tm with
  | some (.bool t) => (t = true → wpC C a Q tm h nx) ∧ (t = false → wpC C b Q tm h nx)
  | _ => False) := hid Iff.rfl
@[simp] theorem wpC_block (id : Nat) (c : PCode) : wpC C (.block id c) Q tm h nx = wpC C c (blockPost id Q) tm h nx := hid Iff.rfl
@[simp] theorem wpC_loop (c : PCode) : wpC C (.loop c) Q tm h nx = W C (.loop c) Q tm h nx := hid Iff.rfl
@[simp] theorem wpC_exit (id : Nat) : wpC C (.exit id) Q tm h nx = Q (.exit id) tm h nx := hid Iff.rfl
@[simp] theorem wpC_ret : wpC C .ret Q tm h nx = Q .ret tm h nx := hid Iff.rfl
@[simp] theorem wpO_nil : wpO C Q [] tm h nx = Q .norm tm h nx := hid Iff.rfl
def KO (o : POper) (l : List POper) : Out → T Blk → Key → Prop := fun out h nx => match out with
 | .ret v => wpO C Q l (putTm o.dst v tm) h nx
 | .pan a => Q (.pan a) tm h nx
def KS (o : POper) (l : List SItem) : Out → T Blk → Key → Prop := fun out h nx => match out with
 | .ret v => wpS C Q d l pend (putTm o.dst v tm) h nx
 | .pan a => Q (.pan a) (eraseT d.ds tm) h nx
@[simp] theorem KO_ret (o : POper) (l : List POper) (v : AV) : KO C Q tm o l (.ret v) h nx = wpO C Q l (putTm o.dst v tm) h nx := hid Iff.rfl
@[simp] theorem KO_pan (o : POper) (l : List POper) (a : AV) : KO C Q tm o l (.pan a) h nx = Q (.pan a) tm h nx := hid Iff.rfl
@[simp] theorem KS_ret (o : POper) (l : List SItem) (v : AV) : KS C Q tm d pend o l (.ret v) h nx = wpS C Q d l pend (putTm o.dst v tm) h nx := hid Iff.rfl
@[simp] theorem KS_pan (o : POper) (l : List SItem) (a : AV) : KS C Q tm d pend o l (.pan a) h nx = Q (.pan a) (eraseT d.ds tm) h nx := hid Iff.rfl
def wpGo (o : POper) (l : List POper) (t : Option Bool) : Prop := wpG t
   (match aOp C.orc o.op tm h nx with
   | .val v h nx => wpO C Q l (putTm o.dst v tm) h nx
   | .call f args => CallA C f (frzIfA (C.raw f) args h).1 (frzIfA (C.raw f) args h).2 nx (KO C Q tm o l)
   | .pan a => Q (.pan a) tm h nx
   | _ => False)
   (wpO C Q l (putTm o.dst (.tuple []) tm) h nx)
@[simp] theorem wpO_cons (o : POper) (l : List POper) : wpO C Q (o :: l) tm h nx = wpGo C Q tm h nx o l (wantsP o.guard tm) := hid (by rw [wpO]; exact Iff.rfl)
@[simp] theorem wpGo_true (o : POper) (l : List POper) : wpGo C Q tm h nx o l (some true) = (match aOp C.orc o.op tm h nx with
   | .val v h nx => wpO C Q l (putTm o.dst v tm) h nx
   | .call f args => CallA C f (frzIfA (C.raw f) args h).1 (frzIfA (C.raw f) args h).2 nx (KO C Q tm o l)
   | .pan a => Q (.pan a) tm h nx
   | _ => False) := by simp [wpGo]
@[simp] theorem wpGo_false (o : POper) (l : List POper) : wpGo C Q tm h nx o l (some false) = wpO C Q l (putTm o.dst (.tuple []) tm) h nx := by simp [wpGo]
@[simp] theorem wpGo_none (o : POper) (l : List POper) : wpGo C Q tm h nx o l none = False := by simp [wpGo]
@[simp low] theorem wpGo_sym (o : POper) (l : List POper) (t : Bool) : wpGo C Q tm h nx o l (some t) = ((t = true → wpGo C Q tm h nx o l (some true)) ∧ (t = false → wpGo C Q tm h nx o l (some false))) := by
 cases t <;> simp
@[simp] theorem wpS_nil : wpS C Q d [] pend tm h nx = Q .norm tm (adoptH pend h) nx := hid Iff.rfl
def wpGl (i : Nat) (o : POper) (l : List SItem) (t : Option Bool) : Prop := wpG t
   (match lightOp C.orc o.op tm (viewH (adAt i d.ads) pend h) with
   | some v => wpS C Q d l pend (putTm o.dst v tm) h nx
   | none => False)
   (wpS C Q d l pend (putTm o.dst (.tuple []) tm) h nx)
@[simp] theorem wpS_L (i : Nat) (o : POper) (l : List SItem) : wpS C Q d (.L i o :: l) pend tm h nx = wpGl C Q tm h nx d pend i o l (wantsP o.guard tm) := hid (by rw [wpS]; exact Iff.rfl)
@[simp] theorem wpGl_true (i : Nat) (o : POper) (l : List SItem) : wpGl C Q tm h nx d pend i o l (some true) = (match lightOp C.orc o.op tm (viewH (adAt i d.ads) pend h) with
   | some v => wpS C Q d l pend (putTm o.dst v tm) h nx
   | none => False) := by simp [wpGl]
@[simp] theorem wpGl_false (i : Nat) (o : POper) (l : List SItem) : wpGl C Q tm h nx d pend i o l (some false) = wpS C Q d l pend (putTm o.dst (.tuple []) tm) h nx := by simp [wpGl]
@[simp] theorem wpGl_none (i : Nat) (o : POper) (l : List SItem) : wpGl C Q tm h nx d pend i o l none = False := by simp [wpGl]
@[simp low] theorem wpGl_sym (i : Nat) (o : POper) (l : List SItem) (t : Bool) : wpGl C Q tm h nx d pend i o l (some t) = ((t = true → wpGl C Q tm h nx d pend i o l (some true)) ∧ (t = false → wpGl C Q tm h nx d pend i o l (some false))) := by
 cases t <;> simp
def wpGa (i : Nat) (o : POper) (l : List SItem) (t : Option Bool) : Prop := wpG t
   (match allocOp o.op tm with
   | some (v, b) => wpS C Q d l ((i, nx, b) :: pend) (putTm o.dst (v nx) tm) h nx.succ
   | none => False)
   (wpS C Q d l pend (putTm o.dst (.tuple []) tm) h nx)
@[simp] theorem wpS_A (i : Nat) (o : POper) (l : List SItem) : wpS C Q d (.A i o :: l) pend tm h nx = wpGa C Q tm h nx d pend i o l (wantsP o.guard tm) := hid (by rw [wpS]; exact Iff.rfl)
@[simp] theorem wpGa_true (i : Nat) (o : POper) (l : List SItem) : wpGa C Q tm h nx d pend i o l (some true) = (match allocOp o.op tm with
   | some (v, b) => wpS C Q d l ((i, nx, b) :: pend) (putTm o.dst (v nx) tm) h nx.succ
   | none => False) := by simp [wpGa]
@[simp] theorem wpGa_false (i : Nat) (o : POper) (l : List SItem) : wpGa C Q tm h nx d pend i o l (some false) = wpS C Q d l pend (putTm o.dst (.tuple []) tm) h nx := by simp [wpGa]
@[simp] theorem wpGa_none (i : Nat) (o : POper) (l : List SItem) : wpGa C Q tm h nx d pend i o l none = False := by simp [wpGa]
@[simp low] theorem wpGa_sym (i : Nat) (o : POper) (l : List SItem) (t : Bool) : wpGa C Q tm h nx d pend i o l (some t) = ((t = true → wpGa C Q tm h nx d pend i o l (some true)) ∧ (t = false → wpGa C Q tm h nx d pend i o l (some false))) := by
 cases t <;> simp
def wpGh (o : POper) (ad : List Nat) (l : List SItem) (t : Option Bool) : Prop := wpG t
   (match aOp C.orc o.op tm (adoptH (pend.filter fun x => memN x.1 ad) h) nx with
   | .val v h nx => wpS C Q d l (pend.filter fun x => !(memN x.1 ad)) (putTm o.dst v tm) h nx
   | .call f args => CallA C f (frzIfA (C.raw f) args (adoptH (pend.filter fun x => memN x.1 ad) h)).1 (frzIfA (C.raw f) args (adoptH (pend.filter fun x => memN x.1 ad) h)).2 nx (KS C Q tm d (pend.filter fun x => !(memN x.1 ad)) o l)
   | .pan a => Q (.pan a) (eraseT d.ds tm) (adoptH (pend.filter fun x => memN x.1 ad) h) nx
   | _ => False)
   (wpS C Q d l (pend.filter fun x => !(memN x.1 ad)) (putTm o.dst (.tuple []) tm) (adoptH (pend.filter fun x => memN x.1 ad) h) nx)
@[simp] theorem wpS_H (i : Nat) (o : POper) (ad : List Nat) (l : List SItem) : wpS C Q d (.H i o ad :: l) pend tm h nx = wpGh C Q tm h nx d pend o ad l (wantsP o.guard tm) := hid (by rw [wpS]; exact Iff.rfl)
@[simp] theorem wpGh_true (o : POper) (ad : List Nat) (l : List SItem) : wpGh C Q tm h nx d pend o ad l (some true) = (match aOp C.orc o.op tm (adoptH (pend.filter fun x => memN x.1 ad) h) nx with
   | .val v h nx => wpS C Q d l (pend.filter fun x => !(memN x.1 ad)) (putTm o.dst v tm) h nx
   | .call f args => CallA C f (frzIfA (C.raw f) args (adoptH (pend.filter fun x => memN x.1 ad) h)).1 (frzIfA (C.raw f) args (adoptH (pend.filter fun x => memN x.1 ad) h)).2 nx (KS C Q tm d (pend.filter fun x => !(memN x.1 ad)) o l)
   | .pan a => Q (.pan a) (eraseT d.ds tm) (adoptH (pend.filter fun x => memN x.1 ad) h) nx
   | _ => False) := by unfold wpGh; simp only [wpG_some, true_implies, Bool.true_eq_false, false_implies, and_true]
@[simp] theorem wpGh_false (o : POper) (ad : List Nat) (l : List SItem) : wpGh C Q tm h nx d pend o ad l (some false) = wpS C Q d l (pend.filter fun x => !(memN x.1 ad)) (putTm o.dst (.tuple []) tm) (adoptH (pend.filter fun x => memN x.1 ad) h) nx := by unfold wpGh; simp only [wpG_some, true_implies, Bool.false_eq_true, false_implies, true_and]
@[simp] theorem wpGh_none (o : POper) (ad : List Nat) (l : List SItem) : wpGh C Q tm h nx d pend o ad l none = False := by simp [wpGh]
@[simp low] theorem wpGh_sym (o : POper) (ad : List Nat) (l : List SItem) (t : Bool) : wpGh C Q tm h nx d pend o ad l (some t) = ((t = true → wpGh C Q tm h nx d pend o ad l (some true)) ∧ (t = false → wpGh C Q tm h nx d pend o ad l (some false))) := by
 cases t <;> simp only [true_implies, Bool.true_eq_false, Bool.false_eq_true, false_implies, and_true, true_and]
@[simp] theorem wpS_R (os : List (Nat × POper)) (l : List SItem) : wpS C Q d (.R os :: l) pend tm h nx = (recheck C.orc d.ads pend tm h os = true ∧ wpS C Q d l pend tm h nx) := hid (by rw [wpS])
@[simp] theorem adoptH_nil : adoptH [] h = h := rfl
@[simp] theorem adoptH_cons (x : Nat × Key × Blk) (p : List (Nat × Key × Blk)) : adoptH (x :: p) h = adoptH p (T.set x.2.1 (some x.2.2) h) := rfl
@[simp] theorem recheck_nil (orc : Orc) (ads : List (Nat × List Nat)) : recheck orc ads pend tm h [] = true := rfl
@[simp] theorem recheck_cons (orc : Orc) (ads : List (Nat × List Nat)) (i : Nat) (o : POper) (l : List (Nat × POper)) : recheck orc ads pend tm h ((i, o) :: l) = (match wantsP o.guard tm with
  | some false => match o.dst with
   | none => false
   | some d => match T.get d tm with
    | some (.tuple []) => recheck orc ads pend tm h l
    | _ => false
  | some true => match o.dst with
   | none => false
   | some d => match T.get d tm, lightOp orc o.op tm (viewH (adAt i ads) pend h) with
    | some v, some u => bif AV.beq v u then recheck orc ads pend tm h l else false
    | _, _ => false
  | none => false) := rfl
end
attribute [simp] memN
def BodyP (res : List RV) (R : Out → T Blk → Key → Prop) : Post := fun e tm h nx => match e with
 | .norm | .ret => ∃ l, resultsA h tm res = some l ∧ R (.ret (tupled (frzLA (frzA 8) l h).1)) (frzLA (frzA 8) l h).2 nx
 | .pan a => R (.pan a) h nx
 | .exit _ => False
theorem CallA.of {C : Cfg} {f : Nat} {p : PFn} {l : List AV} {h : T Blk} {nx : Key} {R : Out → T Blk → Key → Prop} (hs : C.sum f l h nx = none) (hp : getFn C f = some p) (hr : C.rawR f = false) (hw : wpC C p.body (BodyP p.res R) (paramsT l (K 0) .nil) h nx) : CallA C f l h nx R := by
 refine CallA.of_wp hs hp ?_
 have e : BodyPost C f p.res R = BodyP p.res R := by
  funext e tm h nx
  cases e <;> simp only [BodyPost, BodyP, hr] <;> rfl
 rw [e]
 exact hw
section
variable (res : List RV) (R : Out → T Blk → Key → Prop) (tm : T AV) (h : T Blk) (nx : Key)
@[simp] theorem bodyP_ret : BodyP res R .ret tm h nx = ∃ l, resultsA h tm res = some l ∧ R (.ret (tupled (frzLA (frzA 8) l h).1)) (frzLA (frzA 8) l h).2 nx := hid Iff.rfl
@[simp] theorem bodyP_norm : BodyP res R .norm tm h nx = ∃ l, resultsA h tm res = some l ∧ R (.ret (tupled (frzLA (frzA 8) l h).1)) (frzLA (frzA 8) l h).2 nx := hid Iff.rfl
@[simp] theorem bodyP_pan (a : AV) : BodyP res R (.pan a) tm h nx = R (.pan a) h nx := hid Iff.rfl
end
attribute [simp] aOp lightOp allocOp newB atAll loadB isCmp beqKind arith
attribute [simp] nth_eq dropL_eq takeC_eq putC_eq appC_eq lenL_eq beqN_eq bltN_eq ltI_dec eqI_eq
@[simp] theorem bleN_eq (a b : Nat) : Nat.ble a b = decide (a ≤ b) := by rw [Bool.eq_iff_iff]; simp
@[simp] theorem int_add (a b : Int) : Int.add a b = a + b := rfl
@[simp] theorem int_sub (a b : Int) : Int.sub a b = a - b := rfl
@[simp] theorem int_mul (a b : Int) : Int.mul a b = a * b := rfl
@[simp] theorem natOf_coe (k : IntKind) (m : Nat) : natOf (.int k (.lit (m : Int))) = some m := rfl
@[simp] theorem natOf_zero (k : IntKind) : natOf (.int k (.lit 0)) = some 0 := rfl
@[simp] theorem natOf_one (k : IntKind) : natOf (.int k (.lit 1)) = some 1 := rfl
@[simp] theorem natOf_lit (k : IntKind) (n : Nat) : natOf (.int k (.lit (OfNat.ofNat (n + 2) : Int))) = some (n + 2) := rfl
@[simp] theorem bound_none (tm : T AV) (d : Nat) : boundOf tm d none = some d := rfl
@[simp] theorem bound_some (tm : T AV) (d : Nat) (x : PX) : boundOf tm d (some x) = match x.at tm with | none => none | some v => natOf v := rfl
@[simp] theorem cmp_lit (orc : Orc) (op : BinOp) (x y : Int) : cmpI orc op (.lit x) (.lit y) = (match op with
  | .eql => some (x == y)
  | .neq => some (!(x == y))
  | .lss => some (decide (x < y))
  | .leq => some (!(decide (y < x)))
  | .gtr => some (decide (y < x))
  | .geq => some (!(decide (x < y)))
  | _ => none) := by
 cases op <;> simp [cmpI]
@[simp] theorem fill_nil (tm : T AV) (cs : List AV) : fillP tm [] cs = some cs := rfl
@[simp] theorem fill_cons (tm : T AV) (off size : Nat) (x : PX) (r : List (Nat × Nat × PX)) (cs : List AV) : fillP tm ((off, size, x) :: r) cs =
  (match x.at tm with
  | none => none
  | some v => bif Nat.beq (lenL v.cells) size then putC v.cells off cs none (fun cs => fillP tm r cs) else none) := rfl
@[simp] theorem part_true (off n : Nat) (l : List AV) : partV true off n l = if n ≤ (l.drop off).length then some (.agg ((l.drop off).take n)) else none := by
 simp [partV]
@[simp] theorem part_false (off n : Nat) (l : List AV) : partV false off n l = l[off]? := by
 simp [partV]
@[simp] theorem isCell_bool (b : Bool) : AV.isCell (.bool b) = true := rfl
@[simp] theorem cells_bool (b : Bool) : AV.cells (.bool b) = [.bool b] := rfl
@[simp] theorem isCell_int (k : IntKind) (n : SI) : AV.isCell (.int k n) = true := rfl
@[simp] theorem cells_int (k : IntKind) (n : SI) : AV.cells (.int k n) = [.int k n] := rfl
@[simp] theorem isCell_str (n c : Nat) : AV.isCell (.str n c) = true := rfl
@[simp] theorem cells_str (n c : Nat) : AV.cells (.str n c) = [.str n c] := rfl
@[simp] theorem isCell_ptr (b : Key) (off : Nat) : AV.isCell (.ptr b off) = true := rfl
@[simp] theorem cells_ptr (b : Key) (off : Nat) : AV.cells (.ptr b off) = [.ptr b off] := rfl
@[simp] theorem isCell_nilp  : AV.isCell (.nilp) = true := rfl
@[simp] theorem cells_nilp  : AV.cells (.nilp) = [.nilp] := rfl
@[simp] theorem isCell_slice (b : Key) (off len sz : Nat) : AV.isCell (.slice b off len sz) = true := rfl
@[simp] theorem cells_slice (b : Key) (off len sz : Nat) : AV.cells (.slice b off len sz) = [.slice b off len sz] := rfl
@[simp] theorem isCell_nils  : AV.isCell (.nils) = true := rfl
@[simp] theorem cells_nils  : AV.cells (.nils) = [.nils] := rfl
@[simp] theorem isCell_map (b : Key) : AV.isCell (.map b) = true := rfl
@[simp] theorem cells_map (b : Key) : AV.cells (.map b) = [.map b] := rfl
@[simp] theorem isCell_nilm  : AV.isCell (.nilm) = true := rfl
@[simp] theorem cells_nilm  : AV.cells (.nilm) = [.nilm] := rfl
@[simp] theorem isCell_fn (f : Nat) (first cap : List AV) : AV.isCell (.fn f first cap) = true := rfl
@[simp] theorem cells_fn (f : Nat) (first cap : List AV) : AV.cells (.fn f first cap) = [.fn f first cap] := rfl
@[simp] theorem isCell_nilf  : AV.isCell (.nilf) = true := rfl
@[simp] theorem cells_nilf  : AV.cells (.nilf) = [.nilf] := rfl
@[simp] theorem isCell_iface (t : Nat) (v : AV) : AV.isCell (.iface t v) = true := rfl
@[simp] theorem cells_iface (t : Nat) (v : AV) : AV.cells (.iface t v) = [.iface t v] := rfl
@[simp] theorem isCell_nili  : AV.isCell (.nili) = true := rfl
@[simp] theorem cells_nili  : AV.cells (.nili) = [.nili] := rfl
@[simp] theorem isCell_sl (l : List AV) (len sz : Nat) (fl : SF) : AV.isCell (.sl l len sz fl) = true := rfl
@[simp] theorem cells_sl (l : List AV) (len sz : Nat) (fl : SF) : AV.cells (.sl l len sz fl) = [.sl l len sz fl] := rfl
@[simp] theorem isCell_cref (l : List AV) : AV.isCell (.cref l) = true := rfl
@[simp] theorem cells_cref (l : List AV) : AV.cells (.cref l) = [.cref l] := rfl
@[simp] theorem isCell_agg (l : List AV) : AV.isCell (.agg l) = false := rfl
@[simp] theorem cells_agg (l : List AV) : AV.cells (.agg l) = l := rfl
@[simp] theorem frzIfA_false (l : List AV) (h : T Blk) : frzIfA false l h = frzLA (frzA 8) l h := rfl
@[simp] theorem frzIfA_true (l : List AV) (h : T Blk) : frzIfA true l h = (l, h) := rfl
@[simp] theorem frzLA_nil (g : AV → T Blk → AV × T Blk) (h : T Blk) : frzLA g [] h = ([], h) := rfl
@[simp] theorem frzLA_cons (g : AV → T Blk → AV × T Blk) (v : AV) (l : List AV) (h : T Blk) : frzLA g (v :: l) h = ((g v h).1 :: (frzLA g l (g v h).2).1, (frzLA g l (g v h).2).2) := rfl
section
variable (n : Nat) (h : T Blk)
@[simp] theorem frzA_int (k : IntKind) (i : SI) : frzA n (.int k i) h = (.int k i, h) := by cases n <;> rfl
@[simp] theorem frzA_bool (b : Bool) : frzA n (.bool b) h = (.bool b, h) := by cases n <;> rfl
@[simp] theorem frzA_str (a b : Nat) : frzA n (.str a b) h = (.str a b, h) := by cases n <;> rfl
@[simp] theorem frzA_ptr (b : Key) (o : Nat) : frzA n (.ptr b o) h = (.ptr b o, h) := by cases n <;> rfl
@[simp] theorem frzA_nilp : frzA n .nilp h = (.nilp, h) := by cases n <;> rfl
@[simp] theorem frzA_nils : frzA n .nils h = (.nils, h) := by cases n <;> rfl
@[simp] theorem frzA_map (b : Key) : frzA n (.map b) h = (.map b, h) := by cases n <;> rfl
@[simp] theorem frzA_nilm : frzA n .nilm h = (.nilm, h) := by cases n <;> rfl
@[simp] theorem frzA_fn (f : Nat) (a c : List AV) : frzA n (.fn f a c) h = (.fn f a c, h) := by cases n <;> rfl
@[simp] theorem frzA_nilf : frzA n .nilf h = (.nilf, h) := by cases n <;> rfl
@[simp] theorem frzA_iface (t : Nat) (v : AV) : frzA n (.iface t v) h = (.iface t v, h) := by cases n <;> rfl
@[simp] theorem frzA_nili : frzA n .nili h = (.nili, h) := by cases n <;> rfl
@[simp] theorem frzA_cref (l : List AV) : frzA n (.cref l) h = (.cref l, h) := by cases n <;> rfl
@[simp] theorem frzA_tuple (l : List AV) : frzA n (.tuple l) h = (.tuple l, h) := by cases n <;> rfl
@[simp] theorem frzA_sl (l : List AV) (m z : Nat) (f : SF) : frzA (n + 1) (.sl l m z f) h = (.sl l m z .any, h) := rfl
@[simp] theorem frzA_sl8 (l : List AV) (m z : Nat) (f : SF) : frzA 8 (.sl l m z f) h = (.sl l m z .any, h) := rfl
@[simp] theorem frzA_sl7 (l : List AV) (m z : Nat) (f : SF) : frzA 7 (.sl l m z f) h = (.sl l m z .any, h) := rfl
@[simp] theorem frzA_agg8 (l : List AV) : frzA 8 (.agg l) h = (.agg (frzLA (frzA 7) l h).1, (frzLA (frzA 7) l h).2) := rfl
end
theorem params0 (l : List AV) : paramsT l .z .nil = paramsT l (K 0) .nil := rfl
@[simp] theorem paramsT_nil (k : Key) (tm : T AV) : paramsT [] k tm = tm := rfl
@[simp] theorem paramsT_cons (v : AV) (l : List AV) (i : Nat) (tm : T AV) : paramsT (v :: l) (K i) tm = paramsT l (K (i + 1)) (T.set (K i) (some v) tm) := by
 simp only [paramsT, K_succ]
@[simp] theorem tupled_one (v : AV) : tupled [v] = v := rfl
@[simp] theorem tupled_two (v u : AV) (l : List AV) : tupled (v :: u :: l) = .tuple (v :: u :: l) := rfl
attribute [simp] resultsA
@[simp] theorem AV.all_nil : ([] : List AV).all AV.isCell = true := rfl
attribute [simp] T.get_set_same setK findK keyEq Key.toNat_succ
theorem get_lt {α : Type} {b c : Key} {v : Option α} {t : T α} (h : b.toNat < c.toNat) : T.get b (T.set c v t) = T.get b t := get_set_old v t h
theorem get_gt {α : Type} {b c : Key} {v : Option α} {t : T α} (h : c.toNat < b.toNat) : T.get b (T.set c v t) = T.get b t :=
 T.get_set_ne _ _ _ _ (fun e => by rw [e] at h; exact absurd h (Nat.lt_irrefl _))
@[simp] theorem set_set {α : Type} (k : Key) (v u : Option α) : ∀ (t : T α), T.set k v (T.set k u t) = T.set k v t := by
 induction k with
 | z => intro t; cases t <;> rfl
 | o k ih => intro t; cases t <;> simp only [T.set_o, T.set_o_nil, ih]
 | e k ih => intro t; cases t <;> simp only [T.set_e, T.set_e_nil, ih]
structure Ext (h : T Blk) (nx : Key) (h' : T Blk) (nx' : Key) : Prop where
 n : nx.toNat ≤ nx'.toNat
 g : ∀ b : Key, b.toNat < nx.toNat → T.get b h' = T.get b h
theorem Ext.refl (h : T Blk) (nx : Key) : Ext h nx h nx := ⟨Nat.le_refl _, fun _ _ => rfl⟩
theorem Ext.trans {h1 h2 h3 : T Blk} {n1 n2 n3 : Key} (a : Ext h1 n1 h2 n2) (b : Ext h2 n2 h3 n3) : Ext h1 n1 h3 n3 :=
 ⟨Nat.le_trans a.n b.n, fun k hk => (b.g k (Nat.lt_of_lt_of_le hk a.n)).trans (a.g k hk)⟩
@[simp] theorem beqAV_bool (a b : Bool) : AV.beq (.bool a) (.bool b) = (a == b) := rfl
@[simp] theorem eq_bool (orc : Orc) (a b : Bool) : eqV orc .bool (.bool a) (.bool b) = some (a == b) := by simp [eqV]
@[simp] theorem eq_int (orc : Orc) (k : IntKind) (a b : SI) : eqV orc .int (.int k a) (.int k b) = cmpI orc .eql a b := by cases k <;> simp [eqV]
@[simp] theorem eq_parts (orc : Orc) (l : List (Nat × EqP)) (a b : List AV) : eqV orc (.parts l) (.agg a) (.agg b) = eqParts orc l a b := by simp [eqV]
@[simp] theorem eqParts_nil (orc : Orc) (a b : List AV) : eqParts orc [] a b = some true := by simp [eqParts]
@[simp] theorem eqParts_cons (orc : Orc) (off : Nat) (p : EqP) (l : List (Nat × EqP)) (a b : List AV) : eqParts orc ((off, p) :: l) a b = (match nth off a, nth off b with
  | some x, some y => match eqV orc p x y with
   | some true => eqParts orc l a b
   | some false => some false
   | none => none
  | _, _ => none) := by rw [eqParts]; rfl
section
variable {C : Cfg} {Q : Post} {tm : T AV} {h : T Blk} {nx : Key}
theorem W.loopM {c : PCode} (Inv : Nat → T AV → T Blk → Key → Prop) {n : Nat} (hi : Inv n tm h nx) (hw : ∀ n tm h nx, Inv n tm h nx → W C c (seqPost (fun tm h nx => ∃ m, m < n ∧ Inv m tm h nx) Q) tm h nx) : W C (.loop c) Q tm h nx :=
 W.loop Inv (fun n tm h nx hi => WI.mono (hw n tm h nx hi) fun e tm h nx hq => by cases e <;> exact hq) hi
theorem W.unroll {c : PCode} (h1 : W C c (seqPost (W C (.loop c) Q) Q) tm h nx) : W C (.loop c) Q tm h nx := by
 intro af k cs m1 m2
 obtain ⟨e, tm', h', nx', fr, q, ha, t⟩ := h1 af (.inLoop c :: k) cs m1 m2
 have t : To C ⟨{ af with tm := tm, todo := .code (.loop c) :: k }, cs, h, nx⟩ ⟨fr, cs, h', nx'⟩ := .head (step_run m1 rfl) t
 cases e with
 | norm =>
  cases ha
  have q2 : WI C (.inLoop c) Q tm' h' nx' := WI.same (y := .code (.loop c)) (fun id e => by cases e) (fun _ _ _ _ => rfl) q
  obtain ⟨e2, tm2, hh2, nx2, fr2, q2, a2, t2⟩ := q2 { af with tm := tm' } k cs m1 m2
  refine ⟨e2, tm2, hh2, nx2, fr2, q2, ?_, t.trans t2⟩
  cases e2 <;> exact a2
 | ret => exact ⟨.ret, tm', h', nx', fr, q, ha, t⟩
 | exit id =>
  obtain ⟨k2, e1, e2⟩ := ha
  exact ⟨.exit id, tm', h', nx', fr, q, ⟨k2, e1, e2⟩, t⟩
 | pan a => exact ⟨.pan a, tm', h', nx', fr, q, ha, t⟩
theorem W.of {c : PCode} (h1 : wpC C c Q tm h nx) : W C c Q tm h nx := wpC_sound h1
end
@[simp] theorem frzL_frz {R : Type} (l : List AV) (h : T Blk) (c : List AV → T Blk → R) : frzL (frz 8) l h c = c (frzLA (frzA 8) l h).1 (frzLA (frzA 8) l h).2 := frzL_eq (frz_eq 8) l h c
attribute [simp] appendTo repL_eq
@[simp] theorem adAt_nil (i : Nat) : adAt i [] = [] := rfl
@[simp] theorem adAt_cons (i j : Nat) (l : List Nat) (r : List (Nat × List Nat)) : adAt i ((j, l) :: r) = if i = j then l else adAt i r := by simp [adAt]
@[simp] theorem viewH_nil (p : List (Nat × Key × Blk)) (h : T Blk) : viewH [] p h = h := rfl
@[simp] theorem viewH_cons (a : Nat) (l : List Nat) (p : List (Nat × Key × Blk)) (h : T Blk) : viewH (a :: l) p h = adoptH (p.filter fun x => memN x.1 (a :: l)) h := by
 show adopt (a :: l) p h (fun _ h => h) = _
 rw [adopt_eq]
end Go.Sx
/-
 SX: slots by name. No condition.
-/
namespace Go.Sx
theorem mkK {k : Key} {n : Nat} (h : Key.beq k (K n) = true) : k = K n := Key.eq_of_beq h
def k0 : Key := .z
def k1 : Key := .o k0
def k2 : Key := .e k0
def k3 : Key := .o k1
def k4 : Key := .e k1
def k5 : Key := .o k2
def k6 : Key := .e k2
def k7 : Key := .o k3
def k8 : Key := .e k3
def k9 : Key := .o k4
def k10 : Key := .e k4
def k11 : Key := .o k5
def k12 : Key := .e k5
def k13 : Key := .o k6
def k14 : Key := .e k6
def k15 : Key := .o k7
def k16 : Key := .e k7
def k17 : Key := .o k8
def k18 : Key := .e k8
def k19 : Key := .o k9
def k20 : Key := .e k9
def k21 : Key := .o k10
def k22 : Key := .e k10
def k23 : Key := .o k11
def k24 : Key := .e k11
def k25 : Key := .o k12
def k26 : Key := .e k12
def k27 : Key := .o k13
def k28 : Key := .e k13
def k29 : Key := .o k14
def k30 : Key := .e k14
def k31 : Key := .o k15
def k32 : Key := .e k15
def k33 : Key := .o k16
def k34 : Key := .e k16
def k35 : Key := .o k17
def k36 : Key := .e k17
def k37 : Key := .o k18
def k38 : Key := .e k18
def k39 : Key := .o k19
def k40 : Key := .e k19
def k41 : Key := .o k20
def k42 : Key := .e k20
def k43 : Key := .o k21
def k44 : Key := .e k21
def k45 : Key := .o k22
def k46 : Key := .e k22
def k47 : Key := .o k23
def k48 : Key := .e k23
def k49 : Key := .o k24
def k50 : Key := .e k24
def k51 : Key := .o k25
def k52 : Key := .e k25
def k53 : Key := .o k26
def k54 : Key := .e k26
def k55 : Key := .o k27
def k56 : Key := .e k27
def k57 : Key := .o k28
def k58 : Key := .e k28
def k59 : Key := .o k29
def k60 : Key := .e k29
def k61 : Key := .o k30
def k62 : Key := .e k30
def k63 : Key := .o k31
def k64 : Key := .e k31
def k65 : Key := .o k32
def k66 : Key := .e k32
def k67 : Key := .o k33
def k68 : Key := .e k33
def k69 : Key := .o k34
def k70 : Key := .e k34
def k71 : Key := .o k35
def k72 : Key := .e k35
def k73 : Key := .o k36
def k74 : Key := .e k36
def k75 : Key := .o k37
def k76 : Key := .e k37
def k77 : Key := .o k38
def k78 : Key := .e k38
def k79 : Key := .o k39
def k80 : Key := .e k39
def k81 : Key := .o k40
def k82 : Key := .e k40
def k83 : Key := .o k41
def k84 : Key := .e k41
def k85 : Key := .o k42
def k86 : Key := .e k42
def k87 : Key := .o k43
def k88 : Key := .e k43
def k89 : Key := .o k44
def k90 : Key := .e k44
def k91 : Key := .o k45
def k92 : Key := .e k45
def k93 : Key := .o k46
def k94 : Key := .e k46
def k95 : Key := .o k47
def k96 : Key := .e k47
def k97 : Key := .o k48
def k98 : Key := .e k48
def k99 : Key := .o k49
def k100 : Key := .e k49
def k101 : Key := .o k50
def k102 : Key := .e k50
def k103 : Key := .o k51
def k104 : Key := .e k51
def k105 : Key := .o k52
def k106 : Key := .e k52
def k107 : Key := .o k53
def k108 : Key := .e k53
def k109 : Key := .o k54
def k110 : Key := .e k54
def k111 : Key := .o k55
def k112 : Key := .e k55
def k113 : Key := .o k56
def k114 : Key := .e k56
def k115 : Key := .o k57
def k116 : Key := .e k57
def k117 : Key := .o k58
def k118 : Key := .e k58
def k119 : Key := .o k59
def k120 : Key := .e k59
def k121 : Key := .o k60
def k122 : Key := .e k60
def k123 : Key := .o k61
def k124 : Key := .e k61
def k125 : Key := .o k62
def k126 : Key := .e k62
def k127 : Key := .o k63
def k128 : Key := .e k63
def k129 : Key := .o k64
def k130 : Key := .e k64
def k131 : Key := .o k65
def k132 : Key := .e k65
def k133 : Key := .o k66
def k134 : Key := .e k66
def k135 : Key := .o k67
def k136 : Key := .e k67
def k137 : Key := .o k68
def k138 : Key := .e k68
def k139 : Key := .o k69
def k140 : Key := .e k69
def k141 : Key := .o k70
def k142 : Key := .e k70
def k143 : Key := .o k71
def k144 : Key := .e k71
def k145 : Key := .o k72
def k146 : Key := .e k72
def k147 : Key := .o k73
def k148 : Key := .e k73
def k149 : Key := .o k74
def k150 : Key := .e k74
def k151 : Key := .o k75
def k152 : Key := .e k75
def k153 : Key := .o k76
def k154 : Key := .e k76
def k155 : Key := .o k77
def k156 : Key := .e k77
def k157 : Key := .o k78
def k158 : Key := .e k78
def k159 : Key := .o k79
def k160 : Key := .e k79
def k161 : Key := .o k80
def k162 : Key := .e k80
def k163 : Key := .o k81
def k164 : Key := .e k81
def k165 : Key := .o k82
def k166 : Key := .e k82
def k167 : Key := .o k83
def k168 : Key := .e k83
def k169 : Key := .o k84
def k170 : Key := .e k84
def k171 : Key := .o k85
def k172 : Key := .e k85
def k173 : Key := .o k86
def k174 : Key := .e k86
def k175 : Key := .o k87
def k176 : Key := .e k87
def k177 : Key := .o k88
def k178 : Key := .e k88
def k179 : Key := .o k89
def k180 : Key := .e k89
def k181 : Key := .o k90
def k182 : Key := .e k90
def k183 : Key := .o k91
def k184 : Key := .e k91
def k185 : Key := .o k92
def k186 : Key := .e k92
def k187 : Key := .o k93
def k188 : Key := .e k93
def k189 : Key := .o k94
def k190 : Key := .e k94
def k191 : Key := .o k95
def k192 : Key := .e k95
def k193 : Key := .o k96
def k194 : Key := .e k96
def k195 : Key := .o k97
def k196 : Key := .e k97
def k197 : Key := .o k98
def k198 : Key := .e k98
def k199 : Key := .o k99
def k200 : Key := .e k99
def k201 : Key := .o k100
def k202 : Key := .e k100
def k203 : Key := .o k101
def k204 : Key := .e k101
def k205 : Key := .o k102
def k206 : Key := .e k102
def k207 : Key := .o k103
def k208 : Key := .e k103
def k209 : Key := .o k104
def k210 : Key := .e k104
def k211 : Key := .o k105
def k212 : Key := .e k105
def k213 : Key := .o k106
def k214 : Key := .e k106
def k215 : Key := .o k107
def k216 : Key := .e k107
def k217 : Key := .o k108
@[simp] theorem k0_K : k0 = K 0 := mkK rfl
@[simp] theorem k1_K : k1 = K 1 := mkK rfl
@[simp] theorem k2_K : k2 = K 2 := mkK rfl
@[simp] theorem k3_K : k3 = K 3 := mkK rfl
@[simp] theorem k4_K : k4 = K 4 := mkK rfl
@[simp] theorem k5_K : k5 = K 5 := mkK rfl
@[simp] theorem k6_K : k6 = K 6 := mkK rfl
@[simp] theorem k7_K : k7 = K 7 := mkK rfl
@[simp] theorem k8_K : k8 = K 8 := mkK rfl
@[simp] theorem k9_K : k9 = K 9 := mkK rfl
@[simp] theorem k10_K : k10 = K 10 := mkK rfl
@[simp] theorem k11_K : k11 = K 11 := mkK rfl
@[simp] theorem k12_K : k12 = K 12 := mkK rfl
@[simp] theorem k13_K : k13 = K 13 := mkK rfl
@[simp] theorem k14_K : k14 = K 14 := mkK rfl
@[simp] theorem k15_K : k15 = K 15 := mkK rfl
@[simp] theorem k16_K : k16 = K 16 := mkK rfl
@[simp] theorem k17_K : k17 = K 17 := mkK rfl
@[simp] theorem k18_K : k18 = K 18 := mkK rfl
@[simp] theorem k19_K : k19 = K 19 := mkK rfl
@[simp] theorem k20_K : k20 = K 20 := mkK rfl
@[simp] theorem k21_K : k21 = K 21 := mkK rfl
@[simp] theorem k22_K : k22 = K 22 := mkK rfl
@[simp] theorem k23_K : k23 = K 23 := mkK rfl
@[simp] theorem k24_K : k24 = K 24 := mkK rfl
@[simp] theorem k25_K : k25 = K 25 := mkK rfl
@[simp] theorem k26_K : k26 = K 26 := mkK rfl
@[simp] theorem k27_K : k27 = K 27 := mkK rfl
@[simp] theorem k28_K : k28 = K 28 := mkK rfl
@[simp] theorem k29_K : k29 = K 29 := mkK rfl
@[simp] theorem k30_K : k30 = K 30 := mkK rfl
@[simp] theorem k31_K : k31 = K 31 := mkK rfl
@[simp] theorem k32_K : k32 = K 32 := mkK rfl
@[simp] theorem k33_K : k33 = K 33 := mkK rfl
@[simp] theorem k34_K : k34 = K 34 := mkK rfl
@[simp] theorem k35_K : k35 = K 35 := mkK rfl
@[simp] theorem k36_K : k36 = K 36 := mkK rfl
@[simp] theorem k37_K : k37 = K 37 := mkK rfl
@[simp] theorem k38_K : k38 = K 38 := mkK rfl
@[simp] theorem k39_K : k39 = K 39 := mkK rfl
@[simp] theorem k40_K : k40 = K 40 := mkK rfl
@[simp] theorem k41_K : k41 = K 41 := mkK rfl
@[simp] theorem k42_K : k42 = K 42 := mkK rfl
@[simp] theorem k43_K : k43 = K 43 := mkK rfl
@[simp] theorem k44_K : k44 = K 44 := mkK rfl
@[simp] theorem k45_K : k45 = K 45 := mkK rfl
@[simp] theorem k46_K : k46 = K 46 := mkK rfl
@[simp] theorem k47_K : k47 = K 47 := mkK rfl
@[simp] theorem k48_K : k48 = K 48 := mkK rfl
@[simp] theorem k49_K : k49 = K 49 := mkK rfl
@[simp] theorem k50_K : k50 = K 50 := mkK rfl
@[simp] theorem k51_K : k51 = K 51 := mkK rfl
@[simp] theorem k52_K : k52 = K 52 := mkK rfl
@[simp] theorem k53_K : k53 = K 53 := mkK rfl
@[simp] theorem k54_K : k54 = K 54 := mkK rfl
@[simp] theorem k55_K : k55 = K 55 := mkK rfl
@[simp] theorem k56_K : k56 = K 56 := mkK rfl
@[simp] theorem k57_K : k57 = K 57 := mkK rfl
@[simp] theorem k58_K : k58 = K 58 := mkK rfl
@[simp] theorem k59_K : k59 = K 59 := mkK rfl
@[simp] theorem k60_K : k60 = K 60 := mkK rfl
@[simp] theorem k61_K : k61 = K 61 := mkK rfl
@[simp] theorem k62_K : k62 = K 62 := mkK rfl
@[simp] theorem k63_K : k63 = K 63 := mkK rfl
@[simp] theorem k64_K : k64 = K 64 := mkK rfl
@[simp] theorem k65_K : k65 = K 65 := mkK rfl
@[simp] theorem k66_K : k66 = K 66 := mkK rfl
@[simp] theorem k67_K : k67 = K 67 := mkK rfl
@[simp] theorem k68_K : k68 = K 68 := mkK rfl
@[simp] theorem k69_K : k69 = K 69 := mkK rfl
@[simp] theorem k70_K : k70 = K 70 := mkK rfl
@[simp] theorem k71_K : k71 = K 71 := mkK rfl
@[simp] theorem k72_K : k72 = K 72 := mkK rfl
@[simp] theorem k73_K : k73 = K 73 := mkK rfl
@[simp] theorem k74_K : k74 = K 74 := mkK rfl
@[simp] theorem k75_K : k75 = K 75 := mkK rfl
@[simp] theorem k76_K : k76 = K 76 := mkK rfl
@[simp] theorem k77_K : k77 = K 77 := mkK rfl
@[simp] theorem k78_K : k78 = K 78 := mkK rfl
@[simp] theorem k79_K : k79 = K 79 := mkK rfl
@[simp] theorem k80_K : k80 = K 80 := mkK rfl
@[simp] theorem k81_K : k81 = K 81 := mkK rfl
@[simp] theorem k82_K : k82 = K 82 := mkK rfl
@[simp] theorem k83_K : k83 = K 83 := mkK rfl
@[simp] theorem k84_K : k84 = K 84 := mkK rfl
@[simp] theorem k85_K : k85 = K 85 := mkK rfl
@[simp] theorem k86_K : k86 = K 86 := mkK rfl
@[simp] theorem k87_K : k87 = K 87 := mkK rfl
@[simp] theorem k88_K : k88 = K 88 := mkK rfl
@[simp] theorem k89_K : k89 = K 89 := mkK rfl
@[simp] theorem k90_K : k90 = K 90 := mkK rfl
@[simp] theorem k91_K : k91 = K 91 := mkK rfl
@[simp] theorem k92_K : k92 = K 92 := mkK rfl
@[simp] theorem k93_K : k93 = K 93 := mkK rfl
@[simp] theorem k94_K : k94 = K 94 := mkK rfl
@[simp] theorem k95_K : k95 = K 95 := mkK rfl
@[simp] theorem k96_K : k96 = K 96 := mkK rfl
@[simp] theorem k97_K : k97 = K 97 := mkK rfl
@[simp] theorem k98_K : k98 = K 98 := mkK rfl
@[simp] theorem k99_K : k99 = K 99 := mkK rfl
@[simp] theorem k100_K : k100 = K 100 := mkK rfl
@[simp] theorem k101_K : k101 = K 101 := mkK rfl
@[simp] theorem k102_K : k102 = K 102 := mkK rfl
@[simp] theorem k103_K : k103 = K 103 := mkK rfl
@[simp] theorem k104_K : k104 = K 104 := mkK rfl
@[simp] theorem k105_K : k105 = K 105 := mkK rfl
@[simp] theorem k106_K : k106 = K 106 := mkK rfl
@[simp] theorem k107_K : k107 = K 107 := mkK rfl
@[simp] theorem k108_K : k108 = K 108 := mkK rfl
@[simp] theorem k109_K : k109 = K 109 := mkK rfl
@[simp] theorem k110_K : k110 = K 110 := mkK rfl
@[simp] theorem k111_K : k111 = K 111 := mkK rfl
@[simp] theorem k112_K : k112 = K 112 := mkK rfl
@[simp] theorem k113_K : k113 = K 113 := mkK rfl
@[simp] theorem k114_K : k114 = K 114 := mkK rfl
@[simp] theorem k115_K : k115 = K 115 := mkK rfl
@[simp] theorem k116_K : k116 = K 116 := mkK rfl
@[simp] theorem k117_K : k117 = K 117 := mkK rfl
@[simp] theorem k118_K : k118 = K 118 := mkK rfl
@[simp] theorem k119_K : k119 = K 119 := mkK rfl
@[simp] theorem k120_K : k120 = K 120 := mkK rfl
@[simp] theorem k121_K : k121 = K 121 := mkK rfl
@[simp] theorem k122_K : k122 = K 122 := mkK rfl
@[simp] theorem k123_K : k123 = K 123 := mkK rfl
@[simp] theorem k124_K : k124 = K 124 := mkK rfl
@[simp] theorem k125_K : k125 = K 125 := mkK rfl
@[simp] theorem k126_K : k126 = K 126 := mkK rfl
@[simp] theorem k127_K : k127 = K 127 := mkK rfl
@[simp] theorem k128_K : k128 = K 128 := mkK rfl
@[simp] theorem k129_K : k129 = K 129 := mkK rfl
@[simp] theorem k130_K : k130 = K 130 := mkK rfl
@[simp] theorem k131_K : k131 = K 131 := mkK rfl
@[simp] theorem k132_K : k132 = K 132 := mkK rfl
@[simp] theorem k133_K : k133 = K 133 := mkK rfl
@[simp] theorem k134_K : k134 = K 134 := mkK rfl
@[simp] theorem k135_K : k135 = K 135 := mkK rfl
@[simp] theorem k136_K : k136 = K 136 := mkK rfl
@[simp] theorem k137_K : k137 = K 137 := mkK rfl
@[simp] theorem k138_K : k138 = K 138 := mkK rfl
@[simp] theorem k139_K : k139 = K 139 := mkK rfl
@[simp] theorem k140_K : k140 = K 140 := mkK rfl
@[simp] theorem k141_K : k141 = K 141 := mkK rfl
@[simp] theorem k142_K : k142 = K 142 := mkK rfl
@[simp] theorem k143_K : k143 = K 143 := mkK rfl
@[simp] theorem k144_K : k144 = K 144 := mkK rfl
@[simp] theorem k145_K : k145 = K 145 := mkK rfl
@[simp] theorem k146_K : k146 = K 146 := mkK rfl
@[simp] theorem k147_K : k147 = K 147 := mkK rfl
@[simp] theorem k148_K : k148 = K 148 := mkK rfl
@[simp] theorem k149_K : k149 = K 149 := mkK rfl
@[simp] theorem k150_K : k150 = K 150 := mkK rfl
@[simp] theorem k151_K : k151 = K 151 := mkK rfl
@[simp] theorem k152_K : k152 = K 152 := mkK rfl
@[simp] theorem k153_K : k153 = K 153 := mkK rfl
@[simp] theorem k154_K : k154 = K 154 := mkK rfl
@[simp] theorem k155_K : k155 = K 155 := mkK rfl
@[simp] theorem k156_K : k156 = K 156 := mkK rfl
@[simp] theorem k157_K : k157 = K 157 := mkK rfl
@[simp] theorem k158_K : k158 = K 158 := mkK rfl
@[simp] theorem k159_K : k159 = K 159 := mkK rfl
@[simp] theorem k160_K : k160 = K 160 := mkK rfl
@[simp] theorem k161_K : k161 = K 161 := mkK rfl
@[simp] theorem k162_K : k162 = K 162 := mkK rfl
@[simp] theorem k163_K : k163 = K 163 := mkK rfl
@[simp] theorem k164_K : k164 = K 164 := mkK rfl
@[simp] theorem k165_K : k165 = K 165 := mkK rfl
@[simp] theorem k166_K : k166 = K 166 := mkK rfl
@[simp] theorem k167_K : k167 = K 167 := mkK rfl
@[simp] theorem k168_K : k168 = K 168 := mkK rfl
@[simp] theorem k169_K : k169 = K 169 := mkK rfl
@[simp] theorem k170_K : k170 = K 170 := mkK rfl
@[simp] theorem k171_K : k171 = K 171 := mkK rfl
@[simp] theorem k172_K : k172 = K 172 := mkK rfl
@[simp] theorem k173_K : k173 = K 173 := mkK rfl
@[simp] theorem k174_K : k174 = K 174 := mkK rfl
@[simp] theorem k175_K : k175 = K 175 := mkK rfl
@[simp] theorem k176_K : k176 = K 176 := mkK rfl
@[simp] theorem k177_K : k177 = K 177 := mkK rfl
@[simp] theorem k178_K : k178 = K 178 := mkK rfl
@[simp] theorem k179_K : k179 = K 179 := mkK rfl
@[simp] theorem k180_K : k180 = K 180 := mkK rfl
@[simp] theorem k181_K : k181 = K 181 := mkK rfl
@[simp] theorem k182_K : k182 = K 182 := mkK rfl
@[simp] theorem k183_K : k183 = K 183 := mkK rfl
@[simp] theorem k184_K : k184 = K 184 := mkK rfl
@[simp] theorem k185_K : k185 = K 185 := mkK rfl
@[simp] theorem k186_K : k186 = K 186 := mkK rfl
@[simp] theorem k187_K : k187 = K 187 := mkK rfl
@[simp] theorem k188_K : k188 = K 188 := mkK rfl
@[simp] theorem k189_K : k189 = K 189 := mkK rfl
@[simp] theorem k190_K : k190 = K 190 := mkK rfl
@[simp] theorem k191_K : k191 = K 191 := mkK rfl
@[simp] theorem k192_K : k192 = K 192 := mkK rfl
@[simp] theorem k193_K : k193 = K 193 := mkK rfl
@[simp] theorem k194_K : k194 = K 194 := mkK rfl
@[simp] theorem k195_K : k195 = K 195 := mkK rfl
@[simp] theorem k196_K : k196 = K 196 := mkK rfl
@[simp] theorem k197_K : k197 = K 197 := mkK rfl
@[simp] theorem k198_K : k198 = K 198 := mkK rfl
@[simp] theorem k199_K : k199 = K 199 := mkK rfl
@[simp] theorem k200_K : k200 = K 200 := mkK rfl
@[simp] theorem k201_K : k201 = K 201 := mkK rfl
@[simp] theorem k202_K : k202 = K 202 := mkK rfl
@[simp] theorem k203_K : k203 = K 203 := mkK rfl
@[simp] theorem k209_K : k209 = K 209 := mkK rfl
@[simp] theorem k210_K : k210 = K 210 := mkK rfl
@[simp] theorem k211_K : k211 = K 211 := mkK rfl
@[simp] theorem k212_K : k212 = K 212 := mkK rfl
@[simp] theorem k213_K : k213 = K 213 := mkK rfl
@[simp] theorem k214_K : k214 = K 214 := mkK rfl
@[simp] theorem k215_K : k215 = K 215 := mkK rfl
@[simp] theorem k216_K : k216 = K 216 := mkK rfl
theorem hide {α : Type} {a b : α} (h : a = b) : a = b := h
abbrev I (n : Int) : AV := .int .i64 (.lit n)
def oM (d s : Key) : POper := ⟨some d, .mov (.t s), none⟩
def oL (d : Key) (n : Nat) (s : Key) : POper := ⟨some d, .load false n (.t s), none⟩
def oA (d : Key) (n : Nat) (s : Key) : POper := ⟨some d, .load true n (.t s), none⟩
def oF (d : Key) (n : Nat) (s : Key) : POper := ⟨some d, .fieldA n (.t s), none⟩
def oS (n : Nat) (a s : Key) : POper := ⟨none, .store n (.t a) (.t s), none⟩
def oN (d s : Key) : POper := ⟨some d, .nilc (.t s), none⟩
def oZ (d s : Key) : POper := ⟨some d, .lenL (.t s), none⟩
def oE (d s : Key) (n : Int) : POper := ⟨some d, .bin .eql (.t s) (.v (I n)), none⟩
def oI (d : Key) (n : Nat) (s i : Key) : POper := ⟨some d, .indexL n (.t s) (.t i), none⟩
def oX (d s : Key) (n : Nat) : POper := ⟨some d, .extract (.t s) n, none⟩
def oB (d s : Key) : POper := ⟨some d, .box (.t s), none⟩
def oJ (d : Key) (v : AV) : POper := ⟨some d, .mov (.v v), none⟩
@[simp] theorem oM_eq (d s : Key) : oM d s = ⟨some d, .mov (.t s), none⟩ := hide rfl
@[simp] theorem oL_eq (d : Key) (n : Nat) (s : Key) : oL d n s = ⟨some d, .load false n (.t s), none⟩ := hide rfl
@[simp] theorem oA_eq (d : Key) (n : Nat) (s : Key) : oA d n s = ⟨some d, .load true n (.t s), none⟩ := hide rfl
@[simp] theorem oF_eq (d : Key) (n : Nat) (s : Key) : oF d n s = ⟨some d, .fieldA n (.t s), none⟩ := hide rfl
@[simp] theorem oS_eq (n : Nat) (a s : Key) : oS n a s = ⟨none, .store n (.t a) (.t s), none⟩ := hide rfl
@[simp] theorem oN_eq (d s : Key) : oN d s = ⟨some d, .nilc (.t s), none⟩ := hide rfl
@[simp] theorem oZ_eq (d s : Key) : oZ d s = ⟨some d, .lenL (.t s), none⟩ := hide rfl
@[simp] theorem oE_eq (d s : Key) (n : Int) : oE d s n = ⟨some d, .bin .eql (.t s) (.v (I n)), none⟩ := hide rfl
@[simp] theorem oI_eq (d : Key) (n : Nat) (s i : Key) : oI d n s i = ⟨some d, .indexL n (.t s) (.t i), none⟩ := hide rfl
@[simp] theorem oX_eq (d s : Key) (n : Nat) : oX d s n = ⟨some d, .extract (.t s) n, none⟩ := hide rfl
@[simp] theorem oB_eq (d s : Key) : oB d s = ⟨some d, .box (.t s), none⟩ := hide rfl
@[simp] theorem oJ_eq (d : Key) (v : AV) : oJ d v = ⟨some d, .mov (.v v), none⟩ := hide rfl
end Go.Sx
