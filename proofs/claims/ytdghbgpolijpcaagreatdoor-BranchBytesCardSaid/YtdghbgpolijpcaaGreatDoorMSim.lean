/-
  SX: simulation: frames that are entered, finished, left. No condition.
-/
import Derived.Test.YtdghbgpolijpcaaGreatDoorMFrame
import Derived.Test.YtdghbgpolijpcaaGreatDoorMEvents
set_option linter.unusedSimpArgs false
set_option linter.unusedVariables false
set_option linter.unusedSectionVars false
namespace Go.Sx
open Go.RowKit

/- what a call that is known by other means comes to -/
def SumOk (P : Program) (ρ : Nat → Int) (w0 : W0) (f : Nat) (l : List AV) (H : T Blk) (nx : Key) (a : AV) (H' : T Blk) (nx' : Key) : Prop := ∀ (args : Array Value) (w : World) (μ : Mu) (G : Key → Option Blk), MRel P ρ w0 μ G nx.toNat w → HSub H G → VRels ρ μ l args.toList →
  Calls P f args w fun e w' => ∃ u μ' G', e = .returned u ∧ VRel ρ μ' a u ∧ μ.le μ' ∧ MRel P ρ w0 μ' G' nx'.toNat w' ∧ HSub H' G' ∧ Kept H H' nx nx' μ μ' G G'

structure Ctx (P : Program) (ρ : Nat → Int) (w0 : W0) (C : Cfg) : Prop where
  sum : ∀ f l H nx a H' nx', C.sum f l H nx = some (a, H', nx') → SumOk P ρ w0 f l H nx a H' nx'
  has : ∀ f l H nx r, C.sum f l H nx = some r → ∃ fn, P.funcs[f]? = some fn ∧ fn.body.isSome = true ∧ fn.name ≠ "runtime.NumGoroutine"
  orc : OrcOk ρ C.orc
  fns : ∀ f p, (bif Nat.beq (Key.ofNatF 12 f).toNat f then T.get (Key.ofNatF 12 f) C.fns else none) = some p → pFn P f = some p
  mix : P.follows .mixedOrders = true

section
variable {P : Program} {ρ : Nat → Int} {orc : Orc} {nt : Nat} {w0 : W0} {w : World} {μ : Mu} {G : Key → Option Blk} {H : T Blk} {nx : Key}

theorem exitTo_rel {id : Nat} {k : List AItem} {K : List Item} (h : IRels P μ nt k K) :
    (∀ k', exitToA id k = some k' → ∃ K', exitTo id K = some K' ∧ IRels P μ nt k' K') ∧ (exitToA id k = none → exitTo id K = none) := by
  induction h with
  | nil => exact ⟨fun k' e => (by cases e), fun _ => rfl⟩
  | cons a x l k h h' ih =>
    cases h with
    | inBlock id' =>
      simp only [exitToA, exitTo, beqN_eq]
      by_cases e : id' = id
      · subst e
        simp only [decide_true, cond_true, beq_self_eq_true, if_true]
        exact ⟨fun k' e => (by cases e; exact ⟨_, rfl, h'⟩), fun e => (by cases e)⟩
      · have : (id' == id) = false := by simpa using e
        simp only [e, decide_false, cond_false, this, Bool.false_eq_true, if_false]
        exact ih
    | code pc c h => exact ih
    | inLoop pc c h => exact ih
    | ops l ops rest h => exact ih
    | inRF k l r h hr => exact ih
    | endRF k l r h hr => exact ih
    | beginRound => exact ih

/- arguments -/
noncomputable def paramsT : List AV → Key → T AV → T AV
  | [], _, tm => tm
  | v :: l, k, tm => paramsT l k.succ (T.set k (some v) tm)
theorem paramsC_eq {R : Type} : ∀ (l : List AV) (k : Key) (tm : T AV) (c : T AV → R), paramsC l k tm c = c (paramsT l k tm)
  | [], _, _, _ => rfl
  | v :: l, k, tm, c => by
    show T.setC k (some v) tm (fun tm => paramsC l k.succ tm c) = _
    rw [T.setC_eq, paramsC_eq l]; rfl
theorem paramsT_get : ∀ (l : List AV) (k : Key) (tm : T AV) (q : Key) (a : AV), T.get q (paramsT l k tm) = some a → (k.toNat ≤ q.toNat ∧ l[q.toNat - k.toNat]? = some a) ∨ T.get q tm = some a
  | [], _, _, _, _, h => .inr h
  | v :: l, k, tm, q, a, h => by
    have hs := Key.toNat_succ k
    rcases paramsT_get l k.succ _ q a h with ⟨h1, h2⟩ | h1
    · refine .inl ⟨by omega, ?_⟩
      have : q.toNat - k.toNat = (q.toNat - k.succ.toNat) + 1 := by omega
      rw [this]; simpa using h2
    · by_cases e : q = k
      · subst e; rw [T.get_set_same] at h1; cases h1; exact .inl ⟨Nat.le_refl _, by simp⟩
      · rw [T.get_set_ne _ _ _ _ e] at h1; exact .inr h1

theorem enter_trel {args : Array Value} {l : List AV} (h : VRels ρ μ l args.toList) : TRel ρ μ nt (paramsT l .z .nil) (args ++ Array.replicate (nt - args.size) undef) := by
  refine ⟨by simp; omega, fun q a hq => ?_⟩
  rcases paramsT_get l .z .nil q a hq with ⟨_, h2⟩ | h2
  · have h2 : l[q.toNat]? = some a := by simpa [Key.toNat] using h2
    obtain ⟨v, hv, hr⟩ := h.get _ _ h2
    refine ⟨v, ?_, hr⟩
    have hlt : q.toNat < args.size := by
      rcases Nat.lt_or_ge q.toNat args.size with h' | h'
      · exact h'
      · rw [List.getElem?_eq_none (by simpa using h')] at hv; cases hv
    rw [Array.getElem?_append_left hlt]
    simpa using hv
  · simp at h2

theorem pFn_spec {f : Nat} {p : PFn} (h : pFn P f = some p) : ∃ fn c, P.funcs[f]? = some fn ∧ fn.body = some c ∧ fn.name ≠ "runtime.NumGoroutine" ∧ pCode P fn.ntmps c = some p.body ∧ pRes P fn.ntmps fn.results.toList = some p.res := by
  unfold pFn at h
  split at h
  · cases h
  · rename_i fn hfn
    split at h
    · cases h
    · rename_i c hc
      cases hn : (fn.name == "runtime.NumGoroutine") with
      | true => rw [hn] at h; cases h
      | false =>
        rw [hn] at h
        simp only [cond_false] at h
        split at h
        · rename_i b r hb hr
          simp only [Option.some.injEq] at h; subst h
          exact ⟨fn, c, hfn, hc, by simpa using hn, hb, hr⟩
        · cases h

theorem cur_enter {f : Nat} {p : PFn} (hp : pFn P f = some p) {l : List AV} {args : Array Value} (hl : VRels ρ μ l args.toList) (dfd : Bool) :
    Cur P ρ orc μ G H nx { fn := f, tm := paramsT l .z .nil, todo := [.code p.body], dfs := [], mode := .run, dfd, rnd := none, res := p.res } (Frame.enter P f args (if dfd then .deferred else .normal)) := by
  obtain ⟨fn, c, h1, h2, h3, h4, h5⟩ := pFn_spec hp
  refine .run fn.ntmps ⟨rfl, ⟨fn, h1, rfl, h5⟩, trivial, rfl, trivial, fun h => absurd rfl h⟩ rfl rfl ?_
  simp only [Frame.enter, h1, Option.map_some, Option.getD_some, Option.bind_some, h2]
  exact .plain _ _ _ _ (.cons _ _ _ _ (.code _ _ h4) .nil) (enter_trel hl)

/- a round's variables -/
theorem TRel.set {tm : T AV} {tmps : Array Value} (h : TRel ρ μ nt tm tmps) {k : Key} (hlt : k.toNat < nt) {a : AV} {v : Value} (hv : VRel ρ μ a v) : TRel ρ μ nt (T.set k (some a) tm) (tmps.setIfInBounds k.toNat v) := by
  refine ⟨by simp; exact h.1, fun q b hb => ?_⟩
  by_cases hq : q = k
  · subst hq
    rw [T.get_set_same] at hb; cases hb
    have : q.toNat < tmps.size := Nat.lt_of_lt_of_le hlt h.1
    exact ⟨v, by simp [this], hv⟩
  · rw [T.get_set_ne _ _ _ _ hq] at hb
    obtain ⟨u, hu, hr⟩ := h.2 q b hb
    refine ⟨u, ?_, hr⟩
    rw [Array.getElem?_setIfInBounds_ne]
    · exact hu
    · intro e; exact hq (Key.toNat_inj e.symm)

noncomputable def zipT : List Key → List AV → T AV → T AV
  | k :: l, v :: m, tm => zipT l m (T.set k (some v) tm)
  | _, _, tm => tm
theorem zipC_spec {R : Type} : ∀ (ks : List Key) (vs : List AV) (tm : T AV) (bad : R) (c : T AV → R), zipC ks vs tm bad c = bad ∨ (ks.length = vs.length ∧ zipC ks vs tm bad c = c (zipT ks vs tm))
  | [], [], tm, bad, c => .inr ⟨rfl, rfl⟩
  | [], _ :: _, tm, bad, c => .inl rfl
  | _ :: _, [], tm, bad, c => .inl rfl
  | k :: l, v :: m, tm, bad, c => by
    have e : zipC (k :: l) (v :: m) tm bad c = zipC l m (T.set k (some v) tm) bad c := by
      show T.setC k (some v) tm (fun tm => zipC l m tm bad c) = _
      rw [T.setC_eq]
    rw [e]
    rcases zipC_spec l m (T.set k (some v) tm) bad c with h | ⟨h1, h2⟩
    · exact .inl h
    · exact .inr ⟨by simp [h1], h2⟩
theorem zipT_rel : ∀ {ks : List Key} {vs : List AV} {us : List Value} {tm : T AV} {tmps : Array Value}, (∀ k ∈ ks, k.toNat < nt) → ks.length = vs.length → VRels ρ μ vs us → TRel ρ μ nt tm tmps →
    TRel ρ μ nt (zipT ks vs tm) (((ks.map Key.toNat).zip us).foldl (fun tmps (x : Nat × Value) => tmps.setIfInBounds x.1 x.2) tmps)
  | [], [], _, _, _, _, _, .nil, h => h
  | [], _ :: _, _, _, _, _, hl, _, _ => by cases hl
  | _ :: _, [], _, _, _, _, hl, _, _ => by cases hl
  | k :: ks, v :: vs, _, tm, tmps, hk, hl, .cons _ _ u us h h', ht => by
    exact zipT_rel (ks := ks) (vs := vs) (fun q hq => hk q (by simp [hq])) (by simpa using hl) h' (ht.set (hk k (by simp)) h)

/- the slots that a region leaves open -/
noncomputable def eraseT : List Key → T AV → T AV
  | [], tm => tm
  | k :: l, tm => eraseT l (T.set k none tm)
theorem eraseC_eq {R : Type} : ∀ (l : List Key) (tm : T AV) (c : T AV → R), eraseC l tm c = c (eraseT l tm)
  | [], _, _ => rfl
  | k :: l, tm, c => by
    show T.setC k none tm (fun tm => eraseC l tm c) = _
    rw [T.setC_eq, eraseC_eq l]; rfl
theorem eraseT_get : ∀ (l : List Key) (tm : T AV) (q : Key) (a : AV), T.get q (eraseT l tm) = some a → (∀ k ∈ l, k ≠ q) ∧ T.get q tm = some a
  | [], _, _, _, h => ⟨fun _ h => (by cases h), h⟩
  | k :: l, tm, q, a, h => by
    obtain ⟨h1, h2⟩ := eraseT_get l _ q a h
    have hne : k ≠ q := by
      intro e; subst e; rw [T.get_set_same] at h2; cases h2
    rw [T.get_set_ne _ _ _ _ (fun e => hne e.symm)] at h2
    refine ⟨fun x hx => ?_, h2⟩
    rcases List.mem_cons.1 hx with e | e
    · rw [e]; exact hne
    · exact h1 x e

theorem SRel.erase {ops : Array Oper} {pl : List POper} {bf : List Nat} {g : Gh} {unv : Nat → Prop} {pend : List (Nat × Key × Blk)} {tm : T AV} {tmps : Array Value} {rest : List Nat} (S : SRel P ρ orc nt ops pl bf μ G H nx g unv pend tm tmps rest) {dsts : List Key} (hd : DstsOk ops dsts) :
    TRel ρ μ nt (eraseT dsts tm) tmps := by
  refine ⟨S.sz, fun q a hq => ?_⟩
  obtain ⟨h1, h2⟩ := eraseT_get _ _ _ _ hq
  have hno : ∀ j, dstO ops j ≠ some q.toNat := by
    intro j hj
    obtain ⟨k, hk, e⟩ := hd j _ hj
    exact h1 k hk (Key.toNat_inj e)
  rw [S.a2 q fun j _ => hno j] at h2
  exact S.c2 q a (fun j _ => hno j) h2

/- what waits goes on -/
theorem Wait.finish {k : List AItem} {tm : T AV} {K : List Item} {tmps : Array Value} (h : Wait P ρ orc μ G H nx nt k tm K tmps) {af af' : AFr} (hk : af.todo = k) (ht : af.tm = tm) {fr : Frame} (hK : fr.todo = K) (hT : fr.tmps = tmps) {a : AV} {v : Value} (hv : VRel ρ μ a v)
    (hf : finishA a af = some af') : Todo P ρ orc μ G H nx nt af'.todo af'.tm (fr.finish v).todo (fr.finish v).tmps ∧ pk af' = pk af ∧ (∃ tm2 k2, af' = { af with tm := tm2, todo := k2 }) ∧ (∃ tmps2 K2, fr.finish v = { fr with tmps := tmps2, todo := K2 }) := by
  cases h with
  | ops o l ops i rest k K tm tmps hp h ht' =>
    subst ht hT
    simp only [finishA, hk, putT_eq, Option.some.injEq] at hf
    subst hf
    have hp0 := hp
    simp only [pOpers] at hp
    split at hp
    · cases hp
    · rename_i oo hoi
      split at hp
      · rename_i po' l' h1 h2
        simp only [Option.some.injEq, List.cons.injEq] at hp
        obtain ⟨rfl, rfl⟩ := hp
        obtain ⟨hop, hgu, hdst⟩ := pOper_spec h1
        rw [finish_region hK hoi]
        exact ⟨.plain _ _ _ _ (.cons _ _ _ _ (.ops _ _ _ h2) h) (ht'.put hdst hv), by simp [pk, hk], ⟨_, _, rfl⟩, ⟨_, _, rfl⟩⟩
      · cases hp
  | staged ops pl bf g i po ad os its items dsts pend k K tm tmps rest hpl hf' hc hL hbi hd h hos hcov S =>
    subst ht hT
    simp only [finishA, hk, putT_eq, Option.some.injEq] at hf
    subst hf
    obtain ⟨hi, hDi, hbf⟩ := S.ready
    obtain ⟨o, po', hoi, hpo, hpl'⟩ := S.reg.at hi
    rw [hpl] at hpl'; cases hpl'
    rw [finish_region hK hoi]
    have S4 := S.heavy hpl hL hbi hoi hv
    refine ⟨.back ops pl bf _ os its items dsts pend k K _ _ rest hf' hc hd h hos ?_ S4, by simp [pk, hk], ⟨_, _, rfl⟩, ⟨_, _, rfl⟩⟩
    intro j hj hDj hrj
    have hDj : (g.D j || j == i) = false := hDj
    rw [Bool.or_eq_false_iff] at hDj
    have hne : j ≠ i := by simpa using hDj.2
    have hj : hasB (setB g.L i) j = true := hj
    rw [hasB_set, Bool.or_eq_true, decide_eq_true_eq] at hj
    have hjL := hj.resolve_right (fun e => hne e.symm)
    rcases hcov j hjL hrj with h | h
    · have := hbf j (S.lrng j hjL) h
      rw [hDj.1] at this; cases this
    · exact h
  | rf key l k K tm tmps hkey h ht' =>
    subst ht hT
    simp only [finishA, hk, Option.some.injEq] at hf
    subst hf
    have e : fr.finish v = { fr with todo := .endRangeFunc l.c :: K } := by simp [Frame.finish, hK]
    rw [e]
    exact ⟨.plain _ _ _ _ (.cons _ _ _ _ (.endRF _ _ _ hkey rfl) h) ht', by simp [pk, hk], ⟨_, _, rfl⟩, ⟨_, _, rfl⟩⟩

/- results -/
def resM (tmps : Array Value) : ResultVar → Sem Value
  | .tmp t => pure (tmps.getD t undef)
  | .cell a t => do loadVar t (← asAddr (tmps.getD a undef))
theorem results_list (hM : MRel P ρ w0 μ G nx.toNat w) (hH : HSub H G) {tm : T AV} {tmps : Array Value} (hT : TRel ρ μ nt tm tmps) : ∀ {rs : List ResultVar} {res : List RV} {l : List AV}, pRes P nt rs = some res → resultsA H tm res = some l →
    ∃ vs, (rs.mapM (resM tmps)).run P w = .ok vs w ∧ VRels ρ μ l vs
  | [], res, l, hp, hr => by
    simp only [pRes, Option.some.injEq] at hp; subst hp
    simp only [resultsA, Option.some.injEq] at hr; subst hr
    exact ⟨[], by simp [Sem.run_pure], .nil⟩
  | .tmp t :: rs, res, l, hp, hr => by
    simp only [pRes] at hp
    split at hp
    · rename_i k r hk hrs
      simp only [Option.some.injEq] at hp; subst hp
      simp only [resultsA] at hr
      split at hr
      · rename_i a l' ha hl'
        simp only [Option.some.injEq] at hr; subst hr
        obtain ⟨vs, h1, h2⟩ := results_list hM hH hT hrs hl'
        obtain ⟨v, hv, hvr⟩ := hT.2 _ _ ha
        rw [(slotK_spec hk).1] at hv
        refine ⟨v :: vs, ?_, .cons _ _ _ _ hvr h2⟩
        have hg : tmps.getD t undef = v := by simp [Array.getD_eq_getD_getElem?, hv]
        rw [List.mapM_cons]
        simp only [resM, Sem.run_bind, Sem.run_pure, Result.andThen_ok, hg, h1]
      · cases hr
    · cases hp
  | .cell a t :: rs, res, l, hp, hr => by
    simp only [pRes] at hp
    split at hp
    · rename_i k i r hk hi hrs
      simp only [Option.some.injEq] at hp; subst hp
      simp only [resultsA] at hr
      split at hr
      · rename_i b off l' ha hl'
        split at hr
        · rename_i x hx
          simp only [Option.some.injEq] at hr; subst hr
          obtain ⟨vs, h1, h2⟩ := results_list hM hH hT hrs hl'
          obtain ⟨v, hv, hvr⟩ := hT.2 _ _ ha
          rw [(slotK_spec hk).1] at hv
          have hg : tmps.getD a undef = v := by simp [Array.getD_eq_getD_getElem?, hv]
          cases hvr with | ptr _ _ lc ad hmu had =>
          subst had
          simp only [loadB] at hx
          split at hx
          · rename_i L ck hL
            obtain ⟨ii, d, z, e1, e2, e3, e4, e5, e6⟩ := tyI_spec hi
            rw [e5, e6] at hx
            obtain ⟨u, hu, hur⟩ := loadVar_sound hM (hH _ _ hL) e1 e2 hx hmu
            refine ⟨u :: vs, ?_, .cons _ _ _ _ hur h2⟩
            rw [List.mapM_cons]
            simp only [resM, Sem.run_bind, Sem.run_pure, Result.andThen_ok, hg, asAddr, hu, h1]
          · cases hx
        · cases hr
      · cases hr
    · cases hp

def tupledV (vs : List Value) : Value := if h : vs.toArray.size = 1 then vs.toArray[0] else .tuple vs.toArray
theorem tupled_rel {l : List AV} {vs : List Value} (h : VRels ρ μ l vs) : VRel ρ μ (tupled l) (tupledV vs) := by
  cases h with
  | nil => exact .tuple _ _ .nil
  | cons a l v vs h h' =>
    cases h' with
    | nil => exact h
    | cons b l v2 vs h5 h6 =>
      have : tupledV (v :: v2 :: vs) = .tuple (v :: v2 :: vs).toArray := by simp [tupledV]
      rw [this]
      exact .tuple _ _ (.cons _ _ _ _ h (.cons _ _ _ _ h5 h6))
theorem results_sound (hM : MRel P ρ w0 μ G nx.toNat w) (hH : HSub H G) {tm : T AV} {tmps : Array Value} (hT : TRel ρ μ nt tm tmps) {fn : Func} {res : List RV} {l : List AV} (hp : pRes P nt fn.results.toList = some res) (hr : resultsA H tm res = some l) :
    ∃ vs, (results fn tmps).run P w = .ok (tupledV vs) w ∧ VRels ρ μ l vs := by
  obtain ⟨vs, h1, h2⟩ := results_list hM hH hT hp hr
  have hfun : results fn tmps = (do
      let vs ← fn.results.mapM (resM tmps)
      pure (if h : vs.size = 1 then vs[0] else .tuple vs)) := by
    unfold results
    congr 1
  refine ⟨vs, ?_, h2⟩
  have hm : fn.results.mapM (resM tmps) = Functor.map List.toArray (fn.results.toList.mapM (resM tmps)) := by
    rw [← List.mapM_toArray]
  rw [hfun, hm]
  simp only [map_eq_pure_bind, bind_assoc, pure_bind, Sem.run_bind, h1, Result.andThen_ok, Sem.run_pure]
  rfl

end
end Go.Sx
/-
  SX: simulation: events, regions. No condition.
-/
namespace Go.Sx
open Go.RowKit

def Good (P : Program) (ρ : Nat → Int) (C : Cfg) (w0 : W0) (μ0 : Mu) (rest : List Frame) (m : Machine) : SR → Prop
  | .next am' => ∃ fr' cs' w', Steps P m (lone fr' (cs' ++ rest) w') ∧ Mach P ρ C.orc w0 μ0 am' fr' cs' w'
  | .alt l => ∃ am' ∈ l, ∃ fr' cs' w', Steps P m (lone fr' (cs' ++ rest) w') ∧ Mach P ρ C.orc w0 μ0 am' fr' cs' w'
  | .done f v h nx => ∃ fr' w' μ G u, Steps P m (lone fr' rest w') ∧ fr'.fn = f ∧ fr'.leaving P w' (.returned u) ∧ VRel ρ μ v u ∧ μ0.le μ ∧ MRel P ρ w0 μ G nx.toNat w' ∧ HSub h G
  | _ => True

section
variable {P : Program} {ρ : Nat → Int} {C : Cfg} {nt : Nat} {w0 : W0} {w : World} {μ0 μ : Mu} {G : Key → Option Blk} {H : T Blk} {nx : Key} {rest cs : List Frame} {fr : Frame} {af : AFr} {acs : List AFr} {K : List Item} {k : List AItem}

theorem Good.steps {m m' : Machine} {r : SR} (h : Steps P m m') (g : Good P ρ C w0 μ0 rest m' r) : Good P ρ C w0 μ0 rest m r := by
  cases r with
  | next am' => obtain ⟨fr', cs', w', h1, h2⟩ := g; exact ⟨fr', cs', w', h.trans h1, h2⟩
  | done f v hh nx => obtain ⟨fr', w', μ, G, u, h1, h2⟩ := g; exact ⟨fr', w', μ, G, u, h.trans h1, h2⟩
  | alt l => obtain ⟨am', hm, fr', cs', w', h1, h2⟩ := g; exact ⟨am', hm, fr', cs', w', h.trans h1, h2⟩
  | pan v hh nx => trivial
  | bad n m => trivial

theorem altM_mem {fr fr' : AFr} {cs : List AFr} {nx : Key} {v : AV} {h : T Blk} (hf : finishA v fr = some fr') : ∀ {l : List (AV × T Blk)}, (v, h) ∈ l → (⟨fr', cs, h, nx⟩ : AM) ∈ altM fr cs nx l
  | [], hm => by cases hm
  | (v', h') :: l, hm => by
    simp only [altM]
    rcases List.mem_cons.1 hm with e | hm
    · cases e; rw [hf]; simp
    · exact List.mem_cons_of_mem _ (altM_mem hf hm)
theorem finishA_any {fr fr' : AFr} {v : AV} (hf : finishA v fr = some fr') (u : AV) : ∃ fr2, finishA u fr = some fr2 := by
  unfold finishA at hf ⊢
  split at hf
  · exact ⟨_, by simp only [putT_eq]; rfl⟩
  · exact ⟨_, by simp only [putT_eq]; rfl⟩
  · exact ⟨_, rfl⟩
  · cases hf

theorem Base.todo (h : Base P ρ μ nt af fr) (t : T AV) (k : List AItem) (T : Array Value) (K : List Item) : Base P ρ μ nt { af with tm := t, todo := k } { fr with tmps := T, todo := K } :=
  ⟨h.fn, h.fnr, h.dfs, h.kind, h.rnd, h.rd⟩

theorem pk_plain {af : AFr} (h : IRels P μ nt af.todo K) : pk af = [] := by
  unfold pk
  split
  · rename_i i d p k' e
    rw [e] at h
    cases h with | cons _ _ _ _ h _ => cases h
  · rfl

theorem pk_lt : ∀ {acs : List AFr} {cs : List Frame}, SusAll P ρ C.orc μ G H nx acs cs → ∀ x ∈ pkAll acs, x < nx.toNat
  | [], [], _, x, hx => by cases hx
  | [], _ :: _, h, _, _ => h.elim
  | _ :: _, [], h, _, _ => h.elim
  | a :: acs, f :: cs, h, x, hx => by
    simp only [pkAll, List.mem_append] at hx
    rcases hx with hx | hx
    · cases h.1 with
      | wait nt hb h1 h2 h =>
        unfold pk at hx
        split at hx
        · rename_i i d p k' e
          rw [e] at h
          generalize f.todo = KK at h
          generalize f.tmps = TT at h
          generalize a.tm = tt at h
          cases h with
          | staged ops pl bf g i po ad os its items dsts pend k K tm tmps rest hpl hf hc hL hbi hd h hos hcov S =>
            obtain ⟨y, hy, e⟩ := List.mem_map.1 hx
            rw [← e]
            exact (S.pe y hy).2.2.2.2
        · cases hx
      | unw h hm =>
        cases h with
        | run nt hb h1 => exact absurd h1 hm
        | ret nt hb h1 h2 h3 h =>
          unfold pk at hx
          rcases h3 with h3 | ⟨k, h3⟩ <;> rw [h3] at hx <;> cases hx
        | pan nt hb v u r h1 h2 hv h3 h =>
          unfold pk at hx
          rw [h3] at hx; cases hx
    · exact pk_lt h.2 x hx

theorem SusAll.kept {μ' : Mu} {G' : Key → Option Blk} {H' : T Blk} {nx' : Key} (hm : μ.le μ') (hk : Kept H H' nx nx' μ μ' G G') (h : SusAll P ρ C.orc μ G H nx acs cs) : SusAll P ρ C.orc μ' G' H' nx' acs cs :=
  h.keep hm hk.n fun b _ hg hl => ⟨hk.m b hl, hk.g b hg hl, hk.h b hg hl⟩
theorem SusAll.keptE {E : List Nat} {μ' : Mu} {G' : Key → Option Blk} {H' : T Blk} {nx' : Key} (hm : μ.le μ') (hk : KeptE E H H' nx nx' μ μ' G G') (hE : ∀ x ∈ E, x ∉ pkAll acs) (h : SusAll P ρ C.orc μ G H nx acs cs) : SusAll P ρ C.orc μ' G' H' nx' acs cs :=
  h.keep hm hk.n fun b hb hg hl => hk.k b (fun he => hE _ he hb) hg hl

theorem mach_plain (h0 : μ0.le μ) (hM : MRel P ρ w0 μ G nx.toNat w) (hH : HSub H G) (hb : Base P ρ μ nt af fr) (h1 : af.mode = .run) (h2 : fr.mode = .run) (hk : IRels P μ nt af.todo fr.todo) (hT : TRel ρ μ nt af.tm fr.tmps)
    (hS : SusAll P ρ C.orc μ G H nx acs cs) (hn : (pkAll acs).Nodup) : Mach P ρ C.orc w0 μ0 ⟨af, acs, H, nx⟩ fr cs w :=
  ⟨μ, G, h0, hM, hH, .run nt hb h1 h2 (.plain _ _ _ _ hk hT), hS, by simp [pkAll, pk_plain hk, hn]⟩

/- a frame that waits goes on -/
theorem Sus.finish {c c' : AFr} {cf : Frame} (h : Sus P ρ C.orc μ G H nx c cf) {a : AV} {v : Value} (hv : VRel ρ μ a v) (hf : finishA a c = some c') : Cur P ρ C.orc μ G H nx c' (cf.finish v) ∧ pk c' = pk c := by
  cases h with
  | wait nt hb h1 h2 h =>
    obtain ⟨h3, h4, ⟨tm2, k2, h5⟩, ⟨T2, K2, h6⟩⟩ := h.finish rfl rfl rfl rfl hv hf
    refine ⟨?_, h4⟩
    rw [h6] at h3 ⊢
    subst h5
    exact .run nt (hb.todo _ _ _ _) h1 h2 h3
  | unw h hm =>
    cases h with
    | run nt hb h1 => exact absurd h1 hm
    | ret nt hb h1 h2 h3 h => rcases h3 with h3 | ⟨k, h3⟩ <;> simp [finishA, h3] at hf
    | pan nt hb v u r h1 h2 hv h3 h => simp [finishA, h3] at hf

noncomputable def frzIfA (raw : Bool) (l : List AV) (H : T Blk) : List AV × T Blk := bif raw then (l, H) else frzLA (frzA 8) l H
theorem frzIf_eq {R : Type} (raw : Bool) (l : List AV) (H : T Blk) (c : List AV → T Blk → R) : frzIf raw l H c = c (frzIfA raw l H).1 (frzIfA raw l H).2 := by
  cases raw
  · show frzL (frz 8) l H c = _
    rw [frzL_eq (frz_eq 8)]; rfl
  · rfl
theorem frzIfA_sound (raw : Bool) (hM : MRel P ρ w0 μ G nx.toNat w) (hH : HSub H G) {l : List AV} {us : List Value} (h : VRels ρ μ l us) : ∃ μ' G', FrzTo P ρ w0 w nx μ G H μ' G' (frzIfA raw l H).2 ∧ VRels ρ μ' (frzIfA raw l H).1 us := by
  cases raw
  · exact frzLA_sound (frzA_sound 8) l us μ G H hM hH h
  · exact ⟨μ, G, FrzTo.refl hM hH, h⟩

theorem enterA_spec (X : Ctx P ρ w0 C) (f : Nat) (args : List AV) (dfd : Bool) (bad : SR) (c : AFr → SR) : enterA C f args dfd bad c = bad ∨
    ∃ p, pFn P f = some p ∧ enterA C f args dfd bad c = c { fn := f, tm := paramsT args .z .nil, todo := [.code p.body], dfs := [], mode := .run, dfd, rnd := none, res := p.res } := by
  unfold enterA
  split
  · rename_i p hp
    exact .inr ⟨p, X.fns f p hp, by rw [paramsC_eq]⟩
  · exact .inl rfl

theorem run_yield {l : Nat} {L : Loop} {args : Array Value} (h : w.heap[l]? = some (.loop L)) (hs : args.size = L.params.size) :
    (Instr.yield l args).run P w = .ok (.round l L.fn ((L.params.zip args).foldl (fun tmps (x : Nat × Value) => tmps.setIfInBounds x.1 x.2) L.tmps) L.assign L.body) w := by
  simp [Instr.yield, Instr.getLoop, getObj, Sem.run, h, hs]

theorem loop_of (hM : MRel P ρ w0 μ G nx.toNat w) {b : Key} {st : LS} {pd : Option PCode} {fn : Nat} {tm : T AV} {res : List RV} {params : List Key} {as bd : PCode} {dfs : Key} (hb : G b = some (.loop st pd fn tm res params as bd dfs)) :
    ∃ l L nt ld, μ b = some l ∧ w.heap[l.c]? = some (.loop L) ∧ LSRel st L.state ∧ (∀ n, CRelO P n pd L.pending) ∧ L.fn = fn ∧ TRel ρ μ nt tm L.tmps ∧ KeysRel params L.params.toList ∧ (∀ k ∈ params, k.toNat < nt) ∧ CRel P nt as L.assign ∧ CRel P nt bd L.body ∧ μ dfs = some ld ∧ L.defers = ld.c ∧ FnRel P fn nt res := by
  obtain ⟨l, o, h1, h2, h3⟩ := hM.blk b _ hb
  cases h3 with
  | loop st pd fn nt tm res params as bd dfs ld l L e1 e2 e3 e4 e5 e5' e6 e7 e8 e9 e10 => exact ⟨l, L, nt, ld, h1, h2, e1, e2, e3, e4, e5, e5', e6, e7, e8, e9, e10⟩

theorem good_event (X : Ctx P ρ w0 C) {ops : Array Oper} {i : Nat} {rest' : List Nat} {o : Oper} {po : POper} {r : OR} {tm2 : T AV} (h0 : μ0.le μ) (hM : MRel P ρ w0 μ G nx.toNat w) (hH : HSub H G) (hb : Base P ρ μ nt af fr) (h1 : af.mode = .run) (hm : fr.mode = .run)
    (ht : fr.todo = .inRegion ops (i :: rest') :: K) (ho : ops[i]? = some o) (hpo : pOper P nt ops o = some po) (hw : Region.wanted o (yielded ops fr.tmps) = true)
    (hE : ERel P ρ μ nt o.op.operands.toList af.tm fr.eval) (ha : aOp C.orc po.op af.tm H nx = r) (hr : ¬ IsVB r)
    (hW : Wait P ρ C.orc μ G H nx nt af.todo af.tm fr.todo fr.tmps) (hS : SusAll P ρ C.orc μ G H nx acs cs) (hn : (pkAll (af :: acs)).Nodup) (hT2 : TRel ρ μ nt tm2 fr.tmps) :
    Good P ρ C w0 μ0 rest (lone fr (cs ++ rest) w) (eventA C r af { af with tm := tm2, todo := [] } acs H nx) := by
  obtain ⟨hop, hgu, hdst⟩ := pOper_spec hpo
  have hSus : Sus P ρ C.orc μ G H nx af fr := .wait nt hb h1 hm hW
  have hnp : (pkAll acs).Nodup := (List.nodup_append.1 hn).2.1
  cases r with
  | val a H' nx' => exact absurd (vb_val _ _ _) hr
  | bad n => exact absurd (vb_bad _) hr
  | call f l =>
    have hnd : fr.roundOf = none ∨ isDefer o.op = false := .inr (not_defer hop (by rw [ha]; intro f l e; cases e) (by rw [ha]; intro n e; cases e))
    simp only [eventA, frzIf_eq]
    have key : ∀ {fn : Func}, P.funcs[f]? = some fn → fn.body.isSome = true → fn.name ≠ "runtime.NumGoroutine" → ∃ args μ1 G1, step P (lone fr (cs ++ rest) w) = .next (lone (Frame.enter P f args .normal) (fr :: cs ++ rest) w) ∧
        FrzTo P ρ w0 w nx μ G H μ1 G1 (frzIfA (C.raw f) l H).2 ∧ VRels ρ μ1 (frzIfA (C.raw f) l H).1 args.toList := by
      intro fn f1 f2 f3
      obtain ⟨args, q1, q2⟩ := call_sound (w := w) hop hE ha f1 f2 f3
      obtain ⟨μ1, G1, x1, x2⟩ := frzIfA_sound (C.raw f) hM hH q2
      exact ⟨args, μ1, G1, st_enter (P := P) (cs := cs ++ rest) hm ht ho hw hnd q1, x1, x2⟩
    generalize frzIfA (C.raw f) l H = lh at key
    obtain ⟨l1, H1⟩ := lh
    simp only at key ⊢
    split
    · rename_i v H2 nx2 hsum
      split
      · rename_i af' hf
        have hso := X.sum f l1 H1 nx v H2 nx2 hsum
        obtain ⟨fn, f1, f2, f3⟩ := X.has f l1 H1 nx _ hsum
        obtain ⟨args, μ1, G1, hst, x1, x2⟩ := key f1 f2 f3
        obtain ⟨e, w', fr', ⟨u, μ', G', rfl, y2, y3, y4, y5, y6⟩, hcomes, hfn, hleave⟩ := hso args w μ1 G1 x1.M x1.hs x2 (fr :: cs ++ rest)
        have hS1 : SusAll P ρ C.orc μ1 G1 H1 nx (af :: acs) (fr :: cs) := SusAll.kept x1.le x1.kept ⟨hSus, hS⟩
        have hS2 : SusAll P ρ C.orc μ' G' H2 nx2 (af :: acs) (fr :: cs) := SusAll.kept y3 y6 hS1
        obtain ⟨hcur', hpk⟩ := hS2.1.finish y2 hf
        refine ⟨_, cs, w', Steps.trans (.head hst hcomes) (.one (step_leave_returned hleave)), μ', G', Mu.le_trans h0 (Mu.le_trans x1.le y3), y4, y5, hcur', hS2.2, ?_⟩
        show (pkAll (af' :: acs)).Nodup
        simp only [pkAll, hpk] at hn ⊢
        exact hn
      · trivial
    · rcases enterA_spec X f l1 false (.bad 40 ⟨af, acs, H1, nx⟩) (fun fr' => .next ⟨fr', af :: acs, H1, nx⟩) with e | ⟨p, hp, e⟩
      · rw [e]; trivial
      · rw [e]
        obtain ⟨fn, c, f1, f2, f3, f4, f5⟩ := pFn_spec hp
        obtain ⟨args, μ1, G1, hst, x1, x2⟩ := key f1 (by rw [f2]; rfl) f3
        refine ⟨_, fr :: cs, w, .one hst, μ1, G1, Mu.le_trans h0 x1.le, x1.M, x1.hs, cur_enter hp x2 false, SusAll.kept x1.le x1.kept ⟨hSus, hS⟩, ?_⟩
        show (pkAll (_ :: af :: acs)).Nodup
        simp only [pkAll, pk, List.nil_append]
        exact hn
  | yld key l =>
    have hnd : fr.roundOf = none ∨ isDefer o.op = false := .inr (not_defer hop (by rw [ha]; intro f l e; cases e) (by rw [ha]; intro n e; cases e))
    simp only [eventA]
    split
    · rename_i st pd fn tm res params as bd dfs hk
      rcases zipC_spec params l tm (SR.bad 41 ⟨af, acs, H, nx⟩) (fun tm => .next ⟨{ fn, tm, todo := [.code as, .beginRound, .code bd], dfs := [], mode := .run, dfd := false, rnd := some key, res }, af :: acs, H, nx⟩) with e | ⟨hlen, e⟩
      · rw [e]; trivial
      · rw [e]
        obtain ⟨args, lc, q1, q2, q3⟩ := yld_sound (w := w) hop hE ha
        obtain ⟨lc', L, ntl, ld, e0, e0', e1, e2, e3, e4, e5, e5', e6, e7, e8, e9, e10⟩ := loop_of hM (hH _ _ hk)
        rw [q1] at e0; cases e0
        have hsz : args.size = L.params.size := by
          have a1 := q3.length
          have a2 : (params.map Key.toNat).length = L.params.toList.length := by rw [e5]
          simp at a1 a2
          omega
        rw [run_yield e0' hsz] at q2
        have hst := st_round (P := P) (cs := cs ++ rest) hm ht ho hw hnd q2
        refine ⟨_, fr :: cs, w, .one hst, μ, G, h0, hM, hH, ?_, ⟨hSus, hS⟩, ?_⟩
        · refine .run ntl ⟨e3, e10, trivial, rfl, ⟨_, q1, rfl⟩, fun _ => rfl⟩ rfl rfl (.plain _ _ _ _ (.cons _ _ _ _ (.code _ _ e6) (.cons _ _ _ _ .beginRound (.cons _ _ _ _ (.code _ _ e7) .nil))) ?_)
          have := zipT_rel (ks := params) e5' hlen q3 e4
          have hl : (L.params.zip args).foldl (fun tmps (x : Nat × Value) => tmps.setIfInBounds x.1 x.2) L.tmps = ((params.map Key.toNat).zip args.toList).foldl (fun tmps (x : Nat × Value) => tmps.setIfInBounds x.1 x.2) L.tmps := by
            rw [e5, ← Array.foldl_toList, Array.toList_zip]
          show TRel ρ μ ntl (zipT params l tm) ((L.params.zip args).foldl (fun tmps (x : Nat × Value) => tmps.setIfInBounds x.1 x.2) L.tmps)
          rw [hl]; exact this
        · show (pkAll (_ :: af :: acs)).Nodup
          simp only [pkAll, pk, List.nil_append]
          exact hn
    · trivial
  | alt la =>
    have hnd : fr.roundOf = none ∨ isDefer o.op = false := .inr (not_defer hop (by rw [ha]; intro f l e; cases e) (by rw [ha]; intro n e; cases e))
    simp only [eventA]
    split
    · trivial
    · rename_i fr0 hf0
      obtain ⟨a, H', v, w', μ', G', hmem, q1, q2, q3, q4, q5, q6⟩ := alt_sound (w := w) hM hH hop hE ha
      obtain ⟨fr1, hf1⟩ := finishA_any hf0 a
      have hst := st_val (P := P) (cs := cs ++ rest) hm ht ho hw hnd q1
      have hS1 : SusAll P ρ C.orc μ' G' H' nx (af :: acs) (fr :: cs) := SusAll.kept q3 q6 ⟨hSus, hS⟩
      obtain ⟨hcur', hpk⟩ := hS1.1.finish q2 hf1
      refine ⟨⟨fr1, acs, H', nx⟩, altM_mem hf1 hmem, _, cs, w', .one hst, μ', G', Mu.le_trans h0 q3, q4, q5, hcur', hS1.2, ?_⟩
      show (pkAll (fr1 :: acs)).Nodup
      simp only [pkAll, hpk] at hn ⊢
      exact hn
  | pan a =>
    have hnd : fr.roundOf = none ∨ isDefer o.op = false := .inr (not_defer hop (by rw [ha]; intro f l e; cases e) (by rw [ha]; intro n e; cases e))
    obtain ⟨v, q1, q2⟩ := pan_sound (w := w) hop hE ha
    have hst := st_panic (P := P) (cs := cs ++ rest) hm ht ho hw hnd q1
    refine ⟨_, cs, w, .one hst, μ, G, h0, hM, hH, ?_, hS, ?_⟩
    · exact .pan nt ⟨hb.fn, hb.fnr, hb.dfs, hb.kind, hb.rnd, hb.rd⟩ a v false rfl rfl q2 rfl hT2
    · show (pkAll (_ :: acs)).Nodup
      simp only [pkAll, pk, List.nil_append]
      exact hnp
  | dfr f l =>
    simp only [eventA]
    split
    · rename_i hrn
      split
      · rename_i af' hf
        obtain ⟨c, ws, vs, q0, q1, q2, q3⟩ := dfr_sound (w := w) hop hE ha
        have hro : fr.roundOf = none := by
          have := hb.rnd
          rw [hrn] at this
          cases hh : fr.roundOf with
          | none => rfl
          | some x => rw [hh] at this; exact this.elim
        have hst := st_defer (P := P) (cs := cs ++ rest) hm ht ho hw (.inl hro) q2
        obtain ⟨h3, h4, ⟨t2, k2, h5⟩, ⟨T2, K2, h6⟩⟩ := hW.finish (fr := fr) rfl rfl rfl rfl (VRel.tuple (ρ := ρ) (μ := μ) [] #[] .nil) hf
        have hfin : ({ fr with defers := ⟨.fn (.func f) ws, vs⟩ :: fr.defers } : Frame).finish undef = { fr with defers := ⟨.fn (.func f) ws, vs⟩ :: fr.defers, tmps := T2, todo := K2 } := by
          have hf1 := finish_region ht ho undef
          have hf2 := finish_region (fr := { fr with defers := ⟨.fn (.func f) ws, vs⟩ :: fr.defers }) ht ho undef
          rw [hf2]
          have h6 : fr.finish undef = { fr with tmps := T2, todo := K2 } := h6
          rw [hf1] at h6
          have e1 := congrArg Frame.tmps h6
          have e2 := congrArg Frame.todo h6
          simp only at e1 e2
          rw [e1, e2]
        rw [hfin] at hst
        have h3 : Todo P ρ C.orc μ G H nx nt af'.todo af'.tm (fr.finish undef).todo (fr.finish undef).tmps := h3
        have h6 : fr.finish undef = { fr with tmps := T2, todo := K2 } := h6
        rw [h6] at h3
        refine ⟨_, cs, w, .one hst, μ, G, h0, hM, hH, ?_, hS, ?_⟩
        · subst h5
          exact .run nt ⟨hb.fn, hb.fnr, ⟨⟨ws, rfl, q3⟩, hb.dfs⟩, hb.kind, hb.rnd, hb.rd⟩ h1 hm h3
        · have : pk { af' with dfs := ADef.fn f l :: af'.dfs } = pk af := by rw [← h4]; rfl
          show (pkAll (_ :: acs)).Nodup
          simp only [pkAll, this]
          exact hn
      · trivial
    · trivial
  | recover =>
    simp only [eventA]
    split
    · rename_i c acs' hrn hdf
      have hro : fr.roundOf = none := by
        have := hb.rnd
        rw [hrn] at this
        cases hh : fr.roundOf with
        | none => rfl
        | some x => rw [hh] at this; exact this.elim
      have hkd : fr.kind = .deferred := by rw [hb.kind, hdf]; rfl
      have q1 := recover_sound (P := P) (w := w) (ev := fr.eval) hop ha
      cases cs with
      | nil => exact hS.elim
      | cons cf cs' =>
      split
      · rename_i v hcm
        split
        · rename_i af' hf
          cases hS.1 with
          | wait nt' hb' h1' => rw [h1'] at hcm; cases hcm
          | unw hcur hne =>
            cases hcur with
            | run nt' hb' h1' => rw [h1'] at hcm; cases hcm
            | ret nt' hb' h1' => rw [h1'] at hcm; cases hcm
            | pan nt' hb' v' u r' h1' h2' hv' h3' hT' =>
              rw [h1'] at hcm
              simp only [AMode.pan.injEq] at hcm
              obtain ⟨rfl, rfl⟩ := hcm
              have hrec : tryRecover fr (cf :: (cs' ++ rest)) = some (u, { cf with mode := .panicking [{ v := u, recovered := true }] } :: (cs' ++ rest)) := by
                simp [tryRecover, hkd, h2']
              have hst := st_recover_some (P := P) (cs := cf :: (cs' ++ rest)) hm ht ho hw hro q1 hrec
              obtain ⟨hcur', hpk⟩ := hSus.finish hv' hf
              refine ⟨_, { cf with mode := .panicking [{ v := u, recovered := true }] } :: cs', w, .one hst, μ, G, h0, hM, hH, hcur', ⟨.unw (.pan nt' ⟨hb'.fn, hb'.fnr, hb'.dfs, hb'.kind, hb'.rnd, hb'.rd⟩ v' u true rfl rfl hv' h3' hT') (by intro e; cases e), hS.2⟩, ?_⟩
              show (pkAll (_ :: _ :: acs')).Nodup
              simp only [pkAll, hpk] at hn ⊢
              exact hn
        · trivial
      · rename_i hcm
        split
        · rename_i af' hf
          cases hS.1 with
          | wait nt' hb' h1' => rw [h1'] at hcm; cases hcm
          | unw hcur hne =>
            have hrec : tryRecover fr (cf :: (cs' ++ rest)) = none := by
              cases hcur with
              | run nt' hb' h1' => rw [h1'] at hcm; cases hcm
              | ret nt' hb' h1' h2' => simp [tryRecover, hkd, h2']
              | pan nt' hb' v' u r' h1' => rw [h1'] at hcm; cases hcm
            have hst := st_recover_none (P := P) (cs := cf :: (cs' ++ rest)) hm ht ho hw hro q1 hrec
            obtain ⟨hcur', hpk⟩ := hSus.finish (.nili) hf
            refine ⟨_, cf :: cs', w, .one hst, μ, G, h0, hM, hH, hcur', hS, ?_⟩
            show (pkAll (_ :: _ :: acs')).Nodup
            simp only [pkAll, hpk] at hn ⊢
            exact hn
        · trivial
      · trivial
    · trivial

/- a row of operations -/
theorem good_ops (X : Ctx P ρ w0 C) {l : List POper} (h0 : μ0.le μ) (hM : MRel P ρ w0 μ G nx.toNat w) (hH : HSub H G) (hb : Base P ρ μ nt af fr) (h1 : af.mode = .run) (hm : fr.mode = .run)
    {ops : Array Oper} {rs : List Nat} (hp : pOpers P nt ops rs = some l) (ht : fr.todo = .inRegion ops rs :: K) (hk : IRels P μ nt k K) (hT : TRel ρ μ nt af.tm fr.tmps) (hS : SusAll P ρ C.orc μ G H nx acs cs) (hn : (pkAll acs).Nodup) :
    Good P ρ C w0 μ0 rest (lone fr (cs ++ rest) w) (match runOps C.orc l af.tm H nx with
      | .fin tm h nx => .next ⟨{ af with tm, todo := k }, acs, h, nx⟩
      | .ev r rest tm h nx => eventA C r { af with tm, todo := .ops rest :: k } { af with tm, todo := [] } acs h nx) := by
  have key := runOps_sound (P := P) (ρ := ρ) (orc := C.orc) (nt := nt) (w0 := w0) (cs := cs ++ rest) (K := K) (ops := ops) X.orc l rs fr w μ G H nx af.tm hp hM hH hT hm ht
  cases hres : runOps C.orc l af.tm H nx with
  | fin tm' h' nx' =>
    rw [hres] at key
    obtain ⟨tmps', w', μ', G', s1, s2, s3, s4, s5, s6⟩ := key
    exact ⟨_, cs, w', s1, mach_plain (Mu.le_trans h0 s2) s3 s4 ((hb.mono s2).todo _ _ _ _) h1 hm (hk.mono s2) s5 (hS.kept s2 s6) hn⟩
  | ev r l' tm' h' nx' =>
    rw [hres] at key
    rcases key with ⟨n, rfl⟩ | ⟨tmps', w', μ', G', i, rest', po, ll, o, s1, s2, s3, s4, s5, s6, rfl, s8, s9, s10, s11, s12, s13⟩
    · trivial
    · have hE := erel_of (P := P) (nt := nt) (ops := ops) (o := o) (fr := { fr with tmps := tmps', todo := .inRegion ops (i :: rest') :: K }) s3 (fun k a _ hg => s5.2 k a hg)
      refine Good.steps s1 ?_
      have hpk : (pkAll ({ af with tm := tm', todo := .ops (po :: ll) :: k } :: acs)).Nodup := by
        simp only [pkAll, pk, List.nil_append]; exact hn
      exact good_event (fr := { fr with tmps := tmps', todo := .inRegion ops (i :: rest') :: K }) (af := { af with tm := tm', todo := .ops (po :: ll) :: k }) X (Mu.le_trans h0 s2) s3 s4 ((hb.mono s2).todo _ _ _ _) h1 hm rfl s9 s10 s11 hE s12 s13
        (.ops po ll ops i rest' k K tm' tmps' s8 (hk.mono s2) s5) (hS.kept s2 s6) hpk s5

/- a region that draws its order -/
theorem good_staged (X : Ctx P ρ w0 C) {ops : Array Oper} {pl : List POper} {bf : List Nat} {g : Gh} {its : List IIt} {items : List SItem} {dsts : SD} {pend : List (Nat × Key × Blk)} {rs : List Nat} (h0 : μ0.le μ) (hM : MRel P ρ w0 μ G nx.toNat w) (hH : HSub H G) (hb : Base P ρ μ nt af fr) (h1 : af.mode = .run) (hm : fr.mode = .run)
    (hf : its.mapM (fillI pl) = some items) (hc : chkI ops pl bf g.L its = true) (hd : DstsOk ops dsts.ds ∧ adsOk bf dsts.ads = true) (ht : fr.todo = .inRegion ops rs :: K) (hk : IRels P μ nt k K)
    (S : SRel P ρ C.orc nt ops pl bf μ G H nx g (fun _ => False) pend af.tm fr.tmps rs) (hS : SusAll P ρ C.orc μ G H nx acs cs) (hn : (keysOf pend ++ pkAll acs).Nodup) :
    Good P ρ C w0 μ0 rest (lone fr (cs ++ rest) w) (match runSt C.orc dsts.ads items pend af.tm H nx with
      | .fin tm h nx => .next ⟨{ af with tm, todo := k }, acs, h, nx⟩
      | .ev r rest pend tm h nx => eraseC dsts.ds tm fun tm' => eventA C r { af with tm, todo := .staged rest dsts pend :: k } { af with tm := tm', todo := [] } acs h nx) := by
  have key := runSt_sound (P := P) (ρ := ρ) (orc := C.orc) (nt := nt) (w0 := w0) (cs := cs ++ rest) (K := K) (ops := ops) (pl := pl) (bf := bf) hd.2 X.orc its.length its items rs g fr w μ G H nx af.tm pend (Nat.le_refl _) hf hc hM hH S hm ht
  have hdis : ∀ x ∈ keysOf pend, x ∉ pkAll acs := fun x hx hx' => (List.nodup_append.1 hn).2.2 x hx x hx' rfl
  have hnp := (List.nodup_append.1 hn).2.1
  cases hres : runSt C.orc dsts.ads items pend af.tm H nx with
  | fin tm' h' nx' =>
    rw [hres] at key
    obtain ⟨tmps', w', μ', G', s1, s2, s3, s4, s5, s6⟩ := key
    exact ⟨_, cs, w', s1, mach_plain (Mu.le_trans h0 s2) s3 s4 ((hb.mono s2).todo _ _ _ _) h1 hm (hk.mono s2) s5 (hS.keptE s2 s6 hdis) hnp⟩
  | ev r items' pend' tm' h' nx' =>
    rw [hres] at key
    simp only [eraseC_eq]
    rcases key with ⟨n, rfl⟩ | ⟨tmps', w', μ', G', g', i, po, o, ad, os, its2, items2, rest', s1, s2, s3, s4, rfl, s6, s7, s8, s9, s10, s11, s12, S', s14, s15, s16, s17, s18, s19, s20⟩
    · trivial
    · have hsl := S'.slotsHeavy s9 s10 s14
      have hE := erel_of (P := P) (nt := nt) (ops := ops) (o := o) (fr := { fr with tmps := tmps', todo := .inRegion ops (i :: rest') :: K }) s3 hsl
      refine Good.steps s1 ?_
      have hpk : (pkAll ({ af with tm := tm', todo := .staged (.H i po ad :: .R os :: items2) dsts pend' :: k } :: acs)).Nodup := by
        simp only [pkAll, pk]
        refine List.nodup_append.2 ⟨S'.nk, hnp, ?_⟩
        rintro x hx y hy rfl
        rcases s20 x hx with h | h
        · exact hdis x h hy
        · exact absurd (pk_lt hS x hy) (by omega)
      exact good_event (fr := { fr with tmps := tmps', todo := .inRegion ops (i :: rest') :: K }) (af := { af with tm := tm', todo := .staged (.H i po ad :: .R os :: items2) dsts pend' :: k }) X (Mu.le_trans h0 s2) s3 s4 ((hb.mono s2).todo _ _ _ _) h1 hm rfl s14 s15 s16 hE s17 s18
        (.staged ops pl bf g' i po ad os its2 items2 dsts pend' k K tm' tmps' rest' s6 s7 s8 s9 s10 hd (hk.mono s2) s11 s12 S') (hS.keptE s2 s19 hdis) hpk (S'.erase hd.1)
end
end Go.Sx
/-
  SX: simulation: one step of the machine, and its whole run. No condition.
-/
namespace Go.Sx
open Go.RowKit

section
variable {P : Program} {nt : Nat} {ops : Array Oper}

theorem fillI_iOf {pl : List POper} {x : IIt} {y : SItem} (h : fillI pl x = some y) : iOf y = x := by
  cases x with
  | L i => obtain ⟨a, _, rfl⟩ := map_some h; rfl
  | A i => obtain ⟨a, _, rfl⟩ := map_some h; rfl
  | H i l => obtain ⟨a, _, rfl⟩ := map_some h; rfl
  | R os =>
    obtain ⟨l, hl, rfl⟩ := map_some h
    show IIt.R (l.map (·.1)) = IIt.R os
    congr 1
    induction os generalizing l with
    | nil => simp at hl; subst hl; rfl
    | cons i os ih =>
      obtain ⟨b, r, e1, e2, rfl⟩ := mapM_cons_some hl
      obtain ⟨o, _, rfl⟩ := map_some e1
      simp [ih r e2 (by simp [fillI, e2])]
theorem fill_map {pl : List POper} : ∀ {its : List IIt} {items : List SItem}, its.mapM (fillI pl) = some items → items.map iOf = its
  | [], items, h => by simp at h; subst h; rfl
  | x :: its, items, h => by
    obtain ⟨y, r, e1, e2, rfl⟩ := mapM_cons_some h
    simp [fillI_iOf e1, fill_map e2]

theorem dstsOf_mem : ∀ {pl : List POper} {po : POper} {d : Key}, po ∈ pl → po.dst = some d → d ∈ dstsOf pl
  | [], _, _, h, _ => by cases h
  | o :: l, po, d, h, hd => by
    rcases List.mem_cons.1 h with e | e
    · subst e; simp [dstsOf, hd]
    · have := dstsOf_mem e hd
      simp only [dstsOf]
      split
      · exact List.mem_cons_of_mem _ this
      · exact this

theorem pRegion_false {pc : PCode} (h : pRegion P nt ops false = some pc) : ∃ l, pOpers P nt ops (List.range ops.size) = some l ∧ pc = .ops l := by
  unfold pRegion at h
  split at h
  · cases h
  · rename_i l hl
    simp only [cond_false, Option.some.injEq] at h
    exact ⟨l, hl, h.symm⟩
theorem pRegion_true {pc : PCode} (h : pRegion P nt ops true = some pc) : ∃ pl its items ads, pc = .staged items ⟨dstsOf pl, ads⟩ ∧ Reg P nt ops pl (befores ops) ∧ its.mapM (fillI pl) = some items ∧ chkI ops pl (befores ops) 0 its = true ∧ DstsOk ops (dstsOf pl) ∧ adsOk (befores ops) ads = true := by
  unfold pRegion at h
  split at h
  · cases h
  · rename_i l hl
    simp only [cond_true] at h
    split at h
    · rename_i st hst
      split at h
      · rename_i st' hst'
        cases hok : (stOk ops l (befores ops) (st'.map iOf) && adsOk (befores ops) (adsFrom (l.zip (befores ops)) (l.zip (befores ops)) 0)) with
        | false => rw [hok] at h; cases h
        | true =>
          rw [hok] at h
          simp only [cond_true, Option.some.injEq] at h
          simp only [stOk, Bool.and_eq_true] at hok
          obtain ⟨hok, hads⟩ := hok
          have hreg : Reg P nt ops l (befores ops) := ⟨hl, hok.1.1, hok.1.2⟩
          refine ⟨l, st'.map iOf, st', _, h.symm, hreg, by rw [fill_map hst']; exact hst', hok.2, ?_, hads⟩
          intro j t hj
          obtain ⟨o, po, ho, hpo, hplj⟩ := hreg.at (dst_lt hj)
          obtain ⟨_, _, hd⟩ := pOper_spec hpo
          have hjd : o.dst = some t := by simpa [dstO, ho] using hj
          rcases hd with ⟨e, _⟩ | ⟨k, e1, e2, _⟩
          · rw [e] at hjd; cases hjd
          · rw [hjd] at e1
            simp only [Option.some.injEq] at e1
            exact ⟨k, dstsOf_mem (List.mem_of_getElem? hplj) e2, e1.symm⟩
      · cases h
    · cases h
end

section
variable {P : Program} {ρ : Nat → Int} {C : Cfg} {nt : Nat} {w0 : W0} {w : World} {μ0 μ : Mu} {G : Key → Option Blk} {H : T Blk} {nx : Key} {rest cs : List Frame} {fr : Frame} {af : AFr} {acs : List AFr} {K : List Item} {k : List AItem}

theorem SRel.init {ops : Array Oper} {pl : List POper} {bf : List Nat} (R : Reg P nt ops pl bf) {tm : T AV} {tmps : Array Value} (hT : TRel ρ μ nt tm tmps) {rs : List Nat} (hv : VOrd ops (fun _ => false) rs) :
    SRel P ρ C.orc nt ops pl bf μ G H nx { L := 0, D := fun _ => false, a0 := fun k => T.get k tm, val := fun _ => none } (fun _ => False) [] tm tmps rs := by
  refine ⟨R, hv, ?_, ?_, ?_, ?_, ?_, ?_, hT.1, ?_, ?_, ?_, ?_, ?_, ?_⟩
  · intro i o h; cases h
  · intro i h; cases h
  · intro i h; rw [show hasB 0 i = false from hasB_zero i] at h; cases h
  · intro i h; rw [show hasB 0 i = false from hasB_zero i] at h; cases h
  · intro k j h; rw [show hasB 0 j = false from hasB_zero j] at h; cases h
  · intro k _; rfl
  · intro k j a h; cases h
  · intro k a _ h; exact hT.2 k a h
  · intro i h; rw [show hasB 0 i = false from hasB_zero i] at h; cases h
  · intro x h; cases h
  · exact List.nodup_nil
  · exact List.nodup_nil

theorem eval_of (hM : MRel P ρ w0 μ G nx.toNat w) {x : Operand} {px : PX} {a : AV} (hp : pX P nt x = some px) (ha : px.at af.tm = some a) (hT : TRel ρ μ nt af.tm fr.tmps) : VRel ρ μ a (fr.eval x) :=
  pX_eval hM hp ha fun t k _ hk hg => by rw [← hk]; exact hT.2 k a hg

/- a loop's record is written anew -/
theorem loop_put (hM : MRel P ρ w0 μ G nx.toNat w) (hH : HSub H G) {b : Key} {st st' : LS} {pd pd' : Option PCode} {fn : Nat} {tm : T AV} {res : List RV} {params : List Key} {as bd : PCode} {dfs : Key} (hb : T.get b H = some (.loop st pd fn tm res params as bd dfs))
    {l : Loc} (hl : μ b = some l) {L : Loop} (hL : w.heap[l.c]? = some (.loop L)) {s : LoopState} {pc : Option Code} (hs : LSRel st' s) (hpd : (∀ n, CRelO P n pd L.pending) → ∀ n, CRelO P n pd' pc) :
    let w' := { w with heap := w.heap.setIfInBounds l.c (.loop { L with state := s, pending := pc }) }
    let B' := Blk.loop st' pd' fn tm res params as bd dfs
    ∃ μ' G', μ.le μ' ∧ MRel P ρ w0 μ' G' nx.toNat w' ∧ HSub (T.set b (some B') H) G' ∧ Kept H (T.set b (some B') H) nx nx μ μ' G G' := by
  intro w' B'
  have hg := hH _ _ hb
  obtain ⟨l', L', ntl, ld, e0, e0', e1, e2, e3, e4, e5, e5', e6, e7, e8, e9, e10⟩ := loop_of hM hg
  rw [hl] at e0; cases e0
  rw [hL] at e0'; cases e0'
  have hcs : l.c < w.heap.size := hM.bnd b l hl
  have hown : w0.heap.size ≤ l.c := (hM.own b _ l hg hl).resolve_left (by simp [Blk.ro])
  have hle : μ.le (μ.put b l) := Mu.le_put (.inr hl)
  obtain ⟨m1, m2⟩ := hM.put (w' := w') b B' l (.loop { L with state := s, pending := pc }) (nx' := nx.toNat) (.inr hl)
    ⟨rfl, rfl, rfl, by simp [w'], fun j hj _ => by show (w.heap.setIfInBounds l.c _)[j]? = _; rw [Array.getElem?_setIfInBounds_ne (Ne.symm hj)], Nat.le_refl _⟩
    (by show (w.heap.setIfInBounds l.c _)[l.c]? = _; simp [hcs])
    (.loop st' pd' fn ntl tm res params as bd dfs ld l _ hs (hpd e2) e3 (e4.mono hle) e5 e5' e6 e7 (hle.l _ _ e8) e9 e10)
    (fun b' B' l' g m' ne => hM.sep b' b B' _ l' l g hg m' hl ne) hown (Nat.le_refl _) (hM.new b l hl) (hM.lo0 hg hl rfl)
  exact ⟨_, _, m1, m2, hH.set b (some B'), keeps_upd hb hl _ _⟩

theorem fnrel_nt {fn nt nt' : Nat} {res res' : List RV} (h : FnRel P fn nt res) (h' : FnRel P fn nt' res') : nt = nt' := by
  obtain ⟨f1, g1, g2, _⟩ := h.ex
  obtain ⟨f2, g3, g4, _⟩ := h'.ex
  rw [g1] at g3; cases g3
  rw [← g2, ← g4]

/- leaving: what the model does -/
inductive Leav (P : Program) (nt : Nat) (fr : Frame) : Option PCode → Option Code → Prop
  | fin (h : fr.todo = []) : Leav P nt fr none none
  | ret (K : List Item) (h : fr.todo = .code .ret :: K) : Leav P nt fr (some .ret) (some .ret)
  | exit (id : Nat) (K : List Item) (h : fr.todo = .code (.exit id) :: K) (he : exitTo id K = none) : Leav P nt fr (some (.exit id)) (some (.exit id))

theorem run_endRound {l : Nat} {L : Loop} (h : w.heap[l]? = some (.loop L)) (j : Option Code) : (Instr.endRound l j).run P w = .ok (.bool j.isNone) { w with heap := w.heap.setIfInBounds l (.loop { L with state := if j.isNone then .ready else .done, pending := j }) } := by
  simp [Instr.endRound, Instr.getLoop, getObj, setObj, Sem.run, h]
theorem run_beginRound {l : Nat} {L : Loop} (h : w.heap[l]? = some (.loop L)) (hs : L.state = .ready) : (Instr.beginRound l).run P w = .ok () { w with heap := w.heap.setIfInBounds l (.loop { L with state := .busy, pending := L.pending }) } := by
  simp [Instr.beginRound, Instr.getLoop, getObj, setObj, Sem.run, h, hs]
theorem run_endLoop {l : Nat} {L : Loop} (h : w.heap[l]? = some (.loop L)) (hs : L.state ≠ .busy) : (Instr.endLoop l).run P w = .ok L.pending { w with heap := w.heap.setIfInBounds l (.loop { L with state := .exhausted, pending := L.pending }) } := by
  simp [Instr.endLoop, Instr.getLoop, getObj, setObj, Sem.run, h, hs]

theorem good_leave (X : Ctx P ρ w0 C) {j : Option PCode} {jc : Option Code} (hj : Leav P nt fr j jc) (h0 : μ0.le μ) (hM : MRel P ρ w0 μ G nx.toNat w) (hH : HSub H G) (hb : Base P ρ μ nt af fr) (h1 : af.mode = .run) (hm : fr.mode = .run)
    (hk : af.todo = [] ∨ (∃ k, af.todo = .code .ret :: k) ∨ ∃ id k, af.todo = .code (.exit id) :: k) (hjr : j = some .ret → ∃ k, af.todo = .code .ret :: k) (hjn : j = none → af.todo = []) (hT : TRel ρ μ nt af.tm fr.tmps) (hS : SusAll P ρ C.orc μ G H nx acs cs) (hn : (pkAll acs).Nodup) :
    Good P ρ C w0 μ0 rest (lone fr (cs ++ rest) w) (leaveA j af acs H nx) := by
  unfold leaveA
  split
  · rename_i hrn
    have hro : fr.roundOf = none := by
      have := hb.rnd
      rw [hrn] at this
      cases hh : fr.roundOf with
      | none => rfl
      | some x => rw [hh] at this; exact this.elim
    cases hj with
    | fin ht =>
      refine ⟨_, cs, w, .one (st_end hm ht hro), μ, G, h0, hM, hH, .ret nt ⟨hb.fn, hb.fnr, hb.dfs, hb.kind, hb.rnd, hb.rd⟩ rfl rfl (.inl (hjn rfl)) hT, hS, ?_⟩
      show (pkAll (_ :: acs)).Nodup
      simp only [pkAll, pk, hjn rfl, List.nil_append]; exact hn
    | ret KK ht =>
      obtain ⟨kk, hkk⟩ := hjr rfl
      refine ⟨_, cs, w, .one (st_ret hm ht hro), μ, G, h0, hM, hH, .ret nt ⟨hb.fn, hb.fnr, hb.dfs, hb.kind, hb.rnd, hb.rd⟩ rfl rfl (.inr ⟨kk, hkk⟩) hT, hS, ?_⟩
      show (pkAll (_ :: acs)).Nodup
      simp only [pkAll, pk, hkk, List.nil_append]; exact hn
    | exit id KK ht he => trivial
  · rename_i key hrn
    cases acs with
    | nil => trivial
    | cons c acs =>
    cases cs with
    | nil => exact hS.elim
    | cons cf cs =>
    have hdf : af.dfd = false := hb.rd (by rw [hrn]; intro e; cases e)
    have hkn : fr.kind = .normal := by rw [hb.kind, hdf]; rfl
    have hro : ∃ lc, μ key = some lc ∧ fr.roundOf = some lc.c := by
      have := hb.rnd
      rw [hrn] at this
      cases hh : fr.roundOf with
      | none => rw [hh] at this; exact this.elim
      | some x => rw [hh] at this; obtain ⟨lc, e1, e2⟩ := this; exact ⟨lc, e1, by rw [e2]⟩
    obtain ⟨lc, hmu, hro⟩ := hro
    simp only
    split
    · rename_i st pd fn tm res params as bd dfs hbl
      simp only [T.setC_eq]
      obtain ⟨lc', L, ntl, ld, e0, e0', e1, e2, e3, e4, e5, e5', e6, e7, e8, e9, e10⟩ := loop_of hM (hH _ _ hbl)
      rw [hmu] at e0; cases e0
      split
      · rename_i c' hf
        have hpd : (∀ n, CRelO P n pd L.pending) → ∀ n, CRelO P n j jc := by
          intro _ nt'
          cases hj with
          | fin ht => trivial
          | ret KK ht => exact (rfl : pCode P nt' .ret = some .ret)
          | exit id KK ht he => exact (rfl : pCode P nt' (.exit id) = some (.exit id))
        have hsr : LSRel (match (generalizing := false) j with | none => LS.ready | some _ => LS.done) (if jc.isNone then .ready else .done) := by
          cases hj <;> trivial
        obtain ⟨μ', G', g1, g2, g3, g4⟩ := loop_put hM hH hbl hmu e0' hsr hpd
        have hrun := run_endRound (P := P) e0' jc
        have hst : step P (lone fr (cf :: cs ++ rest) w) = .next (lone (cf.finish (.bool jc.isNone)) (cs ++ rest) { w with heap := w.heap.setIfInBounds lc.c (.loop { L with state := if jc.isNone then .ready else .done, pending := jc }) }) := by
          cases hj with
          | fin ht => exact st_leave_round hm ht hro hkn hrun
          | ret KK ht => exact st_ret_round hm ht hro hkn hrun
          | exit id KK ht he => exact st_exit_round hm ht he hro hkn hrun
        have hS' := hS.kept g1 g4
        have hbv : VRel ρ μ' (.bool (match (generalizing := false) j with | none => true | some _ => false)) (.bool jc.isNone) := by
          cases hj <;> exact .bool _
        obtain ⟨q1, q2⟩ := hS'.1.finish hbv hf
        refine ⟨_, cs, _, .one hst, μ', G', Mu.le_trans h0 g1, g2, g3, q1, hS'.2, ?_⟩
        show (pkAll (c' :: acs)).Nodup
        simp only [pkAll, q2] at hn ⊢
        exact hn
      · trivial
    · trivial

theorem run_enterLoop {fn : FuncId} {tmps : Array Value} {params : Array Tmp} {as bd : Code} : (Instr.enterLoop fn tmps params as bd none).run P w =
    .ok (w.heap.size + 1, [⟨.collected w.heap.size, #[]⟩]) ((w.alloc (.deferred (some []))).alloc (.loop { state := .ready, pending := none, fn, tmps, params, assign := as, body := bd, defers := w.heap.size })) := by
  simp [Instr.enterLoop, newObj, Sem.run]

theorem mapM_slotK {nt : Nat} : ∀ {l : List Nat} {ks : List Key}, l.mapM (slotK nt) = some ks → KeysRel ks l ∧ ∀ k ∈ ks, k.toNat < nt
  | [], ks, h => by simp at h; subst h; exact ⟨rfl, fun _ h => by cases h⟩
  | t :: l, ks, h => by
    obtain ⟨k, r, e1, e2, rfl⟩ := mapM_cons_some h
    obtain ⟨h1, h2⟩ := mapM_slotK e2
    obtain ⟨h3, h4⟩ := slotK_spec e1
    refine ⟨?_, fun q hq => ?_⟩
    · show (k :: r).map Key.toNat = t :: l
      rw [List.map_cons, h3, h1]
    · rcases List.mem_cons.1 hq with e | e
      · rw [e, h3]; exact h4
      · exact h2 q e

theorem good_code (X : Ctx P ρ w0 C) {pc : PCode} {c : Code} (hc : pCode P nt c = some pc) (h0 : μ0.le μ) (hM : MRel P ρ w0 μ G nx.toNat w) (hH : HSub H G) (hb : Base P ρ μ nt af fr) (h1 : af.mode = .run) (hm : fr.mode = .run)
    (hat : af.todo = .code pc :: k) (ht : fr.todo = .code c :: K) (hk : IRels P μ nt k K) (hT : TRel ρ μ nt af.tm fr.tmps) (hS : SusAll P ρ C.orc μ G H nx acs cs) (hn : (pkAll acs).Nodup) :
    Good P ρ C w0 μ0 rest (lone fr (cs ++ rest) w) (stepRun C af acs H nx) := by
  have go : ∀ (k' : List AItem) (K' : List Item), IRels P μ nt k' K' → step P (lone fr (cs ++ rest) w) = .next (lone { fr with todo := K' } (cs ++ rest) w) → Good P ρ C w0 μ0 rest (lone fr (cs ++ rest) w) (.next ⟨{ af with todo := k' }, acs, H, nx⟩) := by
    intro k' K' hk' hst
    exact ⟨_, cs, w, .one hst, mach_plain h0 hM hH (hb.todo af.tm k' fr.tmps K') h1 hm hk' hT hS hn⟩
  unfold stepRun
  rw [hat]
  cases c with
  | skip =>
    simp only [pCode, Option.some.injEq] at hc; subst hc
    exact go _ _ hk (st_skip hm ht)
  | region id ops draw =>
    simp only [pCode] at hc
    cases draw with
    | false =>
      obtain ⟨l, hl, rfl⟩ := pRegion_false hc
      exact go _ _ (.cons _ _ _ _ (.ops _ _ _ hl) hk) (st_region hm ht)
    | true =>
      obtain ⟨pl, its, items, ads, rfl, hreg, hf, hchk, hd, hads⟩ := pRegion_true hc
      obtain ⟨t, hst⟩ := st_draw (P := P) (cs := cs ++ rest) (w := w) hm ht
      rw [X.mix] at hst
      have hv := schedule_valid hreg.down t
      refine ⟨_, cs, _, .one hst, μ, G, h0, hM.drawn _ (Nat.le_succ _), hH, .run nt (hb.todo af.tm _ fr.tmps _) h1 hm (.ready ops pl _ _ its items _ [] k K _ _ _ hf hchk ⟨hd, hads⟩ hk (SRel.init hreg hT hv)), hS, ?_⟩
      show (pkAll (_ :: acs)).Nodup
      simp only [pkAll, pk, List.map_nil, List.nil_append]; exact hn
  | seq a b =>
    simp only [pCode] at hc
    split at hc
    · rename_i a' b' ha hb'
      simp only [Option.some.injEq] at hc; subst hc
      exact go _ _ (.cons _ _ _ _ (.code _ _ ha) (.cons _ _ _ _ (.code _ _ hb') hk)) (st_seq hm ht)
    · cases hc
  | cond x a b =>
    simp only [pCode] at hc
    split at hc
    · rename_i x' a' b' hx ha hb'
      simp only [Option.some.injEq] at hc; subst hc
      simp only
      split
      · rename_i hxa
        have hv := eval_of hM hx hxa hT
        have he : fr.eval x = .bool true := by generalize fr.eval x = u at hv; cases hv; rfl
        exact go _ _ (.cons _ _ _ _ (.code _ _ ha) hk) (st_cond hm ht he)
      · rename_i hxa
        have hv := eval_of hM hx hxa hT
        have he : fr.eval x = .bool false := by generalize fr.eval x = u at hv; cases hv; rfl
        exact go _ _ (.cons _ _ _ _ (.code _ _ hb') hk) (st_cond hm ht he)
      · trivial
    · cases hc
  | block id a =>
    simp only [pCode] at hc
    split at hc
    · rename_i a' ha
      simp only [Option.some.injEq] at hc; subst hc
      exact go _ _ (.cons _ _ _ _ (.code _ _ ha) (.cons _ _ _ _ (.inBlock _) hk)) (st_block hm ht)
    · cases hc
  | loop a =>
    simp only [pCode] at hc
    split at hc
    · rename_i a' ha
      simp only [Option.some.injEq] at hc; subst hc
      exact go _ _ (.cons _ _ _ _ (.code _ _ ha) (.cons _ _ _ _ (.inLoop _ _ ha) hk)) (st_loop hm ht)
    · cases hc
  | rangeFunc f params a b =>
    simp only [pCode] at hc
    split at hc
    · rename_i f' ps a' b' hf hps ha hb'
      simp only [Option.some.injEq] at hc; subst hc
      simp only
      split
      · rename_i g first cap hrn hfa
        simp only [T.setC_eq]
        rcases enterA_spec X g (first ++ .yld nx.succ :: cap) false (.bad 61 ⟨af, acs, T.set nx.succ (some (.loop .ready none af.fn af.tm af.res ps a' b' nx)) (T.set nx (some (.dfs false)) H), nx⟩)
          (fun fr' => .next ⟨fr', { af with todo := .inRF nx.succ :: k, dfs := .coll nx :: af.dfs } :: acs, T.set nx.succ (some (.loop .ready none af.fn af.tm af.res ps a' b' nx)) (T.set nx (some (.dfs false)) H), nx.succ.succ⟩) with e | ⟨p, hp, e⟩
        · rw [e]; trivial
        · rw [e]
          have hro : fr.roundOf = none := by
            have := hb.rnd
            rw [hrn] at this
            cases hh : fr.roundOf with
            | none => rfl
            | some x => rw [hh] at this; exact this.elim
          obtain ⟨fn, c, f1, f2, f3, f4, f5⟩ := pFn_spec hp
          have hv := eval_of hM hf hfa hT
          obtain ⟨vs, ws, ev, hv1, hv2⟩ := fn_of hv
          have hs1 := Key.toNat_succ nx
          have hs2 := Key.toNat_succ nx.succ
          obtain ⟨m1, M1⟩ := hM.alloc nx (.dfs false) (.deferred (some [])) 0 (nx' := nx.succ.toNat) hM.nx_none (.dfs false _) (by omega) (by omega)
          have hu1 : (μ.put nx ⟨w.heap.size, 0, 0⟩) nx = some ⟨w.heap.size, 0, 0⟩ := Mu.put_same _ _ _
          have hsz : (w.alloc (.deferred (some []))).heap.size = w.heap.size + 1 := by simp
          obtain ⟨hkr, hkl⟩ := mapM_slotK hps
          have hn1 : (μ.put nx ⟨w.heap.size, 0, 0⟩) nx.succ = none := M1.nx_none
          have hmono : Mu.le (μ.put nx ⟨w.heap.size, 0, 0⟩) ((μ.put nx ⟨w.heap.size, 0, 0⟩).put nx.succ ⟨(w.alloc (.deferred (some []))).heap.size, 0, 0⟩) := Mu.le_put (.inl hn1)
          obtain ⟨m2, M2⟩ := M1.alloc nx.succ (.loop .ready none af.fn af.tm af.res ps a' b' nx) (.loop { state := .ready, pending := none, fn := fr.fn, tmps := fr.tmps, params, assign := a, body := b, defers := w.heap.size }) 0 (nx' := nx.succ.succ.toNat) hn1
            (.loop .ready none af.fn nt af.tm af.res ps a' b' nx ⟨w.heap.size, 0, 0⟩ _ _ trivial (fun _ => trivial) hb.fn (hT.mono (Mu.le_trans m1 hmono)) hkr hkl ha hb' (hmono.l _ _ hu1) rfl hb.fnr) (by omega) (by omega)
          have hK : Kept H (T.set nx.succ (some (.loop .ready none af.fn af.tm af.res ps a' b' nx)) (T.set nx (some (.dfs false)) H)) nx nx.succ.succ μ _ G _ := (keeps_set (H := H) (nx := nx) (μ := μ) (G := G) ⟨w.heap.size, 0, 0⟩ (some (.dfs false)) (some (.dfs false))).trans
            (keeps_set (nx := nx.succ) ⟨(w.alloc (.deferred (some []))).heap.size, 0, 0⟩ (some (.loop .ready none af.fn af.tm af.res ps a' b' nx)) (some (.loop .ready none af.fn af.tm af.res ps a' b' nx)))
          have hle := Mu.le_trans m1 m2
          have hst := st_rangeFunc (P := P) (cs := cs ++ rest) (w := w) hm ht hro run_enterLoop ev f1 (by rw [f2]; rfl) f3
          have hu2 : ((μ.put nx ⟨w.heap.size, 0, 0⟩).put nx.succ ⟨(w.alloc (.deferred (some []))).heap.size, 0, 0⟩) nx.succ = some ⟨(w.alloc (.deferred (some []))).heap.size, 0, 0⟩ := Mu.put_same _ _ _
          refine ⟨_, { fr with todo := .inRangeFunc (w.heap.size + 1) :: K, defers := [⟨.collected w.heap.size, #[]⟩] ++ fr.defers } :: cs, _, .one hst, _, _, Mu.le_trans h0 hle, M2, (hH.set nx _).set nx.succ _, cur_enter hp ?_ false, ⟨?_, hS.kept hle hK⟩, ?_⟩
          · have hy : VRel ρ ((μ.put nx ⟨w.heap.size, 0, 0⟩).put nx.succ ⟨(w.alloc (.deferred (some []))).heap.size, 0, 0⟩) (.yld nx.succ) (.func (.yield (w.heap.size + 1)) #[] #[]) := .yld _ _ _ hu2 hsz.symm
            have := (hv1.mono hle).append (VRels.cons _ _ _ _ hy (hv2.mono hle))
            simpa using this
          · refine .wait nt ⟨hb.fn, hb.fnr, ⟨⟨_, m2.l _ _ hu1, rfl⟩, hb.dfs.mono hle⟩, hb.kind, ?_, hb.rd⟩ h1 hm ?_
            · have := hb.rnd
              rw [hrn, hro] at this
              show RRel _ af.rnd fr.roundOf
              rw [hrn, hro]; trivial
            · have := Wait.rf (P := P) (ρ := ρ) (orc := C.orc) (nt := nt) (G := upd (upd G nx (some (Blk.dfs false))) nx.succ (some (.loop .ready none af.fn af.tm af.res ps a' b' nx))) (H := T.set nx.succ (some (.loop .ready none af.fn af.tm af.res ps a' b' nx)) (T.set nx (some (.dfs false)) H)) (nx := nx.succ.succ) nx.succ _ k K af.tm fr.tmps hu2 (hk.mono hle) (hT.mono hle)
              simp only [hsz] at this ⊢
              exact this
          · show (pkAll (_ :: _ :: acs)).Nodup
            simp only [pkAll, pk, List.nil_append]; exact hn
      · trivial
    · cases hc
  | exit id =>
    simp only [pCode, Option.some.injEq] at hc; subst hc
    obtain ⟨x1, x2⟩ := exitTo_rel (id := id) hk
    simp only
    split
    · rename_i k' hk'
      obtain ⟨K', e1, e2⟩ := x1 k' hk'
      exact go _ _ e2 (st_exit hm ht e1)
    · rename_i hk'
      exact good_leave X (.exit id K ht (x2 hk')) h0 hM hH hb h1 hm (.inr (.inr ⟨id, k, hat⟩)) (by intro e; cases e) (by intro e; cases e) hT hS hn
  | ret =>
    simp only [pCode, Option.some.injEq] at hc; subst hc
    exact good_leave X (.ret K ht) h0 hM hH hb h1 hm (.inr (.inl ⟨k, hat⟩)) (fun _ => ⟨k, hat⟩) (by intro e; cases e) hT hS hn
  | scope a => simp [pCode] at hc
  | label l => simp [pCode] at hc
  | goto l => simp [pCode] at hc
  | refuse s => simp [pCode] at hc
end
end Go.Sx
/-
  SX: simulation: every step of the machine; what its whole run shows. No condition.
-/
namespace Go.Sx
open Go.RowKit

section
variable {P : Program} {ρ : Nat → Int} {C : Cfg} {nt : Nat} {w0 : W0} {w : World} {μ0 μ : Mu} {G : Key → Option Blk} {H : T Blk} {nx : Key} {rest cs : List Frame} {fr : Frame} {af : AFr} {acs : List AFr} {K : List Item} {k : List AItem}

theorem good_run (X : Ctx P ρ w0 C) (h0 : μ0.le μ) (hM : MRel P ρ w0 μ G nx.toNat w) (hH : HSub H G) (hb : Base P ρ μ nt af fr) (h1 : af.mode = .run) (hm : fr.mode = .run)
    (hTd : Todo P ρ C.orc μ G H nx nt af.todo af.tm fr.todo fr.tmps) (hS : SusAll P ρ C.orc μ G H nx acs cs) (hn : (pkAll (af :: acs)).Nodup) :
    Good P ρ C w0 μ0 rest (lone fr (cs ++ rest) w) (stepRun C af acs H nx) := by
  generalize hat : af.todo = AK at hTd
  generalize htt : af.tm = TM at hTd
  generalize ht : fr.todo = FK at hTd
  generalize hft : fr.tmps = FT at hTd
  cases hTd with
  | plain k0 K0 tm tmps hk hT =>
    subst htt hft
    have hn : (pkAll acs).Nodup := (List.nodup_append.1 hn).2.1
    cases hk with
    | nil =>
      unfold stepRun
      rw [hat]
      exact good_leave X (.fin ht) h0 hM hH hb h1 hm (.inl hat) (by intro e; cases e) (fun _ => hat) hT hS hn
    | cons a x k K h hk =>
      have go : ∀ (k' : List AItem) (K' : List Item), IRels P μ nt k' K' → step P (lone fr (cs ++ rest) w) = .next (lone { fr with todo := K' } (cs ++ rest) w) → Good P ρ C w0 μ0 rest (lone fr (cs ++ rest) w) (.next ⟨{ af with todo := k' }, acs, H, nx⟩) := by
        intro k' K' hk' hst
        exact ⟨_, cs, w, .one hst, mach_plain h0 hM hH (hb.todo af.tm k' fr.tmps K') h1 hm hk' hT hS hn⟩
      cases h with
      | code pc c h => exact good_code X h h0 hM hH hb h1 hm hat ht hk hT hS hn
      | inBlock id =>
        unfold stepRun; rw [hat]
        exact go _ _ hk (st_inBlock hm ht)
      | inLoop pc c h =>
        unfold stepRun; rw [hat]
        exact go _ _ (.cons _ _ _ _ (.code _ _ h) (.cons _ _ _ _ (.inLoop _ _ h) hk)) (st_inLoop hm ht)
      | ops l ops rest h =>
        unfold stepRun; rw [hat]
        exact good_ops X h0 hM hH hb h1 hm h ht hk hT hS hn
      | inRF key l r h hr =>
        unfold stepRun; rw [hat]; trivial
      | endRF key l r hmu hr =>
        subst hr
        unfold stepRun; rw [hat]
        simp only
        split
        · rename_i st pd fn tm res params as bd dfs hbl
          obtain ⟨lc', L, ntl, ld, e0, e0', e1, e2, e3, e4, e5, e5', e6, e7, e8, e9, e10⟩ := loop_of hM (hH _ _ hbl)
          rw [hmu] at e0; cases e0
          split
          · trivial
          · rename_i hnb
            simp only [T.setC_eq]
            have hbusy : L.state ≠ .busy := by
              intro e
              rw [e] at e1
              cases st <;> first | exact e1.elim | exact hnb rfl
            obtain ⟨μ', G', g1, g2, g3, g4⟩ := loop_put (st' := .exhausted) (pd' := pd) (s := .exhausted) (pc := L.pending) hM hH hbl hmu e0' trivial (fun h => h)
            have hst := st_endRF (P := P) (cs := cs ++ rest) hm ht (run_endLoop e0' hbusy)
            have hfin : ∀ (k' : List AItem), IRels P μ' nt k' ((L.pending.map Item.code).toList ++ K) → Good P ρ C w0 μ0 rest (lone fr (cs ++ rest) w) (.next ⟨{ af with todo := k' }, acs, T.set key (some (.loop .exhausted pd fn tm res params as bd dfs)) H, nx⟩) := by
              intro k' hk'
              exact ⟨_, cs, _, .one hst, mach_plain (Mu.le_trans h0 g1) g2 g3 ((hb.mono g1).todo af.tm k' fr.tmps _) h1 hm hk' (hT.mono g1) (hS.kept g1 g4) hn⟩
            refine hfin _ ?_
            cases pd with
            | none =>
              cases hp : L.pending with
              | none => exact hk.mono g1
              | some c => rw [hp] at e2; exact (e2 0).elim
            | some pc =>
              cases hp : L.pending with
              | none => rw [hp] at e2; exact (e2 0).elim
              | some c =>
                rw [hp] at e2
                exact .cons _ _ _ _ (.code _ _ (e2 nt)) (hk.mono g1)
        · trivial
      | beginRound =>
        unfold stepRun; rw [hat]
        simp only
        split
        · trivial
        · rename_i key hrn
          have hro : ∃ lc, μ key = some lc ∧ fr.roundOf = some lc.c := by
            have := hb.rnd
            rw [hrn] at this
            cases hh : fr.roundOf with
            | none => rw [hh] at this; exact this.elim
            | some x => rw [hh] at this; obtain ⟨lc, e1, e2⟩ := this; exact ⟨lc, e1, by rw [e2]⟩
          obtain ⟨lc, hmu, hro⟩ := hro
          split
          · rename_i pd fn tm res params as bd dfs hbl
            simp only [T.setC_eq]
            obtain ⟨lc', L, ntl, ld, e0, e0', e1, e2, e3, e4, e5, e5', e6, e7, e8, e9, e10⟩ := loop_of hM (hH _ _ hbl)
            rw [hmu] at e0; cases e0
            have hready : L.state = .ready := by
              cases hs : L.state <;> rw [hs] at e1 <;> first | rfl | exact e1.elim
            obtain ⟨μ', G', g1, g2, g3, g4⟩ := loop_put (st' := .busy) (pd' := pd) (s := .busy) (pc := L.pending) hM hH hbl hmu e0' trivial (fun h => h)
            have hst := st_beginRound (P := P) (cs := cs ++ rest) hm ht hro (run_beginRound e0' hready)
            exact ⟨_, cs, _, .one hst, mach_plain (Mu.le_trans h0 g1) g2 g3 ((hb.mono g1).todo af.tm k fr.tmps K) h1 hm (hk.mono g1) (hT.mono g1) (hS.kept g1 g4) hn⟩
          · trivial
  | ready ops pl bf g its items dsts pend k K tm tmps rs hf hc hd hk S =>
    subst htt hft
    unfold stepRun; rw [hat]
    refine good_staged X h0 hM hH hb h1 hm hf hc hd ht hk S hS ?_
    simp only [pkAll, pk, hat] at hn
    exact hn
  | back ops pl bf g os its items dsts pend k K tm tmps rs hf hc hd hk hos hcov S =>
    subst htt hft
    unfold stepRun; rw [hat]
    simp only
    rw [runSt_R]
    cases hrc : recheck C.orc dsts.ads pend af.tm H os with
    | false => simp only [cond_false, eraseC_eq]; trivial
    | true =>
      simp only [cond_true]
      have S5 := S.rechecked hd.2 hrc hos hcov
      refine good_staged X h0 hM hH hb h1 hm hf hc hd ht hk S5 hS ?_
      simp only [pkAll, pk, hat] at hn
      exact hn

/- unwinding -/
theorem run_takeDeferred {b : Nat} (h : w.heap[b]? = some (.deferred (some []))) : (Instr.takeDeferred b).run P w = .ok [] { w with heap := w.heap.setIfInBounds b (.deferred none) } := by
  simp [Instr.takeDeferred, getObj, setObj, Sem.run, h]

theorem good_unwind (X : Ctx P ρ w0 C) (h0 : μ0.le μ) (hM : MRel P ρ w0 μ G nx.toNat w) (hH : HSub H G) (hb : Base P ρ μ nt af fr) (hcur : Cur P ρ C.orc μ G H nx af fr) (hne : af.mode ≠ .run) (hS : SusAll P ρ C.orc μ G H nx acs cs) (hn : (pkAll (af :: acs)).Nodup) :
    Good P ρ C w0 μ0 rest (lone fr (cs ++ rest) w) (unwindA C af acs H nx) := by
  have hpk : pk af = [] := by
    cases hcur with
    | run nt hb h1 => exact absurd h1 hne
    | ret nt hb h1 h2 h3 h => unfold pk; rcases h3 with h3 | ⟨k, h3⟩ <;> rw [h3]
    | pan nt hb v u r h1 h2 hv h3 h => unfold pk; rw [h3]
  have hfm : fr.mode ≠ .run := by
    cases hcur with
    | run nt hb h1 => exact absurd h1 hne
    | ret nt hb h1 h2 h3 h => rw [h2]; intro e; cases e
    | pan nt hb v u r h1 h2 hv h3 h => rw [h2]; intro e; cases e
  have hnp : (pkAll acs).Nodup := (List.nodup_append.1 hn).2.1
  have hdfs : ∃ nt, Base P ρ μ nt af fr ∧ TRel ρ μ nt af.tm fr.tmps := by
    cases hcur with
    | run nt hb h1 => exact absurd h1 hne
    | ret nt hb h1 h2 h3 h => exact ⟨nt, hb, h⟩
    | pan nt hb v u r h1 h2 hv h3 h => exact ⟨nt, hb, h⟩
  have move : ∀ {μ' : Mu} {G' : Key → Option Blk} {H' : T Blk} (ds : List ADef) (Ds : List Deferred), μ.le μ' → DRels ρ μ' ds Ds → Cur P ρ C.orc μ' G' H' nx { af with dfs := ds } { fr with defers := Ds } := by
    intro μ' G' H' ds Ds hle hd
    cases hcur with
    | run nt hb h1 => exact absurd h1 hne
    | ret nt hb h1 h2 h3 h => exact .ret nt ⟨hb.fn, hb.fnr, hd, hb.kind, (hb.mono hle).rnd, hb.rd⟩ h1 h2 h3 (h.mono hle)
    | pan nt hb v u r h1 h2 hv h3 h => exact .pan nt ⟨hb.fn, hb.fnr, hd, hb.kind, (hb.mono hle).rnd, hb.rd⟩ v u r h1 h2 (hv.mono hle) h3 (h.mono hle)
  have hD := hb.dfs
  unfold unwindA
  split
  · rename_i b ds hds
    split
    · rename_i hbl
      simp only [T.setC_eq]
      rw [hds] at hD
      cases hfd : fr.defers with
      | nil => rw [hfd] at hD; exact hD.elim
      | cons d Ds =>
      rw [hfd] at hD
      obtain ⟨⟨l, hl, rfl⟩, hD2⟩ := hD
      have hg := hH _ _ hbl
      obtain ⟨l', o, e1, e2, e3⟩ := hM.blk b _ hg
      rw [hl] at e1; cases e1
      have hobj : w.heap[l.c]? = some (.deferred (some [])) := by
        cases e3 with | dfs _ _ => exact e2
      have hcs : l.c < w.heap.size := hM.bnd b l hl
      have hown : w0.heap.size ≤ l.c := (hM.own b _ l hg hl).resolve_left (by simp [Blk.ro])
      obtain ⟨m1, m2⟩ := hM.put (w' := { w with heap := w.heap.setIfInBounds l.c (.deferred none) }) b (.dfs true) l (.deferred none) (nx' := nx.toNat) (.inr hl)
        ⟨rfl, rfl, rfl, by simp, fun j hj _ => by show (w.heap.setIfInBounds l.c _)[j]? = _; rw [Array.getElem?_setIfInBounds_ne (Ne.symm hj)], Nat.le_refl _⟩
        (by show (w.heap.setIfInBounds l.c _)[l.c]? = _; simp [hcs])
        (.dfs true l)
        (fun b' B' l' g m' ne => hM.sep b' b B' _ l' l g hg m' hl ne) hown (Nat.le_refl _) (hM.new b l hl) (hM.lo0 hg hl rfl)
      have hst := st_collected (P := P) (cs := cs ++ rest) hfm hfd (run_takeDeferred hobj)
      refine ⟨_, cs, _, .one hst, _, _, Mu.le_trans h0 m1, m2, hH.set b _, move ds Ds m1 (hD2.mono m1), hS.kept m1 (keeps_upd hbl hl _ _), ?_⟩
      show (pkAll (_ :: acs)).Nodup
      have : pk { af with dfs := ds } = pk af := rfl
      simp only [pkAll, this, hpk, List.nil_append]; exact hnp
    · trivial
  · rename_i f args ds hds
    rcases enterA_spec X f args true (.bad 71 ⟨af, acs, H, nx⟩) (fun fr' => .next ⟨fr', { af with dfs := ds } :: acs, H, nx⟩) with e | ⟨p, hp, e⟩
    · rw [e]; trivial
    · rw [e]
      rw [hds] at hD
      cases hfd : fr.defers with
      | nil => rw [hfd] at hD; exact hD.elim
      | cons d Ds =>
      rw [hfd] at hD
      obtain ⟨⟨ws, hd1, hd2⟩, hD2⟩ := hD
      obtain ⟨fn, c, f1, f2, f3, f4, f5⟩ := pFn_spec hp
      have hi : (invoke d.target d.args).run P w = .ok (.enter f (d.args ++ ws)) w := by
        rw [hd1]; simp [invoke, run_callFunc f1 (by rw [f2]; rfl) f3]
      have hst := st_deferred (P := P) (cs := cs ++ rest) hfm hfd hd1 hi
      refine ⟨_, { fr with defers := Ds } :: cs, w, .one hst, μ, G, h0, hM, hH, cur_enter hp hd2 true, ⟨.unw (move ds Ds μ.le_refl hD2) hne, hS⟩, ?_⟩
      show (pkAll (_ :: _ :: acs)).Nodup
      have : pk { af with dfs := ds } = pk af := rfl
      simp only [pkAll, this, hpk, List.nil_append]
      simp only [pk, List.nil_append]; exact hnp
  · rename_i hds
    have hfd : fr.defers = [] := by
      rw [hds] at hD
      cases hfd : fr.defers with
      | nil => rfl
      | cons d Ds => rw [hfd] at hD; exact hD.elim
    split
    · trivial
    · rename_i hmode
      cases hcur with
      | run nt hb h1 => exact absurd h1 hne
      | pan nt hb v u r h1 => rw [h1] at hmode; cases hmode
      | ret nt hb h1 h2 h3 hT =>
        split
        · rename_i l hl
          obtain ⟨fn, g1, g2, g3⟩ := hb.fnr.ex
          have g1' : P.funcs[fr.fn]? = some fn := by rw [hb.fn]; exact g1
          rw [g2] at g3
          obtain ⟨vs, q1, q2⟩ := results_sound hM hH hT g3 hl
          rw [frzIf_eq]
          obtain ⟨μ1, G1, x1, x2⟩ := frzIfA_sound (C.rawR af.fn) hM hH q2
          have q2 := tupled_rel x2
          have hS := SusAll.kept x1.le x1.kept hS
          have h0 := Mu.le_trans h0 x1.le
          have hM := x1.M
          have hH := x1.hs
          have hb := hb.mono x1.le
          have hT := hT.mono x1.le
          generalize frzIfA (C.rawR af.fn) l H = lh at q2 hS hM hH
          obtain ⟨l1, H1⟩ := lh
          simp only at q2 hS hM hH ⊢
          clear x1 x2
          generalize hvv : tupledV vs = v at q1 q2
          unfold returnA
          cases acs with
          | nil =>
            cases cs with
            | cons _ _ => exact hS.elim
            | nil =>
            cases hdf : af.dfd with
            | true => trivial
            | false =>
              have hkn : fr.kind = .normal := by rw [hb.kind, hdf]; rfl
              exact ⟨fr, w, μ1, G1, v, Steps.refl _ _, hb.fn, ⟨h2, hfd, hkn, fn, g1', q1⟩, q2, h0, hM, hH⟩
          | cons c acs =>
            cases cs with
            | nil => exact hS.elim
            | cons cf cs =>
            have hn2 : (pkAll (c :: acs)).Nodup := hnp
            cases hdf : af.dfd with
            | true =>
              have hkn : fr.kind = .deferred := by rw [hb.kind, hdf]; rfl
              have hst := st_return_deferred (P := P) (c := cf) (cs := cs ++ rest) h2 hfd hkn g1' q1
              simp only [cond_true]
              cases hS.1 with
              | wait nt' hb' h1' =>
                rw [h1']; trivial
              | unw hc hcm =>
                cases hc with
                | run nt' hb' h1' => exact absurd h1' hcm
                | ret nt' hb' h1' h2' h3' hT' =>
                  have hset : settle cf.mode = cf.mode := by rw [h2']; rfl
                  rw [hset] at hst
                  rw [h1']
                  exact ⟨_, cs, w, .one hst, μ1, G1, h0, hM, hH, .ret nt' hb' h1' h2' h3' hT', hS.2, hn2⟩
                | pan nt' hb' v' u' r' h1' h2' hv' h3' hT' =>
                  rw [h1']
                  cases r' with
                  | true =>
                    have hset : settle cf.mode = .returning := by rw [h2']; rfl
                    rw [hset] at hst
                    refine ⟨_, cs, w, .one hst, μ1, G1, h0, hM, hH, .ret nt' ⟨hb'.fn, hb'.fnr, hb'.dfs, hb'.kind, hb'.rnd, hb'.rd⟩ rfl rfl (.inl h3') hT', hS.2, ?_⟩
                    exact hn2
                  | false =>
                    have hset : settle cf.mode = cf.mode := by rw [h2']; rfl
                    rw [hset] at hst
                    exact ⟨_, cs, w, .one hst, μ1, G1, h0, hM, hH, .pan nt' hb' v' u' false h1' h2' hv' h3' hT', hS.2, hn2⟩
            | false =>
              have hkn : fr.kind = .normal := by rw [hb.kind, hdf]; rfl
              have hst := st_return (P := P) (c := cf) (cs := cs ++ rest) h2 hfd hkn g1' q1
              simp only [cond_false]
              split
              · rename_i c' hf
                obtain ⟨k1, k2⟩ := hS.1.finish q2 hf
                refine ⟨_, cs, w, .one hst, μ1, G1, h0, hM, hH, k1, hS.2, ?_⟩
                show (pkAll (c' :: acs)).Nodup
                simp only [pkAll, k2] at hn2 ⊢
                exact hn2
              · trivial
        · trivial
    · rename_i v hmode
      cases hcur with
      | run nt hb h1 => exact absurd h1 hne
      | ret nt hb h1 => rw [h1] at hmode; cases hmode
      | pan nt hb v' u r h1 h2 hv h3 hT =>
        rw [h1] at hmode
        simp only [AMode.pan.injEq] at hmode
        obtain ⟨rfl, rfl⟩ := hmode
        obtain ⟨fn, g1, g2, g3⟩ := hb.fnr.ex
        have g1' : P.funcs[fr.fn]? = some fn := by rw [hb.fn]; exact g1
        cases acs with
        | nil => trivial
        | cons c acs =>
          cases cs with
          | nil => exact hS.elim
          | cons cf cs =>
          simp only
          cases hS.1 with
          | unw hc hcm =>
            cases hc with
            | run nt' hb' h1' => exact absurd h1' hcm
            | ret nt' hb' h1' => rw [h1']; trivial
            | pan nt' hb' v2 u2 r2 h1' => rw [h1']; trivial
          | wait nt' hb' h1' h2' hW =>
            rw [h1']
            have hst := st_panic_up (P := P) (c := cf) (cs := cs ++ rest) (w := w) h2 hfd g1'
            have hra : cf.raise [{ v := u, recovered := false }] = { cf with mode := .panicking [{ v := u, recovered := false }] } := by
              simp [Frame.raise, h2']
            rw [hra] at hst
            refine ⟨_, cs, w, .one hst, μ, G, h0, hM, hH, .pan nt' ⟨hb'.fn, hb'.fnr, hb'.dfs, hb'.kind, hb'.rnd, hb'.rd⟩ v' u false rfl rfl hv rfl ?_, hS.2, ?_⟩
            · show TRel ρ μ nt' (match c.todo with | .staged _ d _ :: _ => eraseC d.ds c.tm (fun t => t) | _ => c.tm) cf.tmps
              generalize cf.todo = KK at hW
              generalize hTT : cf.tmps = TT at hW
              generalize c.todo = kk at hW
              generalize c.tm = tt at hW
              cases hW with
              | ops o l ops i rest k K tm tmps hp h ht => exact ht
              | rf key l k K tm tmps hk h ht => exact ht
              | staged ops pl bf g i po ad os its items dsts pend k K tm tmps rest hpl hf hc hL hbi hd h hos hcov S =>
                simp only [eraseC_eq]
                exact S.erase hd.1
            · have hn2 : (pkAll (c :: acs)).Nodup := hnp
              show (pkAll (_ :: acs)).Nodup
              simp only [pkAll, pk, List.nil_append] at hn2 ⊢
              exact (List.nodup_append.1 hn2).2.1
    · trivial

theorem stepA_sound (X : Ctx P ρ w0 C) {am : AM} (h : Mach P ρ C.orc w0 μ0 am fr cs w) : Good P ρ C w0 μ0 rest (lone fr (cs ++ rest) w) (stepA C am) := by
  obtain ⟨μ, G, h0, hM, hH, hc, hS, hn⟩ := h.ex
  unfold stepA
  split
  · rename_i hm
    cases hc with
    | run nt hb h1 h2 h => exact good_run X h0 hM hH hb h1 h2 h hS hn
    | ret nt hb h1 => rw [h1] at hm; cases hm
    | pan nt hb v u r h1 => rw [h1] at hm; cases hm
  · rename_i hm
    have hne : am.fr.mode ≠ .run := fun e => hm e
    have hb : ∃ nt, Base P ρ μ nt am.fr fr := by
      cases hc with
      | run nt hb h1 h2 h => exact ⟨nt, hb⟩
      | ret nt hb h1 => exact ⟨nt, hb⟩
      | pan nt hb v u r h1 => exact ⟨nt, hb⟩
    obtain ⟨nt, hb⟩ := hb
    exact good_unwind X h0 hM hH hb hc hne hS hn

theorem runA_succ (C : Cfg) (n : Nat) (m : AM) : runA C (n + 1) m = match stepA C m with
    | .next m => runA C n m
    | r => r := rfl

theorem runA_sound (X : Ctx P ρ w0 C) : ∀ (n : Nat) {am : AM} {fr : Frame} {cs : List Frame} {w : World}, Mach P ρ C.orc w0 μ0 am fr cs w → Good P ρ C w0 μ0 rest (lone fr (cs ++ rest) w) (runA C n am)
  | 0, am, fr, cs, w, h => ⟨fr, cs, w, Steps.refl _ _, h⟩
  | n + 1, am, fr, cs, w, h => by
    have h1 := stepA_sound (rest := rest) X h
    rw [runA_succ]
    cases hs : stepA C am with
    | next m =>
      rw [hs] at h1
      obtain ⟨fr', cs', w', s1, h2⟩ := h1
      exact Good.steps s1 (runA_sound X n h2)
    | done f v hh nx => rw [hs] at h1; exact h1
    | alt l => rw [hs] at h1; exact h1
    | pan v hh nx => trivial
    | bad k m => trivial

end
end Go.Sx
/-
  SX: the machine's run as a fact on a call of the model. No condition.
-/
namespace Go.Sx
open Go.RowKit

noncomputable def enterFr (f : Nat) (p : PFn) (l : List AV) : AFr := { fn := f, tm := paramsT l .z .nil, todo := [.code p.body], dfs := [], mode := .run, dfd := false, rnd := none, res := p.res }

section
variable {P : Program} {ρ : Nat → Int} {C : Cfg} {w0 : W0} {w : World} {μ0 : Mu} {G0 : Key → Option Blk} {H H' : T Blk} {nx nx' : Key}

theorem sx_calls (X : Ctx P ρ w0 C) {f : Nat} {p : PFn} (hp : pFn P f = some p) {l : List AV} {args : Array Value} (hM : MRel P ρ w0 μ0 G0 nx.toNat w) (hH : HSub H G0) (hl : VRels ρ μ0 l args.toList) {n : Nat} {v : AV}
    (hrun : runA C n ⟨enterFr f p l, [], H, nx⟩ = .done f v H' nx') : Calls P f args w fun e w' => ∃ u μ G, e = .returned u ∧ VRel ρ μ v u ∧ μ0.le μ ∧ MRel P ρ w0 μ G nx'.toNat w' ∧ HSub H' G := by
  intro cs
  have hm : Mach P ρ C.orc w0 μ0 ⟨enterFr f p l, [], H, nx⟩ (Frame.enter P f args .normal) [] w :=
    ⟨μ0, G0, μ0.le_refl, hM, hH, cur_enter hp hl false, trivial, by simp [pkAll, pk, enterFr]⟩
  have hg := runA_sound (rest := cs) X n hm
  rw [hrun] at hg
  obtain ⟨fr', w', μ, G, u, s1, s2, s3, s4, s5, s6, s7⟩ := hg
  exact ⟨.returned u, w', fr', ⟨u, μ, G, rfl, s4, s5, s6, s7⟩, s1, s2, s3⟩

/- whatever the machine draws, it comes to a state of S -/
inductive Ev (C : Cfg) (S : AM → Prop) : AM → Prop
  | now {m : AM} (h : S m) : Ev C S m
  | step {m m' : AM} (e : stepA C m = .next m') (h : Ev C S m') : Ev C S m
  | alt {m : AM} {l : List AM} (e : stepA C m = .alt l) (h : ∀ m' ∈ l, Ev C S m') : Ev C S m
theorem Ev.bind {S S' : AM → Prop} {m : AM} (h : Ev C S m) (hs : ∀ m', S m' → Ev C S' m') : Ev C S' m := by
  induction h with
  | now h => exact hs _ h
  | step e _ ih => exact .step e ih
  | alt e _ ih => exact .alt e ih
theorem Ev.mono {S S' : AM → Prop} {m : AM} (h : Ev C S m) (hs : ∀ m', S m' → S' m') : Ev C S' m := h.bind fun m' q => .now (hs m' q)
theorem Ev.same {S : AM → Prop} {m m2 : AM} (hs : stepA C m = stepA C m2) (hn : ¬ S m2) (h : Ev C S m2) : Ev C S m := by
  cases h with
  | now h => exact absurd h hn
  | step e h => exact .step (hs.trans e) h
  | alt e h => exact .alt (hs.trans e) h
theorem runA_add (a b : Nat) (m m1 : AM) (h : runA C a m = .next m1) : runA C (a + b) m = runA C b m1 := by
  induction a generalizing m with
  | zero =>
    have : SR.next m = SR.next m1 := h
    cases this; rw [Nat.zero_add]
  | succ a ih =>
    rw [runA_succ] at h
    have e : a + 1 + b = (a + b) + 1 := by omega
    rw [e, runA_succ]
    cases hs : stepA C m with
    | next m2 => rw [hs] at h; exact ih m2 h
    | done f v hh nx => rw [hs] at h; cases h
    | alt l => rw [hs] at h; cases h
    | pan v hh nx => rw [hs] at h; cases h
    | bad k m => rw [hs] at h; cases h
theorem Ev.of_run {S : AM → Prop} : ∀ (n : Nat) {m m' : AM}, runA C n m = .next m' → Ev C S m' → Ev C S m
  | 0, m, m', h, q => by
    have : SR.next m = SR.next m' := h
    cases this; exact q
  | n + 1, m, m', h, q => by
    rw [runA_succ] at h
    cases hs : stepA C m with
    | next m2 => rw [hs] at h; exact .step hs (Ev.of_run n h q)
    | done f v hh nx => rw [hs] at h; cases h
    | alt l => rw [hs] at h; cases h
    | pan v hh nx => rw [hs] at h; cases h
    | bad k m => rw [hs] at h; cases h
/- from m the machine comes to m' -/
def To (C : Cfg) (m m' : AM) : Prop := ∃ n, runA C n m = .next m'
theorem To.refl (m : AM) : To C m m := ⟨0, rfl⟩
theorem To.head {m m1 m2 : AM} (h : stepA C m = .next m1) (h' : To C m1 m2) : To C m m2 := by
  obtain ⟨n, hn⟩ := h'
  exact ⟨n + 1, by rw [runA_succ, h]; exact hn⟩
theorem To.one {m m1 : AM} (h : stepA C m = .next m1) : To C m m1 := .head h (.refl _)
theorem To.trans {m m1 m2 : AM} (h : To C m m1) (h' : To C m1 m2) : To C m m2 := by
  obtain ⟨a, ha⟩ := h
  obtain ⟨b, hb⟩ := h'
  exact ⟨a + b, by rw [runA_add a b m m1 ha]; exact hb⟩
theorem To.ev {S : AM → Prop} {m m' : AM} (h : To C m m') (q : Ev C S m') : Ev C S m := by
  obtain ⟨n, hn⟩ := h
  exact Ev.of_run n hn q
theorem Ev.sound (X : Ctx P ρ w0 C) {S : AM → Prop} {rest : List Frame} {am : AM} (h : Ev C S am) : ∀ {fr : Frame} {cs : List Frame} {w : World}, Mach P ρ C.orc w0 μ0 am fr cs w →
    ∃ am' fr' cs' w', S am' ∧ Steps P (lone fr (cs ++ rest) w) (lone fr' (cs' ++ rest) w') ∧ Mach P ρ C.orc w0 μ0 am' fr' cs' w' := by
  induction h with
  | now h => intro fr cs w hm; exact ⟨_, fr, cs, w, h, Steps.refl _ _, hm⟩
  | step e _ ih =>
    intro fr cs w hm
    have hg := stepA_sound (rest := rest) X hm
    rw [e] at hg
    obtain ⟨fr', cs', w', s1, h2⟩ := hg
    obtain ⟨am', fr2, cs2, w2, q, s2, h3⟩ := ih h2
    exact ⟨am', fr2, cs2, w2, q, s1.trans s2, h3⟩
  | alt e _ ih =>
    intro fr cs w hm
    have hg := stepA_sound (rest := rest) X hm
    rw [e] at hg
    obtain ⟨am1, hmem, fr', cs', w', s1, h2⟩ := hg
    obtain ⟨am', fr2, cs2, w2, q, s2, h3⟩ := ih am1 hmem h2
    exact ⟨am', fr2, cs2, w2, q, s1.trans s2, h3⟩
end
end Go.Sx
