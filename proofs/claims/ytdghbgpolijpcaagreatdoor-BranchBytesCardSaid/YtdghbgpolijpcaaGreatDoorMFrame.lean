/-
  SX: frames of the abstract machine and of the model. No condition.
-/
import Derived.Test.YtdghbgpolijpcaaGreatDoorMStage
set_option linter.unusedSimpArgs false
set_option linter.unusedVariables false
set_option linter.unusedSectionVars false
namespace Go.Sx
open Go.RowKit

inductive IRel (P : Program) (μ : Mu) (nt : Nat) : AItem → Item → Prop
  | code (pc : PCode) (c : Code) (h : pCode P nt c = some pc) : IRel P μ nt (.code pc) (.code c)
  | inBlock (id : Nat) : IRel P μ nt (.inBlock id) (.inBlock id)
  | inLoop (pc : PCode) (c : Code) (h : pCode P nt c = some pc) : IRel P μ nt (.inLoop pc) (.inLoop c)
  | ops (l : List POper) (ops : Array Oper) (rest : List Nat) (h : pOpers P nt ops rest = some l) : IRel P μ nt (.ops l) (.inRegion ops rest)
  | inRF (k : Key) (l : Loc) (r : Nat) (h : μ k = some l) (hr : r = l.c) : IRel P μ nt (.inRF k) (.inRangeFunc r)
  | endRF (k : Key) (l : Loc) (r : Nat) (h : μ k = some l) (hr : r = l.c) : IRel P μ nt (.endRF k) (.endRangeFunc r)
  | beginRound : IRel P μ nt .beginRound .beginRound
inductive IRels (P : Program) (μ : Mu) (nt : Nat) : List AItem → List Item → Prop
  | nil : IRels P μ nt [] []
  | cons (a : AItem) (x : Item) (l : List AItem) (k : List Item) (h : IRel P μ nt a x) (h' : IRels P μ nt l k) : IRels P μ nt (a :: l) (x :: k)

theorem IRel.mono {P : Program} {μ μ' : Mu} (hm : μ.le μ') {nt : Nat} {a : AItem} {x : Item} (h : IRel P μ nt a x) : IRel P μ' nt a x := by
  cases h with
  | code pc c h => exact .code pc c h
  | inBlock id => exact .inBlock id
  | inLoop pc c h => exact .inLoop pc c h
  | ops l ops rest h => exact .ops l ops rest h
  | inRF k l r h hr => exact .inRF k l r (hm.l _ _ h) hr
  | endRF k l r h hr => exact .endRF k l r (hm.l _ _ h) hr
  | beginRound => exact .beginRound
theorem IRels.mono {P : Program} {μ μ' : Mu} (hm : μ.le μ') {nt : Nat} {a : List AItem} {x : List Item} (h : IRels P μ nt a x) : IRels P μ' nt a x := by
  induction h with
  | nil => exact .nil
  | cons a x l k h h' ih => exact .cons _ _ _ _ (h.mono hm) ih

def DRel (ρ : Nat → Int) (μ : Mu) : ADef → Deferred → Prop
  | .fn f args, d => ∃ ws, d.target = .fn (.func f) ws ∧ VRels ρ μ args (d.args ++ ws).toList
  | .coll b, d => ∃ l, μ b = some l ∧ d = ⟨.collected l.c, #[]⟩
def DRels (ρ : Nat → Int) (μ : Mu) : List ADef → List Deferred → Prop
  | [], [] => True
  | a :: l, d :: ds => DRel ρ μ a d ∧ DRels ρ μ l ds
  | _, _ => False
theorem DRel.mono {ρ : Nat → Int} {μ μ' : Mu} (hm : μ.le μ') {a : ADef} {d : Deferred} (h : DRel ρ μ a d) : DRel ρ μ' a d := by
  cases a with
  | fn f args => obtain ⟨ws, h1, h2⟩ := h; exact ⟨ws, h1, h2.mono hm⟩
  | coll b => obtain ⟨l, h1, h2⟩ := h; exact ⟨l, hm.l _ _ h1, h2⟩
theorem DRels.mono {ρ : Nat → Int} {μ μ' : Mu} (hm : μ.le μ') : ∀ {a : List ADef} {d : List Deferred}, DRels ρ μ a d → DRels ρ μ' a d
  | [], [], _ => trivial
  | _ :: _, _ :: _, h => ⟨h.1.mono hm, DRels.mono hm h.2⟩
  | [], _ :: _, h => h.elim
  | _ :: _, [], h => h.elim

def RRel (μ : Mu) : Option Key → Option Nat → Prop
  | none, none => True
  | some k, some r => ∃ l, μ k = some l ∧ r = l.c
  | _, _ => False

/- what does not change while a frame runs -/
structure Base (P : Program) (ρ : Nat → Int) (μ : Mu) (nt : Nat) (af : AFr) (fr : Frame) : Prop where
  fn : fr.fn = af.fn
  fnr : FnRel P af.fn nt af.res
  dfs : DRels ρ μ af.dfs fr.defers
  kind : fr.kind = if af.dfd then .deferred else .normal
  rnd : RRel μ af.rnd fr.roundOf
  rd : af.rnd ≠ none → af.dfd = false

theorem Base.mono {P : Program} {ρ : Nat → Int} {μ μ' : Mu} (hm : μ.le μ') {nt : Nat} {af : AFr} {fr : Frame} (h : Base P ρ μ nt af fr) : Base P ρ μ' nt af fr := by
  refine ⟨h.fn, h.fnr, h.dfs.mono hm, h.kind, ?_, h.rd⟩
  have := h.rnd
  cases h1 : af.rnd <;> cases h2 : fr.roundOf <;> rw [h1, h2] at this
  · trivial
  · exact this.elim
  · exact this.elim
  · obtain ⟨l, e1, e2⟩ := this; exact ⟨l, hm.l _ _ e1, e2⟩

def DstsOk (ops : Array Oper) (dsts : List Key) : Prop := ∀ j t, dstO ops j = some t → ∃ k ∈ dsts, k.toNat = t

/- what a frame that runs has to do -/
inductive Todo (P : Program) (ρ : Nat → Int) (orc : Orc) (μ : Mu) (G : Key → Option Blk) (H : T Blk) (nx : Key) (nt : Nat) : List AItem → T AV → List Item → Array Value → Prop
  | plain (k : List AItem) (K : List Item) (tm : T AV) (tmps : Array Value) (h : IRels P μ nt k K) (ht : TRel ρ μ nt tm tmps) : Todo P ρ orc μ G H nx nt k tm K tmps
  | ready (ops : Array Oper) (pl : List POper) (bf : List Nat) (g : Gh) (its : List IIt) (items : List SItem) (dsts : SD) (pend : List (Nat × Key × Blk)) (k : List AItem) (K : List Item) (tm : T AV) (tmps : Array Value) (rest : List Nat)
      (hf : its.mapM (fillI pl) = some items) (hc : chkI ops pl bf g.L its = true) (hd : DstsOk ops dsts.ds ∧ adsOk bf dsts.ads = true) (h : IRels P μ nt k K) (S : SRel P ρ orc nt ops pl bf μ G H nx g (fun _ => False) pend tm tmps rest) :
      Todo P ρ orc μ G H nx nt (.staged items dsts pend :: k) tm (.inRegion ops rest :: K) tmps
  | back (ops : Array Oper) (pl : List POper) (bf : List Nat) (g : Gh) (os : List (Nat × POper)) (its : List IIt) (items : List SItem) (dsts : SD) (pend : List (Nat × Key × Blk)) (k : List AItem) (K : List Item) (tm : T AV) (tmps : Array Value) (rest : List Nat)
      (hf : its.mapM (fillI pl) = some items) (hc : chkI ops pl bf g.L its = true) (hd : DstsOk ops dsts.ds ∧ adsOk bf dsts.ads = true) (h : IRels P μ nt k K)
      (hos : ∀ i po, (i, po) ∈ os → pl[i]? = some po ∧ readOk ops bf i = true ∧ kindAt pl i = 0) (hcov : ∀ i, hasB g.L i = true → g.D i = false → isReadAt pl i = true → ∃ po, (i, po) ∈ os)
      (S : SRel P ρ orc nt ops pl bf μ G H nx g (fun i => isReadAt pl i = true) pend tm tmps rest) :
      Todo P ρ orc μ G H nx nt (.staged (.R os :: items) dsts pend :: k) tm (.inRegion ops rest :: K) tmps

/- what a frame that waits for a call waits for -/
inductive Wait (P : Program) (ρ : Nat → Int) (orc : Orc) (μ : Mu) (G : Key → Option Blk) (H : T Blk) (nx : Key) (nt : Nat) : List AItem → T AV → List Item → Array Value → Prop
  | ops (o : POper) (l : List POper) (ops : Array Oper) (i : Nat) (rest : List Nat) (k : List AItem) (K : List Item) (tm : T AV) (tmps : Array Value) (hp : pOpers P nt ops (i :: rest) = some (o :: l)) (h : IRels P μ nt k K) (ht : TRel ρ μ nt tm tmps) :
      Wait P ρ orc μ G H nx nt (.ops (o :: l) :: k) tm (.inRegion ops (i :: rest) :: K) tmps
  | staged (ops : Array Oper) (pl : List POper) (bf : List Nat) (g : Gh) (i : Nat) (po : POper) (ad : List Nat) (os : List (Nat × POper)) (its : List IIt) (items : List SItem) (dsts : SD) (pend : List (Nat × Key × Blk)) (k : List AItem) (K : List Item) (tm : T AV) (tmps : Array Value) (rest : List Nat)
      (hpl : pl[i]? = some po) (hf : its.mapM (fillI pl) = some items) (hc : chkI ops pl bf (setB g.L i) its = true) (hL : hasB g.L i = false) (hbi : ∀ j, j < ops.size → hasB (bfAt bf i) j = true → hasB g.L j = true) (hd : DstsOk ops dsts.ds ∧ adsOk bf dsts.ads = true) (h : IRels P μ nt k K)
      (hos : ∀ i po, (i, po) ∈ os → pl[i]? = some po ∧ readOk ops bf i = true ∧ kindAt pl i = 0) (hcov : ∀ j, hasB g.L j = true → isReadAt pl j = true → hasB (bfAt bf i) j = true ∨ ∃ po, (j, po) ∈ os)
      (S : SRel P ρ orc nt ops pl bf μ G H nx g (fun i => isReadAt pl i = true) pend tm tmps (i :: rest)) :
      Wait P ρ orc μ G H nx nt (.staged (.H i po ad :: .R os :: items) dsts pend :: k) tm (.inRegion ops (i :: rest) :: K) tmps
  | rf (key : Key) (l : Loc) (k : List AItem) (K : List Item) (tm : T AV) (tmps : Array Value) (hk : μ key = some l) (h : IRels P μ nt k K) (ht : TRel ρ μ nt tm tmps) : Wait P ρ orc μ G H nx nt (.inRF key :: k) tm (.inRangeFunc l.c :: K) tmps

/- the frame that runs, and one that waits -/
inductive Cur (P : Program) (ρ : Nat → Int) (orc : Orc) (μ : Mu) (G : Key → Option Blk) (H : T Blk) (nx : Key) (af : AFr) (fr : Frame) : Prop
  | run (nt : Nat) (hb : Base P ρ μ nt af fr) (h1 : af.mode = .run) (h2 : fr.mode = .run) (h : Todo P ρ orc μ G H nx nt af.todo af.tm fr.todo fr.tmps) : Cur P ρ orc μ G H nx af fr
  | ret (nt : Nat) (hb : Base P ρ μ nt af fr) (h1 : af.mode = .ret) (h2 : fr.mode = .returning) (h3 : af.todo = [] ∨ ∃ k, af.todo = .code .ret :: k) (h : TRel ρ μ nt af.tm fr.tmps) : Cur P ρ orc μ G H nx af fr
  | pan (nt : Nat) (hb : Base P ρ μ nt af fr) (v : AV) (u : Value) (r : Bool) (h1 : af.mode = .pan v r) (h2 : fr.mode = .panicking [{ v := u, recovered := r }]) (hv : VRel ρ μ v u) (h3 : af.todo = []) (h : TRel ρ μ nt af.tm fr.tmps) : Cur P ρ orc μ G H nx af fr
inductive Sus (P : Program) (ρ : Nat → Int) (orc : Orc) (μ : Mu) (G : Key → Option Blk) (H : T Blk) (nx : Key) (af : AFr) (fr : Frame) : Prop
  | wait (nt : Nat) (hb : Base P ρ μ nt af fr) (h1 : af.mode = .run) (h2 : fr.mode = .run) (h : Wait P ρ orc μ G H nx nt af.todo af.tm fr.todo fr.tmps) : Sus P ρ orc μ G H nx af fr
  | unw (h : Cur P ρ orc μ G H nx af fr) (hm : af.mode ≠ .run) : Sus P ρ orc μ G H nx af fr

def SusAll (P : Program) (ρ : Nat → Int) (orc : Orc) (μ : Mu) (G : Key → Option Blk) (H : T Blk) (nx : Key) : List AFr → List Frame → Prop
  | [], [] => True
  | a :: l, f :: fs => Sus P ρ orc μ G H nx a f ∧ SusAll P ρ orc μ G H nx l fs
  | _, _ => False

/- the blocks that a region under way has reserved -/
def pk (af : AFr) : List Nat := match af.todo with
  | .staged _ _ p :: _ => p.map (·.2.1.toNat)
  | _ => []
def pkAll : List AFr → List Nat
  | [] => []
  | a :: l => pk a ++ pkAll l

structure Mach (P : Program) (ρ : Nat → Int) (orc : Orc) (w0 : W0) (μ0 : Mu) (am : AM) (fr : Frame) (cs : List Frame) (w : World) : Prop where
  ex : ∃ μ G, μ0.le μ ∧ MRel P ρ w0 μ G am.nx.toNat w ∧ HSub am.h G ∧ Cur P ρ orc μ G am.h am.nx am.fr fr ∧ SusAll P ρ orc μ G am.h am.nx am.cs cs ∧ (pkAll (am.fr :: am.cs)).Nodup

/- persistence -/
section
variable {P : Program} {ρ : Nat → Int} {orc : Orc} {μ μ' : Mu} {G G' : Key → Option Blk} {H H' : T Blk} {nx nx' : Key}

theorem Wait.keep (hm : μ.le μ') (hn : nx.toNat ≤ nx'.toNat) {nt : Nat} {k : List AItem} {tm : T AV} {K : List Item} {tmps : Array Value} (h : Wait P ρ orc μ G H nx nt k tm K tmps)
    (hk : ∀ b : Key, (∀ i d p k', k = .staged i d p :: k' → b.toNat ∈ p.map (·.2.1.toNat)) → (∃ i d p k', k = .staged i d p :: k') → T.get b H = none → b.toNat < nx.toNat → μ' b = μ b ∧ G' b = G b ∧ T.get b H' = none) : Wait P ρ orc μ' G' H' nx' nt k tm K tmps := by
  cases h with
  | ops o l ops i rest k K tm tmps hp h ht => exact .ops o l ops i rest k K tm tmps hp (h.mono hm) (ht.mono hm)
  | rf key l k K tm tmps hkey h ht => exact .rf key l k K tm tmps (hm.l _ _ hkey) (h.mono hm) (ht.mono hm)
  | staged ops pl bf g i po ad os its items dsts pend k K tm tmps rest hpl hf hc hL hbi hd h hos hcov S =>
    refine .staged ops pl bf g i po ad os its items dsts pend k K tm tmps rest hpl hf hc hL hbi hd (h.mono hm) hos hcov (S.keep hm hn fun x hx => ?_)
    obtain ⟨_, _, _, p4, p5⟩ := S.pe x hx
    refine hk x.2.1 ?_ ⟨_, _, _, _, rfl⟩ p4 p5
    intro i d p k' e
    cases e
    exact List.mem_map.2 ⟨x, hx, rfl⟩

theorem Sus.keep (hm : μ.le μ') (hn : nx.toNat ≤ nx'.toNat) {af : AFr} {fr : Frame} (h : Sus P ρ orc μ G H nx af fr)
    (hk : ∀ b : Key, b.toNat ∈ pk af → T.get b H = none → b.toNat < nx.toNat → μ' b = μ b ∧ G' b = G b ∧ T.get b H' = none) : Sus P ρ orc μ' G' H' nx' af fr := by
  cases h with
  | wait nt hb h1 h2 h =>
    refine .wait nt (hb.mono hm) h1 h2 (h.keep hm hn fun b h3 ⟨i, d, p, k', e⟩ h4 h5 => hk b ?_ h4 h5)
    unfold pk
    rw [e]
    exact h3 i d p k' e
  | unw h hmode =>
    refine .unw ?_ hmode
    cases h with
    | run nt hb h1 => exact absurd h1 hmode
    | ret nt hb h1 h2 h3 h => exact .ret nt (hb.mono hm) h1 h2 h3 (h.mono hm)
    | pan nt hb v u r h1 h2 hv h3 h => exact .pan nt (hb.mono hm) v u r h1 h2 (hv.mono hm) h3 (h.mono hm)

theorem SusAll.keep (hm : μ.le μ') (hn : nx.toNat ≤ nx'.toNat) : ∀ {l : List AFr} {fs : List Frame}, SusAll P ρ orc μ G H nx l fs →
    (∀ b : Key, b.toNat ∈ pkAll l → T.get b H = none → b.toNat < nx.toNat → μ' b = μ b ∧ G' b = G b ∧ T.get b H' = none) → SusAll P ρ orc μ' G' H' nx' l fs
  | [], [], _, _ => trivial
  | _ :: _, _ :: _, h, hk => ⟨h.1.keep hm hn fun b hb => hk b (by simp [pkAll, hb]), SusAll.keep hm hn h.2 fun b hb => hk b (by simp [pkAll, hb])⟩
  | [], _ :: _, h, _ => h.elim
  | _ :: _, [], h, _ => h.elim
end
end Go.Sx
/-
  SX: simulation: rows of operations in their order. No condition.
-/
namespace Go.Sx
open Go.RowKit

section
variable {P : Program} {ρ : Nat → Int} {orc : Orc} {nt : Nat} {w0 : W0} {cs : List Frame} {K : List Item} {ops : Array Oper}

theorem TRel.put {μ : Mu} {tm : T AV} {tmps : Array Value} (h : TRel ρ μ nt tm tmps) {o : Oper} {po : POper} (hd : (o.dst = none ∧ po.dst = none) ∨ ∃ k, o.dst = some k.toNat ∧ po.dst = some k ∧ k.toNat < nt) {a : AV} {v : Value} (hv : VRel ρ μ a v) :
    TRel ρ μ nt (putTm po.dst a tm) (putA o.dst v tmps) := by
  rcases hd with ⟨e1, e2⟩ | ⟨k, e1, e2, hlt⟩
  · rw [e1, e2]; exact h
  · rw [e1, e2]
    refine ⟨by simp [putA]; exact h.1, fun q b hb => ?_⟩
    simp only [putTm] at hb
    simp only [putA]
    by_cases hq : q = k
    · subst hq
      rw [T.get_set_same] at hb; cases hb
      have : q.toNat < tmps.size := Nat.lt_of_lt_of_le hlt h.1
      exact ⟨v, by simp [this], hv⟩
    · rw [T.get_set_ne _ _ _ _ hq] at hb
      obtain ⟨u, hu, hr⟩ := h.2 q b hb
      refine ⟨u, ?_, hr⟩
      rw [Array.getElem?_setIfInBounds_ne]
      · exact hu
      · intro e; exact hq (Key.toNat_inj e.symm)

theorem defer_dfr {o : Oper} {op : POp} (hp : pOp P nt o = some op) (hd : isDefer o.op = true) : ∃ v l, op = .dfr v l := by
  obtain ⟨dst, cop, ty, pos, after, guard⟩ := o
  cases cop <;> first | (cases hd; done) | skip
  rename_i c
  simp only [pOp] at hp
  split at hp
  · split at hp
    · simp only [Option.some.injEq] at hp; exact ⟨_, _, hp.symm⟩
    · cases hp
  · cases hp
theorem not_defer {o : Oper} {op : POp} (hp : pOp P nt o = some op) {tm : T AV} {H : T Blk} {nx : Key} (h1 : ∀ f l, aOp orc op tm H nx ≠ .dfr f l) (h2 : ∀ n, aOp orc op tm H nx ≠ .bad n) : isDefer o.op = false := by
  cases hd : isDefer o.op with
  | false => rfl
  | true =>
    obtain ⟨v, l, rfl⟩ := defer_dfr hp hd
    exfalso
    have key : (∃ f l', aOp orc (.dfr v l) tm H nx = .dfr f l') ∨ ∃ n, aOp orc (.dfr v l) tm H nx = .bad n := by
      simp only [aOp]
      split
      · exact .inl ⟨_, _, rfl⟩
      · exact .inr ⟨_, rfl⟩
    rcases key with ⟨f, l', e⟩ | ⟨n, e⟩
    · exact h1 _ _ e
    · exact h2 _ e

/- the model has come with its operations so far as the machine -/
def OpsEnd (P : Program) (ρ : Nat → Int) (orc : Orc) (nt : Nat) (w0 : W0) (cs : List Frame) (K : List Item) (ops : Array Oper) (fr : Frame) (w : World) (μ : Mu) (G : Key → Option Blk) (H : T Blk) (nx : Key) : RR → Prop
  | .fin tm' h' nx' => ∃ tmps' w' μ' G', Steps P (lone fr cs w) (lone { fr with tmps := tmps', todo := K } cs w') ∧ μ.le μ' ∧ MRel P ρ w0 μ' G' nx'.toNat w' ∧ HSub h' G' ∧ TRel ρ μ' nt tm' tmps' ∧ Kept H h' nx nx' μ μ' G G'
  | .ev r l' tm' h' nx' => (∃ n, r = .bad n) ∨ ∃ tmps' w' μ' G' i rest' po ll o, Steps P (lone fr cs w) (lone { fr with tmps := tmps', todo := .inRegion ops (i :: rest') :: K } cs w') ∧ μ.le μ' ∧ MRel P ρ w0 μ' G' nx'.toNat w' ∧ HSub h' G' ∧
      TRel ρ μ' nt tm' tmps' ∧ Kept H h' nx nx' μ μ' G G' ∧ l' = po :: ll ∧ pOpers P nt ops (i :: rest') = some l' ∧ ops[i]? = some o ∧ pOper P nt ops o = some po ∧ Region.wanted o (yielded ops tmps') = true ∧ aOp orc po.op tm' h' nx' = r ∧ ¬ IsVB r

theorem runOps_cons (orc : Orc) (o : POper) (rest : List POper) (tm : T AV) (h : T Blk) (nx : Key) : runOps orc (o :: rest) tm h nx = (match wantsP o.guard tm with
      | none => .ev (.bad 30) (o :: rest) tm h nx
      | some false => putT o.dst (some (.tuple [])) tm fun tm => runOps orc rest tm h nx
      | some true => match aOp orc o.op tm h nx with
        | .val v h nx => putT o.dst (some v) tm fun tm => runOps orc rest tm h nx
        | r => .ev r (o :: rest) tm h nx) := rfl

theorem runOps_sound (ho : OrcOk ρ orc) : ∀ (l : List POper) (rest : List Nat) (fr : Frame) (w : World) (μ : Mu) (G : Key → Option Blk) (H : T Blk) (nx : Key) (tm : T AV), pOpers P nt ops rest = some l → MRel P ρ w0 μ G nx.toNat w → HSub H G → TRel ρ μ nt tm fr.tmps →
    fr.mode = .run → fr.todo = .inRegion ops rest :: K → OpsEnd P ρ orc nt w0 cs K ops fr w μ G H nx (runOps orc l tm H nx)
  | [], rest, fr, w, μ, G, H, nx, tm, hp, hM, hH, hT, hm, ht => by
    cases rest with
    | cons i r => simp only [pOpers] at hp; split at hp; cases hp; split at hp <;> cases hp
    | nil => exact ⟨fr.tmps, w, μ, G, .one (st_end_region hm ht), μ.le_refl, hM, hH, hT, Kept.refl _ _ _ _⟩
  | po :: l, rest, fr, w, μ, G, H, nx, tm, hp, hM, hH, hT, hm, ht => by
    cases rest with
    | nil => simp only [pOpers, Option.some.injEq] at hp; cases hp
    | cons i r =>
    have hp0 := hp
    simp only [pOpers] at hp
    split at hp
    · cases hp
    · rename_i o hoi
      split at hp
      · rename_i po' l' h1 h2
        simp only [Option.some.injEq, List.cons.injEq] at hp
        obtain ⟨rfl, rfl⟩ := hp
        obtain ⟨hop, hgu, hdst⟩ := pOper_spec h1
        have hs : ∀ (k : Key) a, k.toNat ∈ slotsO ops o → T.get k tm = some a → ∃ v, fr.tmps[k.toNat]? = some v ∧ VRel ρ μ a v := fun k a _ hg => hT.2 k a hg
        have hE := erel_of (P := P) (nt := nt) (o := o) hM hs
        rw [runOps_cons]
        have go : ∀ (tm2 : T AV) (tmps2 : Array Value) (w2 : World) (μ2 : Mu) (G2 : Key → Option Blk) (H2 : T Blk) (nx2 : Key), step P (lone fr cs w) = .next (lone { fr with tmps := tmps2, todo := .inRegion ops r :: K } cs w2) → μ.le μ2 → MRel P ρ w0 μ2 G2 nx2.toNat w2 → HSub H2 G2 → TRel ρ μ2 nt tm2 tmps2 → Kept H H2 nx nx2 μ μ2 G G2 →
            OpsEnd P ρ orc nt w0 cs K ops fr w μ G H nx (runOps orc l' tm2 H2 nx2) := by
          intro tm2 tmps2 w2 μ2 G2 H2 nx2 hst hle hM2 hH2 hT2 hK2
          have ih := runOps_sound ho l' r { fr with tmps := tmps2, todo := .inRegion ops r :: K } w2 μ2 G2 H2 nx2 tm2 h2 hM2 hH2 hT2 hm rfl
          cases hres : runOps orc l' tm2 H2 nx2 with
          | fin tm' h' nx' =>
            rw [hres] at ih
            obtain ⟨tmps', w', μ', G', s1, s2, s3, s4, s5, s6⟩ := ih
            exact ⟨tmps', w', μ', G', .head hst s1, Mu.le_trans hle s2, s3, s4, s5, hK2.trans s6⟩
          | ev rr ll tm' h' nx' =>
            rw [hres] at ih
            rcases ih with hb | ⟨tmps', w', μ', G', i', rest', po', ll', o', s1, s2, s3, s4, s5, s6, s7, s8, s9, s10, s11, s12, s13⟩
            · exact .inl hb
            · exact .inr ⟨tmps', w', μ', G', i', rest', po', ll', o', .head hst s1, Mu.le_trans hle s2, s3, s4, s5, hK2.trans s6, s7, s8, s9, s10, s11, s12, s13⟩
        cases hw : wantsP po'.guard tm with
        | none => exact .inl ⟨_, rfl⟩
        | some b =>
          have hwant := wanted_of hgu hs hw
          cases b with
          | false =>
            simp only [putT_eq]
            have hst := st_op_skip (P := P) (cs := cs) (w := w) hm ht hoi hwant
            rw [finish_region ht hoi] at hst
            exact go _ _ w μ G H nx hst μ.le_refl hM hH (hT.put hdst (.tuple _ _ .nil)) (Kept.refl _ _ _ _)
          | true =>
            cases ha : aOp orc po'.op tm H nx with
            | val a H2 nx2 =>
              simp only [putT_eq]
              obtain ⟨n, w2, μ2, G2, r1, r2, r3, r4, r5, r6⟩ := val_sound hM hH ho hop hE ha
              have hnd : fr.roundOf = none ∨ isDefer o.op = false := .inr (not_defer hop (by rw [ha]; intro f l e; cases e) (by rw [ha]; intro n e; cases e))
              cases n with
              | value v =>
                have hst := st_val (P := P) (cs := cs) hm ht hoi hwant hnd r1
                rw [finish_region ht hoi] at hst
                exact go _ _ w2 μ2 G2 H2 nx2 hst r3 r4 r5 ((hT.mono r3).put hdst r2) r6
              | skip =>
                have r2 : a = .tuple [] := r2
                subst r2
                have hst := st_unit (P := P) (cs := cs) hm ht hoi hwant hnd r1
                rw [finish_region ht hoi] at hst
                exact go _ _ w2 μ2 G2 H2 nx2 hst r3 r4 r5 ((hT.mono r3).put hdst (.tuple _ _ .nil)) r6
              | _ => exact r2.elim
            | bad n => exact .inl ⟨_, rfl⟩
            | call f args => exact .inr ⟨fr.tmps, w, μ, G, i, r, po', l', o, by rw [← ht]; exact Steps.refl _ _, μ.le_refl, hM, hH, hT, Kept.refl _ _ _ _, rfl, hp0, hoi, h1, hwant, ha, by rintro (⟨_, _, _, e⟩ | ⟨_, e⟩) <;> cases e⟩
            | yld k args => exact .inr ⟨fr.tmps, w, μ, G, i, r, po', l', o, by rw [← ht]; exact Steps.refl _ _, μ.le_refl, hM, hH, hT, Kept.refl _ _ _ _, rfl, hp0, hoi, h1, hwant, ha, by rintro (⟨_, _, _, e⟩ | ⟨_, e⟩) <;> cases e⟩
            | pan v => exact .inr ⟨fr.tmps, w, μ, G, i, r, po', l', o, by rw [← ht]; exact Steps.refl _ _, μ.le_refl, hM, hH, hT, Kept.refl _ _ _ _, rfl, hp0, hoi, h1, hwant, ha, by rintro (⟨_, _, _, e⟩ | ⟨_, e⟩) <;> cases e⟩
            | dfr f args => exact .inr ⟨fr.tmps, w, μ, G, i, r, po', l', o, by rw [← ht]; exact Steps.refl _ _, μ.le_refl, hM, hH, hT, Kept.refl _ _ _ _, rfl, hp0, hoi, h1, hwant, ha, by rintro (⟨_, _, _, e⟩ | ⟨_, e⟩) <;> cases e⟩
            | recover => exact .inr ⟨fr.tmps, w, μ, G, i, r, po', l', o, by rw [← ht]; exact Steps.refl _ _, μ.le_refl, hM, hH, hT, Kept.refl _ _ _ _, rfl, hp0, hoi, h1, hwant, ha, by rintro (⟨_, _, _, e⟩ | ⟨_, e⟩) <;> cases e⟩
            | alt la => exact .inr ⟨fr.tmps, w, μ, G, i, r, po', l', o, by rw [← ht]; exact Steps.refl _ _, μ.le_refl, hM, hH, hT, Kept.refl _ _ _ _, rfl, hp0, hoi, h1, hwant, ha, by rintro (⟨_, _, _, e⟩ | ⟨_, e⟩) <;> cases e⟩
      · cases hp
end
end Go.Sx
/-
  SX: simulation: regions that draw their order. No condition.
-/
namespace Go.Sx
open Go.RowKit

/- old blocks that are neither in the machine's heap nor among E stay as they are -/
structure KeptE (E : List Nat) (H H' : T Blk) (nx nx' : Key) (μ μ' : Mu) (G G' : Key → Option Blk) : Prop where
  k : ∀ b : Key, b.toNat ∉ E → T.get b H = none → b.toNat < nx.toNat → μ' b = μ b ∧ G' b = G b ∧ T.get b H' = none
  n : nx.toNat ≤ nx'.toNat
theorem KeptE.refl (E : List Nat) (H : T Blk) (nx : Key) (μ : Mu) (G : Key → Option Blk) : KeptE E H H nx nx μ μ G G := ⟨fun _ _ h _ => ⟨rfl, rfl, h⟩, Nat.le_refl _⟩
theorem KeptE.trans {E E2 : List Nat} {H1 H2 H3 : T Blk} {n1 n2 n3 : Key} {m1 m2 m3 : Mu} {G1 G2 G3 : Key → Option Blk} (a : KeptE E H1 H2 n1 n2 m1 m2 G1 G2) (b : KeptE E2 H2 H3 n2 n3 m2 m3 G2 G3) (hE : ∀ x ∈ E2, x ∈ E ∨ n1.toNat ≤ x) : KeptE E H1 H3 n1 n3 m1 m3 G1 G3 := by
  refine ⟨fun k hk hg hl => ?_, Nat.le_trans a.n b.n⟩
  obtain ⟨a1, a2, a3⟩ := a.k k hk hg hl
  have hk2 : k.toNat ∉ E2 := by
    intro h
    rcases hE _ h with h | h
    · exact hk h
    · omega
  obtain ⟨b1, b2, b3⟩ := b.k k hk2 a3 (Nat.lt_of_lt_of_le hl a.n)
  exact ⟨b1.trans a1, b2.trans a2, b3⟩
theorem Kept.toE {H H' : T Blk} {nx nx' : Key} {μ μ' : Mu} {G G' : Key → Option Blk} (h : Kept H H' nx nx' μ μ' G G') (E : List Nat) : KeptE E H H' nx nx' μ μ' G G' :=
  ⟨fun b _ hg hl => ⟨h.m b hl, h.g b hg hl, h.h b hg hl⟩, h.n⟩

section
variable {P : Program} {ρ : Nat → Int} {orc : Orc} {nt : Nat} {ops : Array Oper} {pl : List POper} {bf : List Nat} {w0 : W0} {w : World} {μ μ' : Mu} {G G' : Key → Option Blk} {H H' : T Blk} {nx nx' : Key} {g : Gh} {unv unv' : Nat → Prop} {pend pend' : List (Nat × Key × Blk)} {tm : T AV} {tmps : Array Value} {rest : List Nat} {fr : Frame} {cs : List Frame} {K : List Item} {i : Nat}

/- a heavy operation has been carried out, on both sides -/
theorem SRel.heavy (S : SRel P ρ orc nt ops pl bf μ G H nx g unv pend tm tmps (i :: rest)) {po : POper} (hpl : pl[i]? = some po) (hL : hasB g.L i = false) (hb : ∀ j, j < ops.size → hasB (bfAt bf i) j = true → hasB g.L j = true)
    {o : Oper} (ho : ops[i]? = some o) {a : AV} {v : Value} (hv : VRel ρ μ a v) :
    SRel P ρ orc nt ops pl bf μ G H nx { L := setB g.L i, D := fun j => g.D j || j == i, a0 := g.a0, val := updN g.val i (some a) } unv pend (putTm po.dst a tm) (putA o.dst v tmps) rest := by
  obtain ⟨hi, hDi, hbf⟩ := S.ready
  obtain ⟨o', po', ho', hpo, hpl'⟩ := S.reg.at hi
  rw [hpl] at hpl'; cases hpl'
  rw [ho] at ho'; cases ho'
  obtain ⟨hop, hgu, hdst⟩ := pOper_spec hpo
  have hdi : dstO ops i = o.dst := by simp [dstO, ho]
  have hdlt : ∀ x, o.dst = some x → x < tmps.size := by
    intro x hx
    rcases hdst with ⟨h, _⟩ | ⟨k, h, _, hlt⟩
    · rw [h] at hx; cases hx
    · rw [h] at hx; cases hx; exact Nat.lt_of_lt_of_le hlt S.sz
  have hget := fun t => put_get (v := v) t hdlt
  have hsize : (putA o.dst v tmps).size = tmps.size := by
    cases o.dst <;> simp [putA]
  have hD' : ∀ j, ((g.D j || j == i) = true) ↔ (g.D j = true ∨ j = i) := by intro j; simp
  have hLs : ∀ j, hasB (setB g.L i) j = true ↔ (hasB g.L j = true ∨ j = i) := by
    intro j; rw [hasB_set, Bool.or_eq_true, decide_eq_true_eq]
    exact ⟨fun h => h.imp id Eq.symm, fun h => h.imp id Eq.symm⟩
  have hnb : ∀ p, hasB g.L p = true → hasB (bfAt bf p) i = false := by
    intro p hp
    cases h : hasB (bfAt bf p) i with
    | false => rfl
    | true => have := S.lcl p hp i hi h; rw [hL] at this; cases this
  refine ⟨S.reg, S.ord.2.2.2, ?_, ?_, ?_, ?_, ?_, ?_, by rw [hsize]; exact S.sz, ?_, ?_, ?_, ?_, S.nk, S.ni⟩
  · intro j oj hj hoj e he hbb
    rcases (hD' j).1 hj with h | h
    · exact (hD' _).2 (.inl (S.cl j oj h hoj e he hbb))
    · subst h
      exact (hD' _).2 (.inl (S.ord.2.2.1 oj hoj e he hbb))
  · intro j hj
    rcases (hD' j).1 hj with h | h
    · exact (hLs j).2 (.inl (S.sub j h))
    · exact (hLs j).2 (.inr h)
  · intro j hj
    rcases (hLs j).1 hj with h | h
    · exact S.lrng j h
    · subst h; exact hi
  · intro j hj q hq hbq
    rcases (hLs j).1 hj with h | h
    · exact (hLs q).2 (.inl (S.lcl j h q hq hbq))
    · subst h; exact (hLs q).2 (.inl (hb q hq hbq))
  · intro k j hj hd
    rcases hdst with ⟨e1, e2⟩ | ⟨kd, e1, e2, _⟩
    · rcases (hLs j).1 hj with h | h
      · have hne : j ≠ i := by intro e; subst e; rw [hL] at h; cases h
        rw [e2]
        simp only [putTm, updN, hne, if_false]
        exact S.a1 k j h hd
      · subst h; rw [hdi, e1] at hd; cases hd
    · rw [e2]
      simp only [putTm]
      rcases (hLs j).1 hj with h | h
      · have hne : j ≠ i := by intro e; subst e; rw [hL] at h; cases h
        have hk : k ≠ kd := by
          intro e; subst e
          exact hne (S.reg.dst_inj hd (hdi.trans e1))
        rw [T.get_set_ne _ _ _ _ hk]
        simp only [updN, hne, if_false]
        exact S.a1 k j h hd
      · subst h
        rw [hdi, e1] at hd
        have hk : k = kd := Key.toNat_inj (by simpa using hd.symm)
        subst hk
        rw [T.get_set_same]
        simp [updN]
  · intro k hno
    rcases hdst with ⟨e1, e2⟩ | ⟨kd, e1, e2, _⟩
    · rw [e2]
      exact S.a2 k fun j hj => hno j ((hLs j).2 (.inl hj))
    · rw [e2]
      simp only [putTm]
      have hk : k ≠ kd := by
        intro e; subst e
        exact hno i ((hLs i).2 (.inr rfl)) (hdi.trans e1)
      rw [T.get_set_ne _ _ _ _ hk]
      exact S.a2 k fun j hj => hno j ((hLs j).2 (.inl hj))
  · intro k j b hj hjd hjv
    rw [hget]
    rcases (hD' j).1 hj with h | h
    · have hne : j ≠ i := by intro e; subst e; rw [hDi] at h; cases h
      by_cases e : o.dst = some k.toNat
      · exact absurd (S.reg.dst_inj (hdi.trans e) hjd).symm hne
      · rw [if_neg e]
        exact S.c1 k j b h hjd (by simpa [updN, hne] using hjv)
    · subst h
      rw [hdi] at hjd
      rw [if_pos hjd]
      have hjv : b = a := by simpa [updN] using hjv.symm
      subst hjv
      exact ⟨v, rfl, hv⟩
  · intro k b hno ha
    rw [hget]
    have hni : o.dst ≠ some k.toNat := by
      intro e
      exact hno i ((hD' i).2 (.inr rfl)) (hdi.trans e)
    rw [if_neg hni]
    exact S.c2 k b (fun j hj => hno j ((hD' j).2 (.inl hj))) ha
  · intro j hj hjD
    have hjD : (g.D j || j == i) = false := hjD
    rw [Bool.or_eq_false_iff] at hjD
    have hne : j ≠ i := by simpa using hjD.2
    have hjL := ((hLs j).1 hj).resolve_right hne
    exact (S.pd j hjL hjD.1).upd (hnb j hjL) hne (fun _ h => h) (fun _ h => .inl h)
  · intro x hx
    obtain ⟨p1, p2, p3, p4, p5⟩ := S.pe x hx
    have hne : x.1 ≠ i := by intro e; rw [e, hL] at p1; cases p1
    refine ⟨(hLs _).2 (.inl p1), fun h => p2 (((hD' _).1 h).resolve_right hne), fun h => p3 ?_, p4, p5⟩
    have h : (g.D x.1 || x.1 == i) = false := h
    rw [Bool.or_eq_false_iff] at h
    exact h.1

/- the slots of a heavy operation whose turn has come -/
theorem SRel.slotsHeavy (S : SRel P ρ orc nt ops pl bf μ G H nx g unv pend tm tmps (i :: rest)) (hL : hasB g.L i = false) (hb : ∀ j, j < ops.size → hasB (bfAt bf i) j = true → hasB g.L j = true) {o : Oper} (ho : ops[i]? = some o) :
    ∀ (k : Key) a, k.toNat ∈ slotsO ops o → T.get k tm = some a → ∃ v, tmps[k.toNat]? = some v ∧ VRel ρ μ a v :=
  S.slotsNow (S.tm_ok S.ready.1 hL hb) ho

/- adoption -/
theorem adoptH_sub : ∀ {p : List (Nat × Key × Blk)} {h : T Blk}, HSub h G → (∀ x ∈ p, G x.2.1 = some x.2.2) → HSub (adoptH p h) G
  | [], h, hs, _ => hs
  | x :: p, h, hs, hp => by
    refine adoptH_sub (p := p) ?_ (fun y hy => hp y (by simp [hy]))
    intro b B hb
    by_cases e : b = x.2.1
    · subst e; rw [T.get_set_same] at hb; cases hb; exact hp x (by simp)
    · rw [T.get_set_ne _ _ _ _ e] at hb; exact hs b B hb
theorem adoptH_none : ∀ {p : List (Nat × Key × Blk)} {h : T Blk} {b : Key}, T.get b h = none → (∀ x ∈ p, x.2.1.toNat ≠ b.toNat) → T.get b (adoptH p h) = none
  | [], h, b, hb, _ => hb
  | x :: p, h, b, hb, hp => by
    refine adoptH_none (p := p) ?_ (fun y hy => hp y (by simp [hy]))
    rw [T.get_set_ne _ _ _ _ (fun e => hp x (by simp) (by rw [e]))]
    exact hb
end
end Go.Sx
/-
  SX: simulation: regions that draw their order, from one event to the next. No condition.
-/
namespace Go.Sx
open Go.RowKit

def keysOf (p : List (Nat × Key × Blk)) : List Nat := p.map (·.2.1.toNat)

def StEnd (P : Program) (ρ : Nat → Int) (orc : Orc) (nt : Nat) (w0 : W0) (cs : List Frame) (K : List Item) (ops : Array Oper) (pl : List POper) (bf : List Nat) (fr : Frame) (w : World) (μ : Mu) (G : Key → Option Blk) (H : T Blk) (nx : Key) (pend : List (Nat × Key × Blk)) : RS → Prop
  | .fin tm' h' nx' => ∃ tmps' w' μ' G', Steps P (lone fr cs w) (lone { fr with tmps := tmps', todo := K } cs w') ∧ μ.le μ' ∧ MRel P ρ w0 μ' G' nx'.toNat w' ∧ HSub h' G' ∧ TRel ρ μ' nt tm' tmps' ∧ KeptE (keysOf pend) H h' nx nx' μ μ' G G'
  | .ev r items' pend' tm' h' nx' => (∃ n, r = .bad n) ∨ ∃ tmps' w' μ' G' g' i po o ad os its2 items2 rest',
      Steps P (lone fr cs w) (lone { fr with tmps := tmps', todo := .inRegion ops (i :: rest') :: K } cs w') ∧ μ.le μ' ∧ MRel P ρ w0 μ' G' nx'.toNat w' ∧ HSub h' G' ∧
      items' = .H i po ad :: .R os :: items2 ∧ pl[i]? = some po ∧ its2.mapM (fillI pl) = some items2 ∧ chkI ops pl bf (setB (Gh.L g') i) its2 = true ∧ hasB g'.L i = false ∧ (∀ j, j < ops.size → hasB (bfAt bf i) j = true → hasB g'.L j = true) ∧
      (∀ i po, (i, po) ∈ os → pl[i]? = some po ∧ readOk ops bf i = true ∧ kindAt pl i = 0) ∧ (∀ j, hasB g'.L j = true → isReadAt pl j = true → hasB (bfAt bf i) j = true ∨ ∃ po, (j, po) ∈ os) ∧
      SRel P ρ orc nt ops pl bf μ' G' h' nx' g' (fun i => isReadAt pl i = true) pend' tm' tmps' (i :: rest') ∧ ops[i]? = some o ∧ pOper P nt ops o = some po ∧ Region.wanted o (yielded ops tmps') = true ∧
      aOp orc po.op tm' h' nx' = r ∧ ¬ IsVB r ∧ KeptE (keysOf pend) H h' nx nx' μ μ' G G' ∧ (∀ x ∈ keysOf pend', x ∈ keysOf pend ∨ nx.toNat ≤ x)

section
variable {P : Program} {ρ : Nat → Int} {orc : Orc} {nt : Nat} {ops : Array Oper} {pl : List POper} {bf : List Nat} {w0 : W0} {cs : List Frame} {K : List Item}

/- one step more in front -/
theorem StEnd.step {fr : Frame} {w : World} {μ : Mu} {G : Key → Option Blk} {H : T Blk} {nx : Key} {pend : List (Nat × Key × Blk)} {tmps2 : Array Value} {rest2 : List Nat} {w2 : World} {μ2 : Mu} {G2 : Key → Option Blk} {H2 : T Blk} {nx2 : Key} {pend2 : List (Nat × Key × Blk)} {r : RS}
    (hst : Steps P (lone fr cs w) (lone { fr with tmps := tmps2, todo := .inRegion ops rest2 :: K } cs w2)) (hle : μ.le μ2) (hk : KeptE (keysOf pend) H H2 nx nx2 μ μ2 G G2) (hE : ∀ x ∈ keysOf pend2, x ∈ keysOf pend ∨ nx.toNat ≤ x)
    (h : StEnd P ρ orc nt w0 cs K ops pl bf { fr with tmps := tmps2, todo := .inRegion ops rest2 :: K } w2 μ2 G2 H2 nx2 pend2 r) : StEnd P ρ orc nt w0 cs K ops pl bf fr w μ G H nx pend r := by
  cases r with
  | fin tm' h' nx' =>
    obtain ⟨tmps', w', μ', G', s1, s2, s3, s4, s5, s6⟩ := h
    exact ⟨tmps', w', μ', G', hst.trans s1, Mu.le_trans hle s2, s3, s4, s5, hk.trans s6 hE⟩
  | ev rr it pd tm' h' nx' =>
    rcases h with hb | ⟨tmps', w', μ', G', g', i, po, o, ad, os, its2, items2, rest', s1, s2, s3, s4, s5, s6, s7, s8, s9, s10, s11, s12, s13, s14, s15, s16, s17, s18, s19, s20⟩
    · exact .inl hb
    · refine .inr ⟨tmps', w', μ', G', g', i, po, o, ad, os, its2, items2, rest', hst.trans s1, Mu.le_trans hle s2, s3, s4, s5, s6, s7, s8, s9, s10, s11, s12, s13, s14, s15, s16, s17, s18, hk.trans s19 hE, fun x hx => ?_⟩
      rcases s20 x hx with h | h
      · exact hE x h
      · exact .inr (Nat.le_trans hk.n h)

theorem mapM_cons_some {α β : Type} {f : α → Option β} {a : α} {l : List α} {r : List β} (h : (a :: l).mapM f = some r) : ∃ b r', f a = some b ∧ l.mapM f = some r' ∧ r = b :: r' := by
  rw [List.mapM_cons] at h
  cases hf : f a with
  | none => rw [hf] at h; cases h
  | some b =>
    cases hl : l.mapM f with
    | none => rw [hf] at h; simp [hl] at h
    | some r' => rw [hf] at h; simp [hl] at h; exact ⟨b, r', rfl, rfl, h.symm⟩

theorem runSt_L (orc : Orc) (ads : List (Nat × List Nat)) (i : Nat) (o : POper) (rest : List SItem) (pend : List (Nat × Key × Blk)) (tm : T AV) (h : T Blk) (nx : Key) : runSt orc ads (.L i o :: rest) pend tm h nx = (match wantsP o.guard tm with
      | none => .ev (.bad 31) (.L i o :: rest) pend tm h nx
      | some false => putT o.dst (some (.tuple [])) tm fun tm => runSt orc ads rest pend tm h nx
      | some true => match lightOp orc o.op tm (viewH (adAt i ads) pend h) with
        | some v => putT o.dst (some v) tm fun tm => runSt orc ads rest pend tm h nx
        | none => .ev (.bad 32) (.L i o :: rest) pend tm h nx) := rfl
theorem runSt_A (orc : Orc) (ads : List (Nat × List Nat)) (i : Nat) (o : POper) (rest : List SItem) (pend : List (Nat × Key × Blk)) (tm : T AV) (h : T Blk) (nx : Key) : runSt orc ads (.A i o :: rest) pend tm h nx = (match wantsP o.guard tm with
      | none => .ev (.bad 33) (.A i o :: rest) pend tm h nx
      | some false => putT o.dst (some (.tuple [])) tm fun tm => runSt orc ads rest pend tm h nx
      | some true => match allocOp o.op tm with
        | some (v, b) => putT o.dst (some (v nx)) tm fun tm => runSt orc ads rest ((i, nx, b) :: pend) tm h nx.succ
        | none => .ev (.bad 34) (.A i o :: rest) pend tm h nx) := rfl
theorem runSt_H (orc : Orc) (ads : List (Nat × List Nat)) (i : Nat) (o : POper) (l : List Nat) (rest : List SItem) (pend : List (Nat × Key × Blk)) (tm : T AV) (h : T Blk) (nx : Key) : runSt orc ads (.H i o l :: rest) pend tm h nx = (adopt l pend h fun pend h => match wantsP o.guard tm with
      | none => .ev (.bad 35) (.H i o l :: rest) pend tm h nx
      | some false => putT o.dst (some (.tuple [])) tm fun tm => runSt orc ads rest pend tm h nx
      | some true => match aOp orc o.op tm h nx with
        | .val v h nx => putT o.dst (some v) tm fun tm => runSt orc ads rest pend tm h nx
        | r => .ev r (.H i o l :: rest) pend tm h nx) := rfl
theorem runSt_R (orc : Orc) (ads : List (Nat × List Nat)) (os : List (Nat × POper)) (rest : List SItem) (pend : List (Nat × Key × Blk)) (tm : T AV) (h : T Blk) (nx : Key) : runSt orc ads (.R os :: rest) pend tm h nx =
    (bif recheck orc ads pend tm h os then runSt orc ads rest pend tm h nx else .ev (.bad 36) (.R os :: rest) pend tm h nx) := rfl

theorem fillI_os {os : List Nat} {l : List (Nat × POper)} (h : (os.mapM fun i => (pl[i]?).map fun o => (i, o)) = some l) : (∀ i po, (i, po) ∈ l → i ∈ os ∧ pl[i]? = some po) ∧ (∀ i ∈ os, ∃ po, (i, po) ∈ l) := by
  induction os generalizing l with
  | nil => simp at h; subst h; simp
  | cons a os ih =>
    obtain ⟨b, r, h1, h2, rfl⟩ := mapM_cons_some h
    obtain ⟨po, hpo, rfl⟩ := map_some h1
    obtain ⟨e1, e2⟩ := ih h2
    refine ⟨fun i po' hm => ?_, fun i hi => ?_⟩
    · rcases List.mem_cons.1 hm with h | h
      · cases h; exact ⟨by simp, hpo⟩
      · exact ⟨List.mem_cons_of_mem _ (e1 i po' h).1, (e1 i po' h).2⟩
    · rcases List.mem_cons.1 hi with h | h
      · subst h; exact ⟨po, by simp⟩
      · obtain ⟨q, hq⟩ := e2 i h; exact ⟨q, List.mem_cons_of_mem _ hq⟩

theorem G_none {μ : Mu} {G : Key → Option Blk} {nx : Key} {w : World} (hM : MRel P ρ w0 μ G nx.toNat w) : G nx = none := by
  cases h : G nx with
  | none => rfl
  | some B =>
    obtain ⟨l, o, h1, _⟩ := hM.blk nx B h
    exact absurd (hM.new nx l h1) (Nat.lt_irrefl _)

theorem nodup_inj {α : Type} {f : α → Nat} : ∀ {l : List α}, (l.map f).Nodup → ∀ x ∈ l, ∀ y ∈ l, f x = f y → x = y
  | [], _, x, hx, _, _, _ => by cases hx
  | a :: l, h, x, hx, y, hy, e => by
    simp only [List.map_cons, List.nodup_cons] at h
    rcases List.mem_cons.1 hx with hx1 | hx1 <;> rcases List.mem_cons.1 hy with hy1 | hy1
    · rw [hx1, hy1]
    · exact (h.1 (List.mem_map.2 ⟨y, hy1, by rw [← e, hx1]⟩)).elim
    · exact (h.1 (List.mem_map.2 ⟨x, hx1, by rw [e, hy1]⟩)).elim
    · exact nodup_inj h.2 x hx1 y hy1 e

theorem nodup_filter_map {α : Type} {f : α → Nat} (p : α → Bool) {l : List α} (h : (l.map f).Nodup) : ((l.filter p).map f).Nodup :=
  List.Nodup.sublist (List.Sublist.map f List.filter_sublist) h

/- reserved blocks of operations that have been carried out are taken over -/
theorem SRel.adopt {μ : Mu} {G : Key → Option Blk} {H : T Blk} {nx : Key} {g : Gh} {pend : List (Nat × Key × Blk)} {tm : T AV} {tmps : Array Value} {rest : List Nat} (S : SRel P ρ orc nt ops pl bf μ G H nx g (fun _ => False) pend tm tmps rest) {l : List Nat} (hl : ∀ j ∈ l, j < ops.size → g.D j = true) :
    SRel P ρ orc nt ops pl bf μ G (adoptH (pend.filter fun x => memN x.1 l) H) nx g (fun i => isReadAt pl i = true) (pend.filter fun x => !(memN x.1 l)) tm tmps rest := by
  refine ⟨S.reg, S.ord, S.cl, S.sub, S.lrng, S.lcl, S.a1, S.a2, S.sz, S.c1, S.c2, ?_, ?_, nodup_filter_map _ S.nk, nodup_filter_map _ S.ni⟩
  · intro i hi hD
    cases S.pd i hi hD with
    | skip po tmi h1 h2 h3 h4 h5 => exact .skip po tmi h1 h2 h3 h4 fun x hx => h5 x ((List.mem_filter.1 hx).1)
    | light po tmi v h1 h2 h3 hkk h4 h5 h6 =>
      refine .light po tmi v h1 h2 h3 hkk (fun hu => ?_) h5 fun x hx => h6 x ((List.mem_filter.1 hx).1)
      obtain ⟨V, a1, _⟩ := h4 (fun h => h)
      refine ⟨_, ?_, VOk.refl _ _ _ _⟩
      rw [← a1]
      apply lightOp_pure
      have : isReadAt pl i = isRead po.op := by simp [isReadAt, h1]
      rw [this] at hu
      simpa using hu
    | alloc po tmi f B k h1 h2 h3 hkk h4 h5 h6 =>
      refine .alloc po tmi f B k h1 h2 h3 hkk h4 h5 (List.mem_filter.2 ⟨h6, ?_⟩)
      show (!(memN i l)) = true
      cases hm : memN i l with
      | false => rfl
      | true => rw [hl i (memN_mem hm) (S.lrng i hi)] at hD; cases hD
  · intro x hx
    obtain ⟨hx1, hx2⟩ := List.mem_filter.1 hx
    obtain ⟨p1, p2, p3, p4, p5⟩ := S.pe x hx1
    refine ⟨p1, p2, p3, adoptH_none p4 fun y hy e => ?_, p5⟩
    obtain ⟨hy1, hy2⟩ := List.mem_filter.1 hy
    have := nodup_inj S.nk y hy1 x hx1 e
    subst this
    rw [hy2] at hx2; cases hx2

theorem runSt_nil {ads : List (Nat × List Nat)} (hor : OrcOk ρ orc) {rest : List Nat} {g : Gh} {fr : Frame} {w : World} {μ : Mu} {G : Key → Option Blk} {H : T Blk} {nx : Key} {tm : T AV} {pend : List (Nat × Key × Blk)} (hc : chkI ops pl bf g.L [] = true) (hM : MRel P ρ w0 μ G nx.toNat w) (hH : HSub H G)
    (S : SRel P ρ orc nt ops pl bf μ G H nx g (fun _ => False) pend tm fr.tmps rest) (hm : fr.mode = .run) (ht : fr.todo = .inRegion ops rest :: K) : StEnd P ρ orc nt w0 cs K ops pl bf fr w μ G H nx pend (runSt orc ads [] pend tm H nx) := by
  have hall : ∀ j, j < ops.size → hasB g.L j = true := by
    intro j hj
    simp only [chkI, List.all_eq_true] at hc
    exact hc j (by simpa using hj)
  have hrun : runSt orc ads [] pend tm H nx = .fin tm (adoptH pend H) nx := by
    show adoptAll pend H (fun h => RS.fin tm h nx) = _
    rw [adoptAll_eq]
  rw [hrun]
  obtain ⟨tmps', w', μ', G', D', rest', s1, s2, s3, s4, s5, s6, rfl⟩ := run_to_end (cs := cs) hM hH hor S hall hm ht
  have hD : ∀ j, j < ops.size → D' j = true := s5.ord
  refine ⟨tmps', w', μ', G', s1.trans (.one (st_end_region hm rfl)), s2, s3, adoptH_sub s4 (fun x hx => (s5.pe x hx).2.1 (hD _ (s5.lrng _ (s5.pe x hx).1))), ?_, ?_⟩
  · refine ⟨s5.sz, fun k a ha => ?_⟩
    by_cases h : ∃ j, dstO ops j = some k.toNat
    · obtain ⟨j, hj⟩ := h
      have hjl := dst_lt hj
      exact s5.c1 k j a (hD j hjl) hj (by rw [← s5.a1 k j (hall j hjl) hj]; exact ha)
    · have hno : ∀ j, dstO ops j ≠ some k.toNat := fun j hj => h ⟨j, hj⟩
      exact s5.c2 k a (fun j _ => hno j) (by rw [← s5.a2 k (fun j _ => hno j)]; exact ha)
  · refine ⟨fun b hb hg hl => ?_, Nat.le_refl _⟩
    have hne : ∀ x ∈ pend, x.2.1.toNat ≠ b.toNat := fun x hx e => hb (List.mem_map.2 ⟨x, hx, e⟩)
    obtain ⟨k1, k2⟩ := s6 b (fun x hx e => hne x hx (by rw [e]))
    exact ⟨k1, k2, adoptH_none hg hne⟩

theorem runSt_sound {ads : List (Nat × List Nat)} (hads : adsOk bf ads = true) (hor : OrcOk ρ orc) : ∀ (n : Nat) (its : List IIt) (items : List SItem) (rest : List Nat) (g : Gh) (fr : Frame) (w : World) (μ : Mu) (G : Key → Option Blk) (H : T Blk) (nx : Key) (tm : T AV) (pend : List (Nat × Key × Blk)), its.length ≤ n →
    its.mapM (fillI pl) = some items → chkI ops pl bf g.L its = true → MRel P ρ w0 μ G nx.toNat w → HSub H G → SRel P ρ orc nt ops pl bf μ G H nx g (fun _ => False) pend tm fr.tmps rest → fr.mode = .run → fr.todo = .inRegion ops rest :: K →
    StEnd P ρ orc nt w0 cs K ops pl bf fr w μ G H nx pend (runSt orc ads items pend tm H nx) := by
  intro n
  induction n with
  | zero =>
    intro its items rest g fr w μ G H nx tm pend hn hf hc hM hH S hm ht
    have : its = [] := List.eq_nil_of_length_eq_zero (by omega)
    subst this
    simp at hf
    subst hf
    exact runSt_nil hor hc hM hH S hm ht
  | succ n ih =>
    intro its items rest g fr w μ G H nx tm pend hn hf hc hM hH S hm ht
    cases its with
    | nil =>
      simp at hf
      subst hf
      exact runSt_nil hor hc hM hH S hm ht
    | cons x its =>
      obtain ⟨y, items', hy, hf', rfl⟩ := mapM_cons_some hf
      have hn' : its.length ≤ n := by simpa using hn
      have hrefl : Steps P (lone fr cs w) (lone { fr with tmps := fr.tmps, todo := .inRegion ops rest :: K } cs w) := by rw [← ht]; exact Steps.refl _ _
      cases x with
      | L i =>
        obtain ⟨po, hpl, rfl⟩ := map_some hy
        simp only [chkI, Bool.and_eq_true, bltN_eq, decide_eq_true_eq, Bool.not_eq_true', subB_spec] at hc
        obtain ⟨⟨⟨⟨hi, hk⟩, hL⟩, hb⟩, hc⟩ := hc
        have hk := Nat.eq_of_beq_eq_true hk
        have hii : hasB (bfAt bf i) i = false := by
          cases h : hasB (bfAt bf i) i with
          | false => rfl
          | true => have := hb i hi h; rw [hL] at this; cases this
        have htm := S.tm_ok hi hL hb
        have hnp : ∀ x ∈ pend, x.1 ≠ i := by
          intro x hx e
          have := (S.pe x hx).1
          rw [e, hL] at this; cases this
        rw [runSt_L]
        cases hw : wantsP po.guard tm with
        | none => exact Or.inl ⟨_, rfl⟩
        | some b =>
          cases b with
          | false =>
            simp only [putT_eq]
            have S' := S.add (nx' := nx) (pend' := pend) (v := .tuple []) hpl hL hb (fun _ h => h) (fun _ h => .inl h) (.skip po tm hpl (tmOk_upd hii htm) hw (by simp [updN]) hnp) (fun y hy hny => absurd hy hny) (Nat.le_refl _) S.nk S.ni
            exact ih its items' rest _ fr w μ G H nx _ pend hn' hf' hc hM hH S' hm ht
          | true =>
            cases hl : lightOp orc po.op tm (viewH (adAt i ads) pend H) with
            | none => exact Or.inl ⟨_, rfl⟩
            | some v =>
              simp only [putT_eq]
              have S' := S.add (nx' := nx) (pend' := pend) (v := v) hpl hL hb (fun _ h => h) (fun _ h => .inl h) (.light po tm v hpl (tmOk_upd hii htm) hw hk (fun _ => ⟨_, hl, VOk.view hads _ _ _⟩) (by simp [updN]) hnp) (fun y hy hny => absurd hy hny) (Nat.le_refl _) S.nk S.ni
              exact ih its items' rest _ fr w μ G H nx _ pend hn' hf' hc hM hH S' hm ht
      | A i =>
        obtain ⟨po, hpl, rfl⟩ := map_some hy
        simp only [chkI, Bool.and_eq_true, bltN_eq, decide_eq_true_eq, Bool.not_eq_true', subB_spec] at hc
        obtain ⟨⟨⟨⟨hi, hk⟩, hL⟩, hb⟩, hc⟩ := hc
        have hk := Nat.eq_of_beq_eq_true hk
        have hii : hasB (bfAt bf i) i = false := by
          cases h : hasB (bfAt bf i) i with
          | false => rfl
          | true => have := hb i hi h; rw [hL] at this; cases this
        have htm := S.tm_ok hi hL hb
        have hnp : ∀ x ∈ pend, x.1 ≠ i := by
          intro x hx e
          have := (S.pe x hx).1
          rw [e, hL] at this; cases this
        have hss := Key.toNat_succ nx
        rw [runSt_A]
        cases hw : wantsP po.guard tm with
        | none => exact Or.inl ⟨_, rfl⟩
        | some b =>
          cases b with
          | false =>
            simp only [putT_eq]
            have S' := S.add (nx' := nx) (pend' := pend) (v := .tuple []) hpl hL hb (fun _ h => h) (fun _ h => .inl h) (.skip po tm hpl (tmOk_upd hii htm) hw (by simp [updN]) hnp) (fun y hy hny => absurd hy hny) (Nat.le_refl _) S.nk S.ni
            exact ih its items' rest _ fr w μ G H nx _ pend hn' hf' hc hM hH S' hm ht
          | true =>
            cases hl : allocOp po.op tm with
            | none => exact Or.inl ⟨_, rfl⟩
            | some fB =>
              obtain ⟨f, B⟩ := fB
              simp only [putT_eq]
              have hgn := G_none hM
              have hHn : T.get nx H = none := by
                cases h : T.get nx H with
                | none => rfl
                | some B => rw [hH nx B h] at hgn; cases hgn
              have S' := S.add (nx' := nx.succ) (pend' := (i, nx, B) :: pend) (v := f nx) hpl hL hb (fun _ h => List.mem_cons_of_mem _ h) (fun y h => by rcases List.mem_cons.1 h with h | h; exact .inr (by rw [h]); exact .inl h)
                (.alloc po tm f B nx hpl (tmOk_upd hii htm) hw hk hl (by simp [updN]) (by simp))
                (fun y hy hny => by
                  have : y = (i, nx, B) := (List.mem_cons.1 hy).resolve_right hny
                  subst this
                  exact ⟨hM.nx_none, hgn, hHn, by show nx.toNat < nx.succ.toNat; omega⟩) (by omega)
                (by
                  simp only [List.map_cons, List.nodup_cons]
                  refine ⟨fun h => ?_, S.nk⟩
                  obtain ⟨x, hx, e⟩ := List.mem_map.1 h
                  have := (S.pe x hx).2.2.2.2
                  omega)
                (by
                  simp only [List.map_cons, List.nodup_cons]
                  refine ⟨fun h => ?_, S.ni⟩
                  obtain ⟨x, hx, e⟩ := List.mem_map.1 h
                  exact hnp x hx e)
              have := ih its items' rest _ fr w μ G H nx.succ _ ((i, nx, B) :: pend) hn' hf' hc (hM.nx_le (by omega)) hH S' hm ht
              refine StEnd.step (tmps2 := fr.tmps) (rest2 := rest) (w2 := w) (pend2 := (i, nx, B) :: pend) hrefl μ.le_refl ⟨fun b _ hg hl => ⟨rfl, rfl, hg⟩, Nat.le_of_lt (show nx.toNat < nx.succ.toNat by omega)⟩ ?_ (by rw [← ht]; exact this)
              intro x hx
              simp only [keysOf, List.map_cons, List.mem_cons] at hx
              rcases hx with h | h
              · exact .inr (Nat.le_of_eq h.symm)
              · exact .inl h
      | H i ad =>
        obtain ⟨po, hpl, rfl⟩ := map_some hy
        cases its with
        | nil => simp [chkI] at hc
        | cons x2 its2 =>
        cases x2 with
        | L _ => simp [chkI] at hc
        | A _ => simp [chkI] at hc
        | H _ _ => simp [chkI] at hc
        | R osn =>
        obtain ⟨y2, items2, hy2, hf2, rfl⟩ := mapM_cons_some hf'
        obtain ⟨os, hos, rfl⟩ := map_some hy2
        obtain ⟨hos1, hos2⟩ := fillI_os hos
        have hn2 : its2.length ≤ n := by simp at hn; omega
        simp only [chkI, Bool.and_eq_true, bltN_eq, decide_eq_true_eq, Bool.not_eq_true', subB_spec] at hc
        obtain ⟨⟨⟨⟨⟨⟨⟨⟨hi, hk⟩, hL⟩, hb⟩, hnext⟩, had⟩, hcov⟩, hosk⟩, hc⟩ := hc
        have hk := Nat.eq_of_beq_eq_true hk
        have hosA : ∀ j q, (j, q) ∈ os → pl[j]? = some q ∧ readOk ops bf j = true ∧ kindAt pl j = 0 := by
          intro j q hj
          obtain ⟨e1, e2⟩ := hos1 j q hj
          have := List.all_eq_true.1 hosk j e1
          simp only [Bool.and_eq_true] at this
          exact ⟨e2, this.2, Nat.eq_of_beq_eq_true this.1.2⟩
        have hcovA : ∀ j, hasB g.L j = true → isReadAt pl j = true → hasB (bfAt bf i) j = true ∨ ∃ q, (j, q) ∈ os := by
          intro j hj hr
          have := List.all_eq_true.1 hcov j (by simpa using S.lrng j hj)
          simp only [hj, hr, Bool.not_true, Bool.false_or, Bool.or_eq_true] at this
          rcases this with h | h
          · exact .inl h
          · exact .inr (hos2 j (by simpa using h))
        have hnextA : ∀ j, j < ops.size → hasB g.L j = true ∨ j = i ∨ ∃ q, q < ops.size ∧ hasB (bfAt bf j) q = true ∧ hasB g.L q = false := by
          intro j hj
          have := List.all_eq_true.1 hnext j (by simpa using hj)
          simp only [Bool.or_eq_true, Bool.not_eq_true'] at this
          rcases this with (h | h) | h
          · exact .inl h
          · exact .inr (.inl (Nat.eq_of_beq_eq_true h))
          · refine .inr (.inr (Classical.byContradiction fun hno => ?_))
            have : subB ops.size (bfAt bf j) g.L = true := subB_spec.2 fun q hq hbq => by
              cases hLq : hasB g.L q with
              | true => rfl
              | false => exact absurd ⟨q, hq, hbq, hLq⟩ hno
            rw [this] at h; cases h
        obtain ⟨tmps1, w1, μ1, G1, D1, rest1, s1, s2, s3, s4, S1, s6, r1, rfl⟩ := run_to_heavy (cs := cs) hM hH hor S hi hL hnextA hm ht
        have hadD : ∀ j ∈ ad, j < ops.size → D1 j = true := by
          intro j hj hjl
          exact S1.ready.2.2 j hjl (List.all_eq_true.1 had j hj)
        have S2 := S1.adopt (l := ad) hadD
        rw [runSt_H, adopt_eq]
        generalize hpf : (pend.filter fun x => !(memN x.1 ad)) = pend2 at S2
        generalize hHf : adoptH (pend.filter fun x => memN x.1 ad) H = H2 at S2
        have hH2 : HSub H2 G1 := by
          rw [← hHf]
          refine adoptH_sub s4 fun x hx => ?_
          obtain ⟨hx1, hx2⟩ := List.mem_filter.1 hx
          exact (S1.pe x hx1).2.1 (hadD _ (memN_mem hx2) (S1.lrng _ (S1.pe x hx1).1))
        have hsubp : ∀ x ∈ pend2, x ∈ pend := by intro x hx; rw [← hpf] at hx; exact (List.mem_filter.1 hx).1
        have hsubk : ∀ x ∈ keysOf pend2, x ∈ keysOf pend ∨ nx.toNat ≤ x := by
          intro x hx
          obtain ⟨y, hy, e⟩ := List.mem_map.1 hx
          exact .inl (List.mem_map.2 ⟨y, hsubp y hy, e⟩)
        have hK2 : KeptE (keysOf pend) H H2 nx nx μ μ1 G G1 := by
          refine ⟨fun b hb' hg hlt => ?_, Nat.le_refl _⟩
          have hne : ∀ x ∈ pend, x.2.1.toNat ≠ b.toNat := fun x hx e => hb' (List.mem_map.2 ⟨x, hx, e⟩)
          obtain ⟨k1, k2⟩ := s6 b (fun x hx e => hne x hx (by rw [e]))
          rw [← hHf]
          exact ⟨k1, k2, adoptH_none hg fun x hx => hne x ((List.mem_filter.1 hx).1)⟩
        obtain ⟨o, po', hoi, hpo, hpl'⟩ := S.reg.at hi
        rw [hpl] at hpl'; cases hpl'
        obtain ⟨hop, hgu, hdst⟩ := pOper_spec hpo
        have hsl := S2.slotsHeavy hL hb hoi
        have hE := erel_of (P := P) (nt := nt) (o := o) (fr := { fr with tmps := tmps1, todo := .inRegion ops (i :: r1) :: K }) s3 hsl
        have go : ∀ (a : AV) (v : Value) (w3 : World) (μ3 : Mu) (G3 : Key → Option Blk) (H3 : T Blk) (nx3 : Key), step P (lone { fr with tmps := tmps1, todo := .inRegion ops (i :: r1) :: K } cs w1) = .next (lone { fr with tmps := putA o.dst v tmps1, todo := .inRegion ops r1 :: K } cs w3) →
            VRel ρ μ3 a v → μ1.le μ3 → MRel P ρ w0 μ3 G3 nx3.toNat w3 → HSub H3 G3 → Kept H2 H3 nx nx3 μ1 μ3 G1 G3 → StEnd P ρ orc nt w0 cs K ops pl bf fr w μ G H nx pend (runSt orc ads (.R os :: items2) pend2 (putTm po.dst a tm) H3 nx3) := by
          intro a v w3 μ3 G3 H3 nx3 hst hv hle hM3 hH3 hK3
          have S3 := S2.keep hle hK3.n (G' := G3) (H' := H3) (fun x hx => by
            obtain ⟨p1, p2, p3, p4, p5⟩ := S2.pe x hx
            exact ⟨hK3.m _ p5, hK3.g _ p4 p5, hK3.h _ p4 p5⟩)
          have S4 := S3.heavy hpl hL hb hoi hv
          rw [runSt_R]
          cases hrc : recheck orc ads pend2 (putTm po.dst a tm) H3 os with
          | false => exact Or.inl ⟨_, rfl⟩
          | true =>
            simp only [cond_true]
            have S5 := S4.rechecked hads hrc hosA (by
              intro j hj hDj hrj
              have hDj : (D1 j || j == i) = false := hDj
              rw [Bool.or_eq_false_iff] at hDj
              have hne : j ≠ i := by simpa using hDj.2
              have hj : hasB (setB g.L i) j = true := hj
              rw [hasB_set, Bool.or_eq_true, decide_eq_true_eq] at hj
              have hjL := hj.resolve_right (fun e => hne e.symm)
              rcases hcovA j hjL hrj with h | h
              · have := S1.ready.2.2 j (S.lrng j hjL) h
                have : D1 j = true := this
                rw [hDj.1] at this; cases this
              · exact h)
            have hE3 := ih its2 items2 r1 _ { fr with tmps := putA o.dst v tmps1, todo := .inRegion ops r1 :: K } w3 μ3 G3 H3 nx3 _ pend2 hn2 hf2 hc hM3 hH3 S5 hm rfl
            exact StEnd.step (s1.trans (.one hst)) (Mu.le_trans s2 hle) (hK2.trans (hK3.toE (keysOf pend2)) hsubk) (fun x hx => (hsubk x hx)) hE3
        have evt : ∀ r : OR, Region.wanted o (yielded ops tmps1) = true → aOp orc po.op tm H2 nx = r → ¬ IsVB r → StEnd P ρ orc nt w0 cs K ops pl bf fr w μ G H nx pend (.ev r (.H i po ad :: .R os :: items2) pend2 tm H2 nx) := by
          intro r hwant ha hr
          exact Or.inr ⟨tmps1, w1, μ1, G1, { g with D := D1 }, i, po, o, ad, os, its2, items2, r1, s1, s2, s3, hH2, rfl, hpl, hf2, hc, hL, hb, hosA, hcovA, S2, hoi, hpo, hwant, ha, hr, hK2, hsubk⟩
        show StEnd P ρ orc nt w0 cs K ops pl bf fr w μ G H nx pend (match wantsP po.guard tm with
          | none => .ev (.bad 35) (.H i po ad :: .R os :: items2) pend2 tm H2 nx
          | some false => putT po.dst (some (.tuple [])) tm fun tm => runSt orc ads (.R os :: items2) pend2 tm H2 nx
          | some true => match aOp orc po.op tm H2 nx with
            | .val v h nx => putT po.dst (some v) tm fun tm => runSt orc ads (.R os :: items2) pend2 tm h nx
            | r => .ev r (.H i po ad :: .R os :: items2) pend2 tm H2 nx)
        cases hw : wantsP po.guard tm with
        | none => exact Or.inl ⟨_, rfl⟩
        | some b =>
          have hwant := wanted_of hgu hsl hw
          cases b with
          | false =>
            simp only [putT_eq]
            have hst := st_op_skip (P := P) (cs := cs) (w := w1) (fr := { fr with tmps := tmps1, todo := .inRegion ops (i :: r1) :: K }) hm rfl hoi hwant
            rw [finish_region rfl hoi] at hst
            exact go _ _ w1 μ1 G1 H2 nx hst (.tuple _ _ .nil) μ1.le_refl s3 hH2 (Kept.refl _ _ _ _)
          | true =>
            cases ha : aOp orc po.op tm H2 nx with
            | val a H3 nx3 =>
              simp only [putT_eq]
              obtain ⟨n, w3, μ3, G3, q1, q2, q3, q4, q5, q6⟩ := val_sound s3 hH2 hor hop hE ha
              have hnd : fr.roundOf = none ∨ isDefer o.op = false := .inr (not_defer hop (by rw [ha]; intro f l e; cases e) (by rw [ha]; intro n e; cases e))
              cases n with
              | value v =>
                have hst := st_val (P := P) (cs := cs) (fr := { fr with tmps := tmps1, todo := .inRegion ops (i :: r1) :: K }) hm rfl hoi hwant hnd q1
                rw [finish_region rfl hoi] at hst
                exact go _ _ w3 μ3 G3 H3 nx3 hst q2 q3 q4 q5 q6
              | skip =>
                have q2 : a = .tuple [] := q2
                subst q2
                have hst := st_unit (P := P) (cs := cs) (fr := { fr with tmps := tmps1, todo := .inRegion ops (i :: r1) :: K }) hm rfl hoi hwant hnd q1
                rw [finish_region rfl hoi] at hst
                exact go _ _ w3 μ3 G3 H3 nx3 hst (.tuple _ _ .nil) q3 q4 q5 q6
              | _ => exact q2.elim
            | bad n => exact Or.inl ⟨_, rfl⟩
            | call f args => exact evt _ hwant ha (by rintro (⟨_, _, _, e⟩ | ⟨_, e⟩) <;> cases e)
            | yld k args => exact evt _ hwant ha (by rintro (⟨_, _, _, e⟩ | ⟨_, e⟩) <;> cases e)
            | pan v => exact evt _ hwant ha (by rintro (⟨_, _, _, e⟩ | ⟨_, e⟩) <;> cases e)
            | dfr f args => exact evt _ hwant ha (by rintro (⟨_, _, _, e⟩ | ⟨_, e⟩) <;> cases e)
            | recover => exact evt _ hwant ha (by rintro (⟨_, _, _, e⟩ | ⟨_, e⟩) <;> cases e)
            | alt la => exact evt _ hwant ha (by rintro (⟨_, _, _, e⟩ | ⟨_, e⟩) <;> cases e)
      | R os => simp [chkI] at hc
end
end Go.Sx
