/-
  SX: operations that make a block. No condition.
-/
import Derived.Test.YtdghbgpolijpcaaGreatDoorMLight
set_option linter.unusedSimpArgs false
set_option linter.unusedVariables false
set_option linter.unusedSectionVars false
namespace Go.Sx
open Go.RowKit

theorem cond_none {α : Type} {b : Bool} {x : Option α} {y : α} (h : (bif b then none else x) = some y) : b = false ∧ x = some y := by
  cases b with
  | false => exact ⟨rfl, h⟩
  | true => cases h

theorem flatten_get {α : Type} (zs : List α) (hz : 0 < zs.length) : ∀ (n i : Nat), i < n * zs.length → (List.replicate n zs).flatten[i]? = zs[i % zs.length]?
  | 0, i, h => by simp at h
  | n + 1, i, h => by
    rw [List.replicate_succ, List.flatten_cons]
    by_cases hi : i < zs.length
    · rw [List.getElem?_append_left hi, Nat.mod_eq_of_lt hi]
    · rw [List.getElem?_append_right (by omega), flatten_get zs hz n (i - zs.length) (by rw [Nat.add_mul] at h; omega)]
      congr 1
      rw [Nat.mod_eq_sub_mod (by omega : zs.length ≤ i)]
theorem flatten_len {α : Type} (zs : List α) (n : Nat) : (List.replicate n zs).flatten.length = n * zs.length := by
  induction n with
  | zero => simp
  | succ n ih => rw [List.replicate_succ, List.flatten_cons, List.length_append, ih, Nat.add_mul]; omega

section
variable {P : Program} {ρ : Nat → Int} {w0 : W0} {w : World} {μ : Mu} {G : Key → Option Blk} {nx : Nat} {orc : Orc} {nt : Nat} {tm : T AV} {H : T Blk} {ev : Operand → Value}

theorem range_rel {zs : List AV} {z : Array Value} (h : VRels ρ μ zs z.toList) (n : Nat) :
    VRels ρ μ (List.replicate n zs).flatten ((Array.range (n * z.size)).map (z[· % z.size]!)).toList := by
  have hlen : zs.length = z.size := by rw [h.length]; simp
  by_cases h0 : z.size = 0
  · have : zs = [] := List.eq_nil_of_length_eq_zero (by omega)
    subst this
    have e : (List.replicate n ([] : List AV)).flatten = [] := by simp
    rw [e, h0]
    simp
    exact .nil
  · refine VRels.of_get ?_ ?_
    · rw [flatten_len]; simp [hlen]
    · intro i a ha
      have hi : i < n * zs.length := by
        rcases Nat.lt_or_ge i (n * zs.length) with h' | h'
        · exact h'
        · rw [List.getElem?_eq_none (by rw [flatten_len]; exact h')] at ha; cases ha
      rw [flatten_get zs (by omega) n i hi] at ha
      obtain ⟨v, hv, hr⟩ := h.get _ a ha
      refine ⟨v, ?_, hr⟩
      rw [hlen] at hi hv
      have hv' : z[i % z.size]? = some v := by simpa using hv
      have hlt : i % z.size < z.size := Nat.mod_lt _ (by omega)
      simp [hi]
      rw [getElem!_pos z _ hlt]
      rw [getElem?_pos z _ hlt] at hv'
      simpa using hv'

theorem cells_brel {L : List AV} {vs : Array Value} (h : VRels ρ μ L vs.toList) (c : Nat) (elem : TypeId) : BRel P ρ μ (.cells L .fix) ⟨c, 0, vs.size⟩ (.cells vs elem (0, 0)) := by
  have hl : L.length = vs.size := by rw [h.length]; simp
  refine .cells L .fix _ vs elem (0, 0) ?_ (by simp) (Nat.le_of_eq hl) (fun _ => rfl) (fun _ => hl)
  intro i a ha
  obtain ⟨v, hv, hr⟩ := h.get i a ha
  exact ⟨v, by simpa using hv, hr⟩

theorem run_newRowS (elem : TypeId) (cells : Array Value) : (newRow elem cells).run P w = .ok ⟨w.heap.size, 0, none⟩ (w.alloc (.cells cells elem)) := rfl

theorem wrap_small (n : Nat) (hn : n ≤ 65536) : IntKind.i64.wrap (n : Int) = n := by
  rw [← wrapF_eq]
  have hm : Int.emod (n : Int) 18446744073709551616 = n := by show (n : Int) % 18446744073709551616 = n; omega
  have hlt : ltI (n : Int) 9223372036854775808 = true := by rw [ltI_eq, decide_eq_true_eq]; omega
  simp only [wrapF, full, half, hm, hlt, cond_true]

/- what an allocation leaves -/
def Made (P : Program) (ρ : Nat → Int) (w0 : W0) (μ : Mu) (G : Key → Option Blk) (w : World) (o : Oper) (ev : Operand → Value) (a : AV) (k : Key) (B : Blk) (nx' : Nat) : Prop :=
  ∃ v w' l, (Go.execOp ev o).run P w = .ok (.value v) w' ∧ μ.le (μ.put k l) ∧ MRel P ρ w0 (μ.put k l) (upd G k (some B)) nx' w' ∧ VRel ρ (μ.put k l) a v

theorem made_row (hM : MRel P ρ w0 μ G nx w) {k : Key} (hk : μ k = none) {nx' : Nat} (hn : nx ≤ nx') (hkn : k.toNat < nx') {L : List AV} {vs : Array Value} (hL : VRels ρ μ L vs.toList) (elem : TypeId) :
    μ.le (μ.put k ⟨w.heap.size, 0, vs.size⟩) ∧ MRel P ρ w0 (μ.put k ⟨w.heap.size, 0, vs.size⟩) (upd G k (some (.cells L .fix))) nx' (w.alloc (.cells vs elem)) := by
  have hle : μ.le (μ.put k ⟨w.heap.size, 0, vs.size⟩) := Mu.le_put (.inl hk)
  exact hM.alloc k (.cells L .fix) (.cells vs elem) vs.size hk (cells_brel (hL.mono hle) _ _) hn hkn

theorem alloc_sound (hM : MRel P ρ w0 μ G nx w) {o : Oper} {op : POp} (hp : pOp P nt o = some op)
    (hE : ERel P ρ μ nt o.op.operands.toList tm ev) {f : Key → AV} {B : Blk} (hl : allocOp op tm = some (f, B)) {k : Key} (hk : μ k = none) {nx' : Nat} (hn : nx ≤ nx') (hkn : k.toNat < nx') :
    Made P ρ w0 μ G w o ev (f k) k B nx' := by
  obtain ⟨dst, cop, ty, pos, after, guard⟩ := o
  cases cop with
  | alloc t =>
    simp only [pOp] at hp
    split at hp
    · rename_i ti hti
      obtain ⟨i, d, z, hi, hd, hz, hzv, hsz, hag⟩ := tyI_spec hti
      simp only [Option.some.injEq] at hp; subst hp
      simp only [allocOp, Option.some.injEq, Prod.mk.injEq] at hl
      obtain ⟨rfl, rfl⟩ := hl
      have hzr : VRels ρ μ ti.zero.cells z.cells.toList := (ofVal_rel depthV z ti.zero hzv).cells
      obtain ⟨h1, h2⟩ := made_row hM hk hn hkn hzr t
      refine ⟨.pointer (some ⟨w.heap.size, 0, none⟩), w.alloc (.cells z.cells t), _, ?_, h1, h2, .ptr _ _ _ _ (Mu.put_same _ _ _) rfl⟩
      simp only [Go.execOp]
      refine run_v ?_
      simp [Instr.alloc, run_zeroS hi hz, newVar, run_newRowS]
    · cases hp
  | box t x =>
    obtain ⟨px, hx, rfl⟩ := map_some hp
    simp only [allocOp] at hl
    split at hl
    · rename_i u hu
      simp only [Option.some.injEq, Prod.mk.injEq] at hl
      obtain ⟨rfl, rfl⟩ := hl
      have hv := (hE x (by simp [Op.operands]) px u hx hu).cells
      obtain ⟨h1, h2⟩ := made_row hM hk hn hkn hv t
      refine ⟨.pointer (some ⟨w.heap.size, 0, none⟩), w.alloc (.cells (ev x).cells t), _, ?_, h1, h2, .ptr _ _ _ _ (Mu.put_same _ _ _) rfl⟩
      simp only [Go.execOp]
      refine run_v ?_
      simp [Instr.box, newVar, run_newRowS]
    · cases hl
  | buildSlice t len parts =>
    simp only [pOp] at hp
    split at hp
    · rename_i e hu
      split at hp
      · rename_i ie hie
        obtain ⟨i, d, z, hi, hd, hz, hzv, hsz, hag⟩ := tyI_spec hie
        replace hp := cond_some hp; obtain ⟨hc, hp⟩ := hp
        simp only [Bool.and_eq_true, Nat.ble_eq, bltN_eq, decide_eq_true_eq] at hc
        have hzl := Nat.eq_of_beq_eq_true hc.2
        split at hp
        · rename_i ps hps
          simp only [Option.some.injEq] at hp; subst hp
          simp only [allocOp] at hl
          split at hl
          · rename_i cs hcs
            simp only [Option.some.injEq, Prod.mk.injEq] at hl
            obtain ⟨rfl, rfl⟩ := hl
            have hzr : VRels ρ μ ie.zero.cells z.cells.toList := (ofVal_rel depthV z ie.zero hzv).cells
            have hzs : z.cells.size = i.size := by rw [← hsz, ← hzl, hzr.length]; simp
            have hrep := range_rel hzr len
            rw [repL_eq, List.append_nil] at hcs
            have hmem : ∀ y ∈ parts.toList.map (·.2), y ∈ (Op.buildSlice t len parts).operands.toList := by
              intro y hy; simpa [Op.operands] using hy
            obtain ⟨vs', hf, hr⟩ := fillP_sound (vs := (Array.range (len * z.cells.size)).map (z.cells[· % z.cells.size]!)) hps hcs (hE.sub hmem) hrep
            obtain ⟨h1, h2⟩ := made_row hM hk hn hkn hr e
            have hvl : vs'.size = len * ie.size := by
              have hlen : ∀ (place : Nat → Option (Nat × Nat)) (l : List (Nat × Value)) (a b : Array Value), Instr.fill place a l = some b → b.size = a.size := by
                intro place l
                induction l with
                | nil => intro a b h; simp only [Instr.fill, Option.some.injEq] at h; rw [h]
                | cons x l ih =>
                  obtain ⟨i, v⟩ := x
                  intro a b h
                  simp only [Instr.fill] at h
                  split at h
                  · cases h
                  · split at h
                    · cases h
                    · rw [ih _ _ h]
                      rw [← Array.foldl_toList]
                      have hf : ∀ (l : List (Value × Nat)) (a : Array Value) (off : Nat), (l.foldl (fun (cs : Array Value) (p : Value × Nat) => cs.setIfInBounds (off + p.2) p.1) a).size = a.size := by
                        intro l
                        induction l with
                        | nil => intros; rfl
                        | cons x l ih => intro a off; rw [List.foldl_cons, ih]; simp
                      exact hf _ _ _
              rw [hlen _ _ _ _ hf]
              simp [hzs, hsz]
            refine ⟨.slice (some ⟨w.heap.size, 0, none⟩) len len, w.alloc (.cells vs' e), _, ?_, h1, h2, ?_⟩
            · simp only [Go.execOp]
              refine run_v ?_
              have hmap : (parts.map fun (i, x) => (i, ev x)).toList = parts.toList.map fun (i, x) => (i, ev x) := by simp
              have hle : ¬ (len * i.size > 2 ^ 24) := by rw [← hsz]; omega
              simp only [Instr.buildSlice, Sem.run_bind, run_underlyingS hu, Result.andThen_ok, run_sizeOfS hi, if_neg hle]
              by_cases h0 : len * i.size = 0
              · have hlen0 : len = 0 := by
                  rcases Nat.mul_eq_zero.1 h0 with h | h
                  · exact h
                  · omega
                subst hlen0
                have : (Array.range (0 * z.cells.size)).map (z.cells[· % z.cells.size]!) = #[] := by simp
                rw [this] at hf
                simp only [h0, if_true, Sem.run_bind, Sem.run_pure, Result.andThen_ok]
                rw [hmap]
                have e0 : (Array.map (fun x => (#[] : Array Value)[x % (#[] : Array Value).size]!) (Array.range 0)) = #[] := by simp
                rw [e0, ← hsz, hf]
                simp [run_newRowS]
              · simp only [h0, if_false, Sem.run_bind, run_zeroS hi hz, Result.andThen_ok, Sem.run_pure]
                rw [hmap]
                rw [hzs] at hf
                rw [← hsz] at hf ⊢
                rw [hzs, ← hsz, hf]
                simp [run_newRowS]
            · refine .slice k 0 len ie.size len _ _ (Mu.put_same _ _ _) (by simp [hvl]) (Nat.le_refl _) (.inr rfl)
          · cases hl
        · cases hp
      · cases hp
    · cases hp
  | makeMap t r =>
    cases r with
    | some r => simp [pOp] at hp
    | none =>
      simp only [pOp, Option.some.injEq] at hp; subst hp
      simp only [allocOp, Option.some.injEq, Prod.mk.injEq] at hl
      obtain ⟨rfl, rfl⟩ := hl
      obtain ⟨h1, h2⟩ := hM.alloc k (.map []) (.map #[] 0) 0 hk (.map _ _ _ _ trivial (by simp) rfl) hn hkn
      refine ⟨.map (some w.heap.size), w.alloc (.map #[] 0), _, ?_, h1, h2, .map _ _ _ (Mu.put_same _ _ _) rfl⟩
      simp [Go.execOp, Instr.makeMap]
  | makeSlice t l c =>
    simp only [pOp] at hp
    split at hp
    · rename_i e hu
      split at hp
      · rename_i ie pl pc hie hpl hpc
        obtain ⟨i, d, z, hi, hd, hz, hzv, hsz, hag⟩ := tyI_spec hie
        split at hp
        · rename_i i' hi'
          rw [hi] at hi'; cases hi'
          replace hp := cond_some hp; obtain ⟨hc, hp⟩ := hp
          simp only [Bool.and_eq_true, Nat.ble_eq, bltN_eq, decide_eq_true_eq] at hc
          have hzl := Nat.eq_of_beq_eq_true hc.1.2
          simp only [Option.some.injEq] at hp; subst hp
          simp only [allocOp] at hl
          split at hl
          · rename_i va vc ha hcc
            split at hl
            · rename_i nl nc hnl hnc
              replace hl := cond_some hl; obtain ⟨hlc, hl⟩ := hl
              simp only [Bool.and_eq_true, Nat.ble_eq] at hlc
              simp only [Option.some.injEq, Prod.mk.injEq] at hl
              obtain ⟨rfl, rfl⟩ := hl
              obtain ⟨k1, e1⟩ := natOf_sound hnl (hE l (by simp [Op.operands]) pl _ hpl ha)
              obtain ⟨k2, e2⟩ := natOf_sound hnc (hE c (by simp [Op.operands]) pc _ hpc hcc)
              have hzr : VRels ρ μ ie.zero.cells z.cells.toList := (ofVal_rel depthV z ie.zero hzv).cells
              have hzs : z.cells.size = i.size := by rw [← hsz, ← hzl, hzr.length]; simp
              have hrep := range_rel hzr nc
              rw [repL_eq, List.append_nil]
              obtain ⟨h1, h2⟩ := made_row hM hk hn hkn hrep e
              have hwr : ∀ n : Nat, n ≤ 65536 → IntKind.i64.wrap (n : Int) = n := fun n hn => wrap_small n hn
              refine ⟨.slice (some ⟨w.heap.size, 0, none⟩) nl nc, w.alloc (.cells ((Array.range (nc * z.cells.size)).map (z.cells[· % z.cells.size]!)) e), _, ?_, h1, h2, ?_⟩
              · simp only [Go.execOp]
                refine run_v ?_
                have hb : i.bytes * nc ≤ 65536 * 65536 := Nat.mul_le_mul hc.2 hlc.2
                have hb' : ¬ ((i.bytes : Int) * (nc : Int) > 2 ^ 48) := by
                  have : ((i.bytes * nc : Nat) : Int) ≤ ((65536 * 65536 : Nat) : Int) := by exact_mod_cast hb
                  have e : ((i.bytes * nc : Nat) : Int) = (i.bytes : Int) * (nc : Int) := by simp
                  rw [← e]
                  omega
                have hneg : ¬ ((nc : Int) < 0) := by omega
                have hneg2 : ¬ ((nl : Int) < 0) := by omega
                have hgt : ¬ ((nl : Int) > (nc : Int)) := by omega
                simp only [e1, e2, Instr.makeSlice, Sem.run_bind, run_underlyingS hu, Result.andThen_ok, asInt, asIntOf, Sem.run_pure, run_typeInfoS hi, hwr nl (by omega), hwr nc (by omega), decide_eq_false hneg, decide_eq_false hb', decide_eq_false hneg2, decide_eq_false hgt, Bool.or_self, Bool.false_eq_true, if_false, run_askRoom, Int.toNat_natCast, run_sizeOfS hi]
                by_cases h0 : nc * i.size = 0
                · have hnc0 : nc = 0 := by
                    rcases Nat.mul_eq_zero.1 h0 with h | h
                    · exact h
                    · omega
                  subst hnc0
                  simp only [h0, if_true, Sem.run_bind, Sem.run_pure, Result.andThen_ok, run_newRowS]
                  have e0 : (Array.map (fun x => (#[] : Array Value)[x % (#[] : Array Value).size]!) (Array.range 0)) = #[] := by simp
                  have e1 : (Array.map (fun x => z.cells[x % z.cells.size]!) (Array.range (0 * z.cells.size))) = #[] := by simp
                  rw [e0, e1]
                · simp only [h0, if_false, Sem.run_bind, run_zeroS hi hz, Result.andThen_ok, Sem.run_pure]
                  simp [run_newRowS, hzs]
              · refine .slice k 0 nl ie.size nc _ _ (Mu.put_same _ _ _) ?_ (by omega) (.inr rfl)
                simp [hzs, hsz]
            · cases hl
          · cases hl
        · cases hp
      · cases hp
    · cases hp
  | move x => obtain ⟨px, hx, rfl⟩ := map_some hp; simp [allocOp] at hl
  | assign x => obtain ⟨px, hx, rfl⟩ := map_some hp; simp [allocOp] at hl
  | nilCheck x => obtain ⟨px, hx, rfl⟩ := map_some hp; simp [allocOp] at hl
  | unOp uop t x => obtain ⟨px, hx, rfl⟩ := map_some hp; simp [allocOp] at hl
  | panic x => obtain ⟨px, hx, rfl⟩ := map_some hp; simp [allocOp] at hl
  | makeFunc fn first cap =>
    exfalso
    cases fn <;> simp only [pOp] at hp
    all_goals repeat' (first | (cases hp; done) | split at hp)
    all_goals (simp only [Option.some.injEq] at hp; subst hp; simp [allocOp] at hl; done)
  | slice t x lo hi mx =>
    exfalso
    cases mx <;> simp only [pOp] at hp
    all_goals repeat' (first | (cases hp; done) | (replace hp := cond_some hp; replace hp := hp.2) | split at hp)
    all_goals (simp only [Option.some.injEq] at hp; subst hp; simp [allocOp] at hl; done)
  | range t x =>
    exfalso
    simp only [pOp] at hp
    split at hp
    · obtain ⟨px, hx, rfl⟩ := map_some hp; simp [allocOp] at hl
    · cases hp
  | next it s =>
    exfalso
    cases s
    · obtain ⟨px, hx, rfl⟩ := map_some hp; simp [allocOp] at hl
    · simp [pOp] at hp
  | _ =>
    exfalso
    simp only [pOp] at hp
    repeat' (first | (cases hp; done) | (replace hp := cond_some hp; replace hp := hp.2) | (replace hp := cond_none hp; replace hp := hp.2) | split at hp)
    all_goals first
      | (simp only [Option.some.injEq] at hp; subst hp; simp [allocOp] at hl; done)
      | (obtain ⟨px, hx, rfl⟩ := map_some hp; simp [allocOp] at hl; done)
      | skip
end
end Go.Sx
/-
  SX: operations that write: a store, a map's entry. No condition.
-/
namespace Go.Sx
open Go.RowKit

section
variable {P : Program} {ρ : Nat → Int} {w0 : W0} {w : World} {μ : Mu} {G : Key → Option Blk} {nx : Key} {orc : Orc} {nt : Nat} {tm : T AV} {H : T Blk} {ev : Operand → Value}

/- what stands in a slot behind an operation -/
def Next.rel (ρ : Nat → Int) (μ : Mu) (a : AV) : Next → Prop
  | .value v => VRel ρ μ a v
  | .skip => a = .tuple []
  | _ => False

/- old blocks that are not in the machine's heap stay as they are -/
structure Kept (H H' : T Blk) (nx nx' : Key) (μ μ' : Mu) (G G' : Key → Option Blk) : Prop where
  g : ∀ b, T.get b H = none → b.toNat < nx.toNat → G' b = G b
  m : ∀ b, b.toNat < nx.toNat → μ' b = μ b
  h : ∀ b, T.get b H = none → b.toNat < nx.toNat → T.get b H' = none
  n : nx.toNat ≤ nx'.toNat
theorem Kept.refl (H : T Blk) (nx : Key) (μ : Mu) (G : Key → Option Blk) : Kept H H nx nx μ μ G G := ⟨fun _ _ _ => rfl, fun _ _ => rfl, fun _ h _ => h, Nat.le_refl _⟩
theorem Kept.trans {H1 H2 H3 : T Blk} {n1 n2 n3 : Key} {m1 m2 m3 : Mu} {G1 G2 G3 : Key → Option Blk} (a : Kept H1 H2 n1 n2 m1 m2 G1 G2) (b : Kept H2 H3 n2 n3 m2 m3 G2 G3) : Kept H1 H3 n1 n3 m1 m3 G1 G3 :=
  ⟨fun k hk hl => (b.g k (a.h k hk hl) (Nat.lt_of_lt_of_le hl a.n)).trans (a.g k hk hl), fun k hl => (b.m k (Nat.lt_of_lt_of_le hl a.n)).trans (a.m k hl),
    fun k hk hl => b.h k (a.h k hk hl) (Nat.lt_of_lt_of_le hl a.n), Nat.le_trans a.n b.n⟩

/- an operation that has a value -/
def Vals (P : Program) (ρ : Nat → Int) (w0 : W0) (μ : Mu) (G : Key → Option Blk) (H : T Blk) (nx : Key) (w : World) (s : Sem Next) (a : AV) (H' : T Blk) (nx' : Key) : Prop :=
  ∃ n w' μ' G', s.run P w = .ok n w' ∧ Next.rel ρ μ' a n ∧ μ.le μ' ∧ MRel P ρ w0 μ' G' nx'.toNat w' ∧ HSub H' G' ∧ Kept H H' nx nx' μ μ' G G'

theorem MRel.nx_none (hM : MRel P ρ w0 μ G nx.toNat w) : μ nx = none := by
  cases h : μ nx with
  | none => rfl
  | some l => exact absurd (hM.new nx l h) (Nat.lt_irrefl _)

theorem vals_light {s : Sem Next} {v : Value} {a : AV} (hM : MRel P ρ w0 μ G nx.toNat w) (hH : HSub H G) (h : s.run P w = .ok (.value v) w) (hr : VRel ρ μ a v) : Vals P ρ w0 μ G H nx w s a H nx :=
  ⟨_, w, μ, G, h, hr, μ.le_refl, hM, hH, Kept.refl _ _ _ _⟩

theorem newB_eq {f : Key → AV} {B : Blk} {a : AV} {H' : T Blk} {nx' : Key} (h : newB f B H nx = .val a H' nx') : a = f nx ∧ H' = T.set nx (some B) H ∧ nx' = nx.succ := by
  simp only [newB, T.setC_eq, OR.val.injEq] at h
  exact ⟨h.1.symm, h.2.1.symm, h.2.2.symm⟩

theorem ne_of_lt {b : Key} (h : b.toNat < nx.toNat) : b ≠ nx := by intro e; subst e; exact absurd h (Nat.lt_irrefl _)
theorem keeps_set (l : Loc) (B B' : Option Blk) : Kept H (T.set nx B' H) nx nx.succ μ (μ.put nx l) G (upd G nx B) := by
  have hs := Key.toNat_succ nx
  exact ⟨fun b _ hl => upd_ne _ _ (ne_of_lt hl), fun b hl => upd_ne _ _ (ne_of_lt hl), fun b hb hl => by rw [T.get_set_ne _ _ _ _ (ne_of_lt hl)]; exact hb, by omega⟩

theorem vals_alloc (hM : MRel P ρ w0 μ G nx.toNat w) (hH : HSub H G) {o : Oper} {op : POp} (hp : pOp P nt o = some op) (hE : ERel P ρ μ nt o.op.operands.toList tm ev)
    {f : Key → AV} {B : Blk} (hl : allocOp op tm = some (f, B)) : Vals P ρ w0 μ G H nx w (Go.execOp ev o) (f nx) (T.set nx (some B) H) nx.succ := by
  have hs := Key.toNat_succ nx
  obtain ⟨v, w', l, h1, h2, h3, h4⟩ := alloc_sound hM hp hE hl (hM.nx_none) (nx' := nx.succ.toNat) (by omega) (by omega)
  exact ⟨.value v, w', _, _, h1, h4, h2, h3, hH.set nx (some B), keeps_set _ _ _⟩

/- storing cells into a row that is there -/
theorem put_row (hM : MRel P ρ w0 μ G nx.toNat w) {b : Key} {L : List AV} {ck : CK} (hb : G b = some (.cells L ck)) (hro : ck ≠ .ro) {l : Loc} (hl : μ b = some l) {off : Nat} {vs : List AV} {us : List Value}
    (hv : VRels ρ μ vs us) (hcell : ∀ u ∈ us, u.oneCell' = true) (hle : off + vs.length ≤ L.length) :
    ∃ w', (storeCells ⟨l.c, l.base + off, none⟩ us).run P w = .ok () w' ∧ μ.le (μ.put b l) ∧ MRel P ρ w0 (μ.put b l) (upd G b (some (.cells (L.take off ++ vs ++ L.drop (off + vs.length)) ck))) nx.toNat w' := by
  obtain ⟨l', arr, elem, fz, h1, h2, hc, hs, hlen, hf, he⟩ := hM.cells hb
  rw [hl] at h1; cases h1
  have hfz := hf hro
  subst hfz
  have hvl := hv.length
  obtain ⟨w', e1, e2, e3, e4⟩ := storeCells_run P l.c (l.base + off) elem us 0 w arr h2 (by omega) hcell
  have hown : w0.heap.size ≤ l.c := (hM.own b _ l hb hl).resolve_left (by cases ck <;> simp [Blk.ro] at hro ⊢)
  have hle' : μ.le (μ.put b l) := Mu.le_put (.inr hl)
  have hlo : (Blk.cells L ck).lo l = some 0 := by cases ck <;> first | rfl | exact absurd rfl hro
  refine ⟨w', e1, hM.put b _ l _ (.inr hl) e2 e4 ?_ (fun b' B' l' g m ne => hM.sep b' b B' _ l' l g hb m hl ne) hown (Nat.le_refl _) (hM.new b l hl) (hM.lo0 hb hl hlo)⟩
  refine .cells _ ck l _ elem (0, 0) ?_ (by rw [setRange_size]; exact hs) (by simp; omega) (fun _ => rfl) (fun hk => by have := he hk; simp; omega)
  intro i a ha
  rw [setRange_get us arr _ _ (by omega)]
  by_cases h1 : i < off
  · rw [if_neg (by omega)]
    rw [List.append_assoc, List.getElem?_append_left (by simp; omega), List.getElem?_take_of_lt h1] at ha
    obtain ⟨v, hv', hr⟩ := hc i a ha
    exact ⟨v, hv', hr.mono hle'⟩
  · by_cases h2 : i < off + vs.length
    · rw [if_pos (by omega)]
      rw [List.append_assoc, List.getElem?_append_right (by simp; omega), List.getElem?_append_left (by simp; omega)] at ha
      have e : i - (L.take off).length = i - off := by simp; omega
      rw [e] at ha
      obtain ⟨v, hv', hr⟩ := hv.get _ a ha
      refine ⟨v, ?_, hr.mono hle'⟩
      rw [← hv']
      congr 1
      omega
    · rw [if_neg (by omega)]
      rw [List.getElem?_append_right (by simp; omega), List.getElem?_drop] at ha
      have e : off + vs.length + (i - (L.take off ++ vs).length) = i := by simp; omega
      rw [e] at ha
      obtain ⟨v, hv', hr⟩ := hc i a ha
      exact ⟨v, hv', hr.mono hle'⟩

theorem oneCell_of {vs : List AV} {us : List Value} (hv : VRels ρ μ vs us) (h : vs.all AV.isCell = true) : ∀ u ∈ us, u.oneCell' = true := by
  induction vs generalizing us with
  | nil => cases hv; simp
  | cons a vs ih =>
    cases hv with | cons _ _ u us h1 h2 =>
    simp only [List.all_cons, Bool.and_eq_true] at h
    intro x hx
    cases hx with
    | head =>
      have := h1.not_agg h.1
      cases u <;> simp_all [Value.oneCell']
    | tail _ hx => exact ih h2 h.2 x hx

theorem keeps_upd {b : Key} {B : Blk} (hb : T.get b H = some B) {l : Loc} (hl : μ b = some l) (x y : Option Blk) : Kept H (T.set b y H) nx nx μ (μ.put b l) G (upd G b x) := by
  have ne : ∀ b', T.get b' H = none → b' ≠ b := by intro b' h e; subst e; rw [hb] at h; cases h
  refine ⟨fun b' h _ => upd_ne _ _ (ne b' h), fun b' _ => ?_, fun b' h _ => by rw [T.get_set_ne _ _ _ _ (ne b' h)]; exact h, Nat.le_refl _⟩
  by_cases h : b' = b
  · subst h; rw [Mu.put_same, hl]
  · exact Mu.put_ne _ _ h

/- types of several cells -/
def AggKind (P : Program) (kt : TypeId) : Prop := (∃ fs, P.underlying kt = some (.struct fs)) ∨ ∃ n e, P.underlying kt = some (.array n e)
/- which operation of the model a prepared one that writes comes from -/
def Shape (P : Program) (nt : Nat) (cop : Op) : POp → Prop
  | .store n pa pv => ∃ t x v i, cop = .store t x v ∧ P.info? t = some i ∧ n = i.size ∧ pX P nt x = some pa ∧ pX P nt v = some pv
  | .mapupd sk pm pk pv => ∃ t m k v kt e kd, (cop = .mapUpdate t m k v ∨ cop = .insert t m k v) ∧ P.underlying t = some (.map kt e) ∧ KeyKind P kt sk kd ∧ pX P nt m = some pm ∧ pX P nt k = some pk ∧ pX P nt v = some pv
  | .mapupdP p pm pk pv => ∃ t m k v kt e, (cop = .mapUpdate t m k v ∨ cop = .insert t m k v) ∧ P.underlying t = some (.map kt e) ∧ AggKind P kt ∧ eqP P 100 kt = some p ∧ pX P nt m = some pm ∧ pX P nt k = some pk ∧ pX P nt v = some pv
  | .delP p pm pk => ∃ c t tl m k kt e, cop = .call c ∧ c.callee = .builtin .delete ∧ c.args = #[m, k] ∧ c.argTypes.toList = t :: tl ∧ P.underlying t = some (.map kt e) ∧ AggKind P kt ∧ eqP P 100 kt = some p ∧ pX P nt m = some pm ∧ pX P nt k = some pk
  | .rangeM px => ∃ t x kt e, cop = .range t x ∧ P.underlying t = some (.map kt e) ∧ pX P nt x = some px
  | .nextM px => ∃ x, cop = .next x false ∧ pX P nt x = some px
  | .strb px => ∃ src dst x e, cop = .convert src dst x ∧ P.underlying src = some .string ∧ P.underlying dst = some (.slice e) ∧ P.underlying e = some (.int .u8) ∧ pX P nt x = some px
  | .append sz ps px => ∃ c s x t u e i ie, cop = .call c ∧ c.callee = .builtin .append ∧ c.args = #[s, x] ∧ c.argTypes = #[t, u] ∧ P.underlying t = some (.slice e) ∧ ((∃ e', P.underlying u = some (.slice e')) ∨ P.underlying u = some .string) ∧
      tyI P e = some ie ∧ P.info? e = some i ∧ sz = ie.size ∧ 0 < ie.size ∧ ie.zero.cells.length = ie.size ∧ i.bytes ≤ 65536 ∧ pX P nt s = some ps ∧ pX P nt x = some px
  | .callF f l => ∃ c fn, cop = .call c ∧ c.callee = .value (.func f) ∧ pXs P nt c.args.toList = some l ∧ P.funcs[f]? = some fn ∧ fn.body.isSome = true ∧ fn.name ≠ "runtime.NumGoroutine"
  | .callV v l => ∃ c x, cop = .call c ∧ c.callee = .value x ∧ pX P nt x = some v ∧ pXs P nt c.args.toList = some l
  | .dfr v l => ∃ c x, cop = .defer c ∧ c.callee = .value x ∧ pX P nt x = some v ∧ pXs P nt c.args.toList = some l
  | .panic px => ∃ x, cop = .panic x ∧ pX P nt x = some px
  | .recover => ∃ c, cop = .call c ∧ c.callee = .builtin .recover ∧ c.args = #[]
  | _ => True

theorem pXs_nil {xs : List Operand} (h : pXs P nt xs = some []) : xs = [] := by
  cases xs with
  | nil => rfl
  | cons x xs => simp only [pXs] at h; split at h <;> cases h

theorem pOp_shape {o : Oper} {op : POp} (hp : pOp P nt o = some op) : Shape P nt o.op op := by
  obtain ⟨dst, cop, ty, pos, after, guard⟩ := o
  cases cop with
  | move x => obtain ⟨px, hx, rfl⟩ := map_some hp; trivial
  | assign x => obtain ⟨px, hx, rfl⟩ := map_some hp; trivial
  | nilCheck x => obtain ⟨px, hx, rfl⟩ := map_some hp; trivial
  | unOp uop t x => obtain ⟨px, hx, rfl⟩ := map_some hp; trivial
  | box t x => obtain ⟨px, hx, rfl⟩ := map_some hp; trivial
  | panic x => obtain ⟨px, hx, rfl⟩ := map_some hp; exact ⟨x, rfl, hx⟩
  | makeMap t r => cases r <;> simp only [pOp, Option.some.injEq] at hp <;> first | (cases hp; done) | (subst hp; trivial)
  | makeFunc fn first cap =>
    cases fn <;> simp only [pOp] at hp
    all_goals repeat' (first | (cases hp; done) | split at hp)
    all_goals (simp only [Option.some.injEq] at hp; subst hp; trivial)
  | slice t x lo hi mx =>
    cases mx <;> simp only [pOp] at hp
    all_goals repeat' (first | (cases hp; done) | (replace hp := cond_some hp; replace hp := hp.2) | split at hp)
    all_goals (simp only [Option.some.injEq] at hp; subst hp; trivial)
  | makeInterface t x =>
    simp only [pOp] at hp
    split at hp
    · cases hp
    · cases hp
    · obtain ⟨px, hx, rfl⟩ := map_some hp; trivial
  | store t x v =>
    simp only [pOp] at hp
    split at hp
    · rename_i i px pv' h1 h2 h3
      simp only [Option.some.injEq] at hp
      subst hp
      exact ⟨t, x, v, i, rfl, h1, rfl, h2, h3⟩
    · cases hp
  | mapUpdate t m k v =>
    simp only [pOp] at hp
    split at hp
    · rename_i kt e hu
      split at hp
      · simp only [Option.some.injEq] at hp; subst hp; exact ⟨t, m, k, v, kt, e, _, .inl rfl, hu, ⟨‹_›, by simp⟩, ‹_›, ‹_›, ‹_›⟩
      · simp only [Option.some.injEq] at hp; subst hp; exact ⟨t, m, k, v, kt, e, _, .inl rfl, hu, ⟨‹_›, by simp⟩, ‹_›, ‹_›, ‹_›⟩
      · split at hp
        · simp only [Option.some.injEq] at hp; subst hp; exact ⟨t, m, k, v, kt, e, .inl rfl, hu, .inl ⟨_, ‹_›⟩, ‹_›, ‹_›, ‹_›, ‹_›⟩
        · cases hp
      · split at hp
        · simp only [Option.some.injEq] at hp; subst hp; exact ⟨t, m, k, v, kt, e, .inl rfl, hu, .inr ⟨_, _, ‹_›⟩, ‹_›, ‹_›, ‹_›, ‹_›⟩
        · cases hp
      · cases hp
    · cases hp
  | insert t m k v =>
    simp only [pOp] at hp
    split at hp
    · rename_i kt e hu
      split at hp
      · simp only [Option.some.injEq] at hp; subst hp; exact ⟨t, m, k, v, kt, e, _, .inr rfl, hu, ⟨‹_›, by simp⟩, ‹_›, ‹_›, ‹_›⟩
      · simp only [Option.some.injEq] at hp; subst hp; exact ⟨t, m, k, v, kt, e, _, .inr rfl, hu, ⟨‹_›, by simp⟩, ‹_›, ‹_›, ‹_›⟩
      · split at hp
        · simp only [Option.some.injEq] at hp; subst hp; exact ⟨t, m, k, v, kt, e, .inr rfl, hu, .inl ⟨_, ‹_›⟩, ‹_›, ‹_›, ‹_›, ‹_›⟩
        · cases hp
      · split at hp
        · simp only [Option.some.injEq] at hp; subst hp; exact ⟨t, m, k, v, kt, e, .inr rfl, hu, .inr ⟨_, _, ‹_›⟩, ‹_›, ‹_›, ‹_›, ‹_›⟩
        · cases hp
      · cases hp
    · cases hp
  | defer c =>
    simp only [pOp] at hp
    split at hp
    · rename_i x hc
      split at hp
      · simp only [Option.some.injEq] at hp; subst hp; exact ⟨c, x, rfl, hc, ‹_›, ‹_›⟩
      · cases hp
    · cases hp
  | call c =>
    simp only [pOp] at hp
    split at hp
    · rename_i f hc
      split at hp
      · rename_i l fn h1 h2
        replace hp := cond_some hp; obtain ⟨hb, hp⟩ := hp
        simp only [Option.some.injEq] at hp; subst hp
        simp only [Bool.and_eq_true, Bool.not_eq_true', beq_eq_false_iff_ne] at hb
        exact ⟨c, fn, rfl, hc, h1, h2, hb.1, hb.2⟩
      · cases hp
    · rename_i x hne hc
      split at hp
      · simp only [Option.some.injEq] at hp; subst hp; exact ⟨c, x, rfl, hc, ‹_›, ‹_›⟩
      · cases hp
    · cases hp
    · rename_i b hc
      split at hp
      · split at hp
        · split at hp
          all_goals first | (cases hp; done) | (simp only [Option.some.injEq] at hp; subst hp; trivial)
        · cases hp
      · rename_i ps px hargs
        obtain ⟨s, x, e1, h1, h2⟩ := pXs_two hargs
        have e1' : c.args = #[s, x] := by apply Array.ext'; simpa using e1
        split at hp
        · rename_i t u hty
          have hty' : c.argTypes = #[t, u] := by apply Array.ext'; simpa using hty
          split at hp
          · rename_i e e' hu hu'
            split at hp
            · rename_i ie i hie hi
              replace hp := cond_some hp; obtain ⟨hb, hp⟩ := hp
              simp only [Option.some.injEq] at hp; subst hp
              simp only [Bool.and_eq_true, Nat.ble_eq, bltN_eq, decide_eq_true_eq] at hb
              exact ⟨c, s, x, t, u, e, i, ie, rfl, hc, e1', hty', hu, .inl ⟨_, hu'⟩, hie, hi, rfl, hb.1.1, Nat.eq_of_beq_eq_true hb.1.2, hb.2, h1, h2⟩
            · cases hp
          · rename_i e hu hu'
            split at hp
            · rename_i ie i hie hi
              replace hp := cond_some hp; obtain ⟨hb, hp⟩ := hp
              simp only [Option.some.injEq] at hp; subst hp
              simp only [Bool.and_eq_true, Nat.ble_eq, bltN_eq, decide_eq_true_eq] at hb
              exact ⟨c, s, x, t, u, e, i, ie, rfl, hc, e1', hty', hu, .inr hu', hie, hi, rfl, hb.1.1, Nat.eq_of_beq_eq_true hb.1.2, hb.2, h1, h2⟩
            · cases hp
          · cases hp
        · cases hp
      · simp only [Option.some.injEq] at hp; subst hp; trivial
      · simp only [Option.some.injEq] at hp; subst hp; trivial
      · rename_i hargs
        simp only [Option.some.injEq] at hp; subst hp
        exact ⟨c, rfl, hc, by apply Array.ext'; simpa using pXs_nil hargs⟩
      · rename_i pm pk hargs
        obtain ⟨m, k, e1, h1, h2⟩ := pXs_two hargs
        have e1' : c.args = #[m, k] := by apply Array.ext'; simpa using e1
        split at hp
        · rename_i t tl hty
          split at hp
          · rename_i kt e hu
            split at hp
            · simp only [Option.some.injEq] at hp; subst hp; exact ⟨c, t, tl, m, k, kt, e, rfl, hc, e1', hty, hu, .inl ⟨_, ‹_›⟩, ‹_›, h1, h2⟩
            · simp only [Option.some.injEq] at hp; subst hp; exact ⟨c, t, tl, m, k, kt, e, rfl, hc, e1', hty, hu, .inr ⟨_, _, ‹_›⟩, ‹_›, h1, h2⟩
            · cases hp
          · cases hp
        · cases hp
      · cases hp
  | range t x =>
    simp only [pOp] at hp
    split at hp
    · obtain ⟨px, hx, rfl⟩ := map_some hp; exact ⟨t, x, _, _, rfl, ‹_›, hx⟩
    · cases hp
  | next x s =>
    cases s
    · obtain ⟨px, hx, rfl⟩ := map_some hp; exact ⟨x, rfl, hx⟩
    · cases hp
  | entry x => obtain ⟨px, hx, rfl⟩ := map_some hp; trivial
  | convert src dst' x =>
    simp only [pOp] at hp
    split at hp
    · simp only [Option.some.injEq] at hp; subst hp; trivial
    · simp only [Option.some.injEq] at hp; subst hp; trivial
    · split at hp
      · simp only [Option.some.injEq] at hp; subst hp; trivial
      · cases hp
    · split at hp
      · simp only [Option.some.injEq] at hp; subst hp; exact ⟨src, dst', x, _, rfl, ‹_›, ‹_›, ‹_›, ‹_›⟩
      · cases hp
    · cases hp
  | _ =>
    simp only [pOp] at hp
    repeat' (first | (cases hp; done) | (replace hp := cond_some hp; replace hp := hp.2) | (replace hp := cond_none hp; replace hp := hp.2) | split at hp)
    all_goals (simp only [Option.some.injEq] at hp; subst hp; trivial)

theorem store_sound (hM : MRel P ρ w0 μ G nx.toNat w) (hH : HSub H G) {o : Oper} {n : Nat} {pa pv : PX} (hp : pOp P nt o = some (.store n pa pv)) (hE : ERel P ρ μ nt o.op.operands.toList tm ev)
    {a : AV} {H' : T Blk} {nx' : Key} (h : aOp orc (.store n pa pv) tm H nx = .val a H' nx') : Vals P ρ w0 μ G H nx w (Go.execOp ev o) a H' nx' := by
  obtain ⟨dst, cop, ty, pos, after, guard⟩ := o
  obtain ⟨t, x, v, i, e0, hi, rfl, hx, hv⟩ := pOp_shape hp
  simp only at e0
  subst e0
  simp only [aOp] at h
  split at h
  · rename_i b off u hpa hpv
    cases hc : (Nat.beq (lenL u.cells) i.size && u.cells.all AV.isCell) with
    | false => rw [hc] at h; cases h
    | true =>
      rw [hc] at h
      simp only [cond_true] at h
      simp only [Bool.and_eq_true] at hc
      have hsz := Nat.eq_of_beq_eq_true hc.1
      rw [lenL_eq] at hsz
      have hrv := hE v (by simp [Op.operands]) pv u hv hpv
      have hra := hE x (by simp [Op.operands]) pa _ hx hpa
      have main : ∀ (L : List AV) (ck : CK), T.get b H = some (.cells L ck) → ck ≠ .ro →
          putC u.cells off L (OR.bad 4) (fun l => T.setC b (some (.cells l ck)) H fun h => .val (.tuple []) h nx) = .val a H' nx' → Vals P ρ w0 μ G H nx w (Go.execOp ev ⟨dst, .store t x v, ty, pos, after, guard⟩) a H' nx' := by
        intro L ck hL hro h
        rw [putC_eq] at h
        split at h
        · rename_i hle
          rw [T.setC_eq] at h
          simp only [OR.val.injEq] at h
          obtain ⟨rfl, rfl, rfl⟩ := h
          generalize hxx : ev x = xx at hra
          cases hra with | ptr _ _ l ad hm had =>
          subst had
          obtain ⟨w', e1, e2, e3⟩ := put_row hM (hH _ _ hL) hro hm hrv.cells (oneCell_of hrv.cells hc.2) hle
          refine ⟨.skip, w', _, _, ?_, rfl, e2, e3, hH.set b _, keeps_upd hL hm _ _⟩
          have hsz' : (ev v).cells.size = i.size := by rw [← hsz, hrv.cells.length]; simp
          simp [Go.execOp, hxx, Instr.storeAt, Instr.sureAddr, storeVar, run_sizeOfS hi, hsz', e1]
        · cases h
      split at h
      · cases h
      · rename_i L ck hne hL
        exact main L ck hL (fun e => hne e) h
      · cases h
  · cases h
end
end Go.Sx
/-
  SX: a map's entry, append. No condition.
-/
namespace Go.Sx
open Go.RowKit

section
variable {P : Program} {ρ : Nat → Int} {w0 : W0} {w : World} {μ : Mu} {G : Key → Option Blk} {nx : Key} {orc : Orc} {nt : Nat} {tm : T AV} {H : T Blk} {ev : Operand → Value}

/- the entry that is found, or a new one -/
theorem setK_sound (ho : OrcOk ρ orc) {kt : TypeId} {kd : TypeDesc} {sk : Bool} (hu : KeyKind P kt sk kd) {k u : AV} {x v : Value} (hx : VRel ρ μ k x) (hv : VRel ρ μ u v) :
    ∀ {l r : List (AV × AV)} {es : List MapEntry} (i : Nat), Pairs ρ μ l es → setK orc sk k u l = some r →
      (Instr.findNow kd x es i = some none ∧ ∀ b, Pairs ρ μ r (es ++ [⟨x, v, b⟩])) ∨
      (∃ j e, Instr.findNow kd x es i = some (some (i + j, e.val)) ∧ es[j]? = some e ∧ Instr.sameNow kd x e.key = some true ∧ Pairs ρ μ r (es.set j { e with key := x, val := v }))
  | [], r, [], i, hp, h => by
    simp only [setK, Option.some.injEq] at h; subst h
    exact .inl ⟨rfl, fun b => ⟨hx, hv, trivial⟩⟩
  | [], _, _ :: _, i, hp, h => hp.elim
  | (_, _) :: _, _, [], i, hp, h => hp.elim
  | (a, c) :: l, r, e :: es, i, hp, h => by
    obtain ⟨h1, h2, h3⟩ := hp
    simp only [setK] at h
    split at h
    · rename_i hk
      simp only [Option.some.injEq] at h; subst h
      have hs := keyEq_sound ho hu hx h1 hk
      exact .inr ⟨0, e, by simp [Instr.findNow, hs], by simp, hs, ⟨hx, hv, h3⟩⟩
    · rename_i hk
      have hs := keyEq_sound ho hu hx h1 hk
      split at h
      · rename_i r' hr'
        simp only [Option.some.injEq] at h; subst h
        rcases setK_sound ho hu hx hv (i + 1) h3 hr' with ⟨f, g⟩ | ⟨j, e', f, g1, g2, g3⟩
        · exact .inl ⟨by simp [Instr.findNow, hs, f], fun b => ⟨h1, h2, g b⟩⟩
        · refine .inr ⟨j + 1, e', ?_, by simpa using g1, g2, ?_⟩
          · simp [Instr.findNow, hs, f]; omega
          · simp only [List.set_cons_succ]; exact ⟨h1, h2, g3⟩
      · cases h
    · cases h

theorem sameBits_of {kt : TypeId} {kd : TypeDesc} {sk : Bool} (hu : KeyKind P kt sk kd) {x y : Value} (h : Instr.sameNow kd x y = some true) : Instr.sameBits 10000 y x = true := by
  obtain ⟨_, hk⟩ := hu
  cases sk with
  | true =>
    have : kd = .string := by simpa using hk
    subst this
    cases x <;> cases y <;> simp only [Instr.sameNow, Option.some.injEq] at h <;> first | (cases h; done) | skip
    rw [beq_toListBytes] at h
    have h := eq_of_beq h
    simp [Instr.sameBits, beq_toListBytes, h]
  | false =>
    obtain ⟨k, rfl⟩ : ∃ k, kd = .int k := by simpa using hk
    cases x <;> cases y <;> simp [Instr.sameNow] at h
    obtain ⟨rfl, rfl⟩ := h
    simp [Instr.sameBits]

theorem push_born {es : Array MapEntry} {x : MapEntry} (h : ∀ (i : Nat) (e : MapEntry), es.toList[i]? = some e → e.born = i) (hx : x.born = es.toList.length) : ∀ (i : Nat) (e : MapEntry), (es.push x).toList[i]? = some e → e.born = i := by
  intro i e he
  simp only [Array.toList_push] at he
  rcases Nat.lt_trichotomy i es.toList.length with h' | h' | h'
  · rw [List.getElem?_append_left h'] at he; exact h i e he
  · subst h'; simp at he; subst he; exact hx
  · rw [List.getElem?_eq_none (by simp at h' ⊢; omega)] at he; cases he
theorem set_born {es : List MapEntry} {j : Nat} {x y : MapEntry} (h : ∀ (i : Nat) (e : MapEntry), es[i]? = some e → e.born = i) (hj : es[j]? = some x) (hy : y.born = x.born) : ∀ (i : Nat) (e : MapEntry), (es.set j y)[i]? = some e → e.born = i := by
  intro i e he
  by_cases hij : j = i
  · subst hij
    have hl : j < es.length := by
      rcases Nat.lt_or_ge j es.length with h' | h'
      · exact h'
      · rw [List.getElem?_eq_none h'] at hj; cases hj
    rw [List.getElem?_set_self hl] at he
    cases he
    rw [hy]; exact h j x hj
  · rw [List.getElem?_set_ne hij] at he; exact h i e he

theorem mapupd_sound (hM : MRel P ρ w0 μ G nx.toNat w) (hH : HSub H G) (ho : OrcOk ρ orc) {o : Oper} {sk : Bool} {pm pk pv : PX} (hp : pOp P nt o = some (.mapupd sk pm pk pv)) (hE : ERel P ρ μ nt o.op.operands.toList tm ev)
    {a : AV} {H' : T Blk} {nx' : Key} (h : aOp orc (.mapupd sk pm pk pv) tm H nx = .val a H' nx') : Vals P ρ w0 μ G H nx w (Go.execOp ev o) a H' nx' := by
  obtain ⟨dst, cop, ty, pos, after, guard⟩ := o
  obtain ⟨t, m, k, v, kt, e, kd, e0, hu, hkk, hm, hk, hv⟩ := pOp_shape hp
  simp only at e0
  have hex : Go.execOp ev ⟨dst, cop, ty, pos, after, guard⟩ = (do Instr.mapUpdate t (ev m) (ev k) (ev v); pure .skip) := by
    rcases e0 with e0 | e0 <;> subst e0 <;> rfl
  have hmem : m ∈ cop.operands.toList ∧ k ∈ cop.operands.toList ∧ v ∈ cop.operands.toList := by
    rcases e0 with e0 | e0 <;> subst e0 <;> simp [Op.operands]
  simp only [aOp] at h
  split at h
  · rename_i b ka va hb hka hva
    split at h
    · rename_i L hL
      split at h
      · rename_i L' hL'
        rw [T.setC_eq] at h
        simp only [OR.val.injEq] at h
        obtain ⟨rfl, rfl, rfl⟩ := h
        have hrm := hE m hmem.1 pm _ hm hb
        have hrk := hE k hmem.2.1 pk _ hk hka
        have hrv := hE v hmem.2.2 pv _ hv hva
        generalize hmm : ev m = mm at hrm
        cases hrm with | map _ l r hmu hr =>
        subst hr
        have hg := hH _ _ hL
        obtain ⟨l', o', h1, h2, h3⟩ := hM.blk b _ hg
        rw [hmu] at h1; cases h1
        cases h3 with | map _ _ es clock hpairs hborn hclk =>
        have hget : (getObj l.c).run P w = .ok (.map es clock) w := by simp [getObj, Sem.run, h2]
        have hsetr : ∀ o2, (setObj l.c o2).run P w = .ok () { w with heap := w.heap.setIfInBounds l.c o2 } := by
          intro o2; simp [setObj, Sem.run, h2]
        have hcs : l.c < w.heap.size := hM.bnd b l hmu
        have hown : w0.heap.size ≤ l.c := (hM.own b _ l hg hmu).resolve_left (by simp [Blk.ro])
        have hle' : μ.le (μ.put b l) := Mu.le_put (.inr hmu)
        have fin : ∀ (es' : Array MapEntry) (clock' : Nat), Pairs ρ μ L' es'.toList → (∀ (i : Nat) (e : MapEntry), es'.toList[i]? = some e → e.born = i) → clock' = L'.length → (Instr.mapUpdate t (ev m) (ev k) (ev v)).run P w = .ok () { w with heap := w.heap.setIfInBounds l.c (.map es' clock') } →
            Vals P ρ w0 μ G H nx w (Go.execOp ev ⟨dst, cop, ty, pos, after, guard⟩) (.tuple []) (T.set b (some (.map L')) H) nx := by
          intro es' clock' hp' hb' hc' hrun
          obtain ⟨g1, g2⟩ := hM.put (w' := { w with heap := w.heap.setIfInBounds l.c (.map es' clock') }) b (.map L') l (.map es' clock') (.inr hmu)
            ⟨rfl, rfl, rfl, by simp, fun j hj _ => by show (w.heap.setIfInBounds l.c _)[j]? = _; rw [Array.getElem?_setIfInBounds_ne (Ne.symm hj)], Nat.le_refl _⟩
            (by show (w.heap.setIfInBounds l.c _)[l.c]? = _; simp [hcs]) (.map _ _ _ _ (hp'.mono hle') hb' hc') (fun b' B' l' g m' ne => hM.sep b' b B' _ l' l g hg m' hmu ne) hown (Nat.le_refl _) (hM.new b l hmu) (hM.lo0 hg hmu rfl)
          refine ⟨.skip, _, _, _, ?_, rfl, g1, g2, hH.set b _, keeps_upd hL hmu _ _⟩
          rw [hex]
          simp [hrun]
        rcases setK_sound ho hkk hrk hrv 0 hpairs hL' with ⟨f, g⟩ | ⟨j, e1, f, g1, g2, g3⟩
        · have hlen := hpairs.length
          have hl2 := (g clock).length
          refine fin (es.push { key := ev k, val := ev v, born := clock }) (clock + 1) (by simpa using g clock) (push_born hborn (by rw [hclk, hlen])) (by simp at hl2 hlen ⊢; omega) ?_
          simp [hmm, Instr.mapUpdate, run_underlyingS hu, hget, run_checkKey hkk _ 9999, run_findKey hkk.1 f, hsetr]
        · have hje : es[j]? = some e1 := by simpa using g1
          have hjl : j < es.size := by
            rcases Nat.lt_or_ge j es.size with h' | h'
            · exact h'
            · rw [Array.getElem?_eq_none h'] at hje; cases hje
          have hlen := hpairs.length
          have hl2 := g3.length
          have hml : (es.modify j fun e => { e with key := ev k, val := ev v }).toList = es.toList.set j { e1 with key := ev k, val := ev v } := by
            apply List.ext_getElem?
            intro q
            rw [Array.getElem?_toList, Array.getElem?_modify]
            by_cases hq : j = q
            · subst hq; rw [if_pos rfl, hje, List.getElem?_set_self (by simpa using hjl)]; rfl
            · rw [if_neg hq, List.getElem?_set_ne hq]; simp
          refine fin (es.modify j fun e => { e with key := ev k, val := ev v }) clock ?_ (by rw [hml]; exact set_born hborn g1 rfl) (by simp at hl2 hlen ⊢; omega) ?_
          · have : (es.modify j fun e => { e with key := ev k, val := ev v }).toList = es.toList.set j { e1 with key := ev k, val := ev v } := by
              apply List.ext_getElem?
              intro q
              rw [Array.getElem?_toList, Array.getElem?_modify]
              by_cases hq : j = q
              · subst hq; rw [if_pos rfl, hje, List.getElem?_set_self (by simpa using hjl)]; rfl
              · rw [if_neg hq, List.getElem?_set_ne hq]; simp
            rw [this]; exact g3
          · have hf := run_findKey (w := w) hkk.1 f
            have hs := sameBits_of hkk g2
            simp [hmm, Instr.mapUpdate, run_underlyingS hu, hget, run_checkKey hkk _ 9999, hf, hsetr, Instr.keyThatStays, hje, hs]
      · cases h
    · cases h
  · cases h
end
end Go.Sx
