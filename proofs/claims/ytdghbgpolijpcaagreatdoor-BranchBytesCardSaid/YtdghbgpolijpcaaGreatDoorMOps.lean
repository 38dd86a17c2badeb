/-
  SX: an operation that leaves memory alone: what the abstract machine computes stands for what the model computes. No condition.
-/
import Derived.Test.YtdghbgpolijpcaaGreatDoorMBase
import GoSem.Dispatch
import Derived.Laws.StructEq
import Derived.Lib.Strings
set_option linter.unusedSimpArgs false
set_option linter.unusedVariables false
set_option linter.unusedSectionVars false
namespace Go.Sx
open Go.RowKit

section
variable {P : Program} {w : World}
theorem run_underlyingS {t : TypeId} {d : TypeDesc} (h : P.underlying t = some d) : (underlying t).run P w = .ok d w := by
  simp [underlying, h]
theorem run_typeInfoS {t : TypeId} {i : TypeInfo} (h : P.info? t = some i) : (typeInfo t).run P w = .ok i w := by
  simp [typeInfo, h]
theorem run_sizeOfS {t : TypeId} {i : TypeInfo} (h : P.info? t = some i) : (sizeOf t).run P w = .ok i.size w := by
  simp [sizeOf, run_typeInfoS h]
theorem run_zeroS {t : TypeId} {i : TypeInfo} {z : Value} (h : P.info? t = some i) (hz : i.zero = some z) : (zeroValue t).run P w = .ok z w := by
  simp [zeroValue, run_typeInfoS h, hz]
def aggD : TypeDesc → Bool
  | .struct _ => true
  | .array _ _ => true
  | _ => false
theorem run_isAggS {t : TypeId} {d : TypeDesc} (h : P.underlying t = some d) : (isAgg t).run P w = .ok (aggD d) w := by
  simp only [isAgg, Sem.run_bind, run_underlyingS h, Result.andThen_ok]
  cases d <;> rfl
end

theorem tyI_spec {P : Program} {t : TypeId} {ti : TI} (h : tyI P t = some ti) :
    ∃ i d z, P.info? t = some i ∧ P.underlying t = some d ∧ i.zero = some z ∧ ofVal depthV z = some ti.zero ∧ ti.size = i.size ∧ ti.agg = aggD d := by
  unfold tyI at h
  split at h
  · rename_i i d hi hd
    split at h
    · rename_i z hz
      split at h
      · rename_i a ha
        simp only [Option.some.injEq] at h
        subst h
        exact ⟨i, d, z, hi, hd, hz, ha, rfl, by cases d <;> rfl⟩
      · simp at h
    · simp at h
  · simp at h

section
variable {P : Program} {ρ : Nat → Int} {w0 : W0} {w : World} {μ : Mu} {G : Key → Option Blk} {nx : Nat}

/- a run of cells reads as a run of cells -/
theorem cells_rel {L : List AV} {base : Nat} {arr : Array Value} (hc : ∀ i a, L[i]? = some a → ∃ v, arr[base + i]? = some v ∧ VRel ρ μ a v)
    (hs : base + L.length ≤ arr.size) {off n : Nat} (h : off + n ≤ L.length) :
    VRels ρ μ ((L.drop off).take n) ((arr.toList.drop (base + off)).take n) := by
  refine VRels.of_get ?_ ?_
  · simp; omega
  · intro i a ha
    have hi : i < n := by
      rcases Nat.lt_or_ge i n with h' | h'
      · exact h'
      · rw [List.getElem?_eq_none (by simp; omega)] at ha; cases ha
    rw [List.getElem?_take_of_lt hi, List.getElem?_drop] at ha
    obtain ⟨v, hv, hr⟩ := hc (off + i) a ha
    refine ⟨v, ?_, hr⟩
    rw [List.getElem?_take_of_lt hi, List.getElem?_drop]
    simpa [Nat.add_assoc] using hv

theorem partV_agg {off n : Nat} {L : List AV} {a : AV} (h : partV true off n L = some a) : a = .agg ((L.drop off).take n) ∧ (off + n ≤ L.length ∨ (n = 0 ∧ L.length < off)) := by
  simp only [partV, cond_true, takeC_eq, dropL_eq] at h
  split at h
  · rename_i hn
    simp only [Option.some.injEq] at h
    refine ⟨h.symm, ?_⟩
    simp at hn
    omega
  · cases h
theorem partV_one {off n : Nat} {L : List AV} {a : AV} (h : partV false off n L = some a) : L[off]? = some a := by
  simpa only [partV, cond_false, nth_eq] using h

/- reading a variable -/
theorem loadVar_sound (hM : MRel P ρ w0 μ G nx w) {b : Key} {L : List AV} {k : CK} (hb : G b = some (.cells L k)) {t : TypeId} {i : TypeInfo} {d : TypeDesc}
    (hi : P.info? t = some i) (hd : P.underlying t = some d) {off : Nat} {a : AV} (hp : partV (aggD d) off i.size L = some a) {l : Loc} (hl : μ b = some l) :
    ∃ v, (loadVar t ⟨l.c, l.base + off, none⟩).run P w = .ok v w ∧ VRel ρ μ a v := by
  obtain ⟨l', arr, elem, fz, h1, h2, hc, hs, hle, _⟩ := hM.cells hb
  rw [hl] at h1; cases h1
  simp only [loadVar, Sem.run_bind, run_isAggS hd, Result.andThen_ok]
  cases hag : aggD d with
  | true =>
    rw [hag] at hp
    obtain ⟨rfl, hn⟩ := partV_agg hp
    by_cases h0 : i.size = 0
    · refine ⟨.agg #[], ?_, ?_⟩
      · simp [run_sizeOfS hi, h0, loadCells, loadCellsFrom]
      · rw [h0]; simp only [List.take_zero]; exact .agg _ _ .nil
    · have hn : off + i.size ≤ L.length := by omega
      refine ⟨.agg ((arr.toList.drop (l.base + off)).take i.size).toArray, ?_, .agg _ _ ?_⟩
      · simp only [if_true, Sem.run_bind, run_sizeOfS hi, Result.andThen_ok, loadCells_run P w l.c (l.base + off) arr elem fz h2 i.size (by omega), Sem.run_pure]
      · simpa using cells_rel hc (by omega) hn
  | false =>
    rw [hag] at hp
    obtain ⟨v, hv, hr⟩ := hc off a (partV_one hp)
    refine ⟨v, ?_, hr⟩
    simp only [Bool.false_eq_true, if_false, run_load, cell_at h2, hv]

/- cells that are not written any more -/
theorem fz_cells (hM : MRel P ρ w0 μ G nx w) {c o : Nat} {vs : List Value} (hf : ∀ i v, vs[i]? = some v → μ.fz c (o + i) = some v) (hne : 0 < vs.length) :
    ∃ arr elem f, w.heap[c]? = some (.cells arr elem f) ∧ ∀ i v, vs[i]? = some v → arr[o + i]? = some v := by
  obtain ⟨v, hv⟩ : ∃ v, vs[0]? = some v := ⟨vs[0], by simp [hne]⟩
  obtain ⟨arr, elem, f, h1, _⟩ := hM.fzw _ _ _ (hf 0 v hv)
  refine ⟨arr, elem, f, h1, fun i u hu => ?_⟩
  obtain ⟨arr', elem', f', h2, h3⟩ := hM.fzw _ _ _ (hf i u hu)
  rw [h1] at h2; cases h2
  exact h3
theorem fz_load (hM : MRel P ρ w0 μ G nx w) {c o : Nat} {vs : List Value} (hf : ∀ i v, vs[i]? = some v → μ.fz c (o + i) = some v) {n : Nat} (hn : n ≤ vs.length) :
    (loadCells ⟨c, o, none⟩ n).run P w = .ok (vs.take n).toArray w := by
  by_cases h0 : n = 0
  · subst h0; simp [loadCells, loadCellsFrom]
  · obtain ⟨arr, elem, f, h1, h2⟩ := fz_cells hM hf (by omega)
    have hlast : o + n ≤ arr.size := by
      have h3 := h2 (n - 1) vs[n - 1] (by simp)
      rcases Nat.lt_or_ge (o + (n - 1)) arr.size with h' | h'
      · omega
      · rw [Array.getElem?_eq_none h'] at h3; cases h3
    rw [loadCells_run P w c o arr elem f h1 n hlast]
    congr 1
    congr 1
    apply List.ext_getElem?
    intro i
    by_cases hi : i < n
    · rw [List.getElem?_take_of_lt hi, List.getElem?_take_of_lt hi, List.getElem?_drop]
      have hv : vs[i]? = some (vs[i]'(by omega)) := by simp
      rw [hv]
      simpa using h2 i _ hv
    · rw [List.getElem?_eq_none (by simp; omega), List.getElem?_eq_none (by simp; omega)]
theorem fz_shift {c o : Nat} {vs : List Value} (hf : ∀ i v, vs[i]? = some v → μ.fz c (o + i) = some v) (off : Nat) : ∀ i v, (vs.drop off)[i]? = some v → μ.fz c (o + off + i) = some v := by
  intro i v h
  rw [List.getElem?_drop] at h
  rw [Nat.add_assoc]; exact hf _ _ h
theorem fz_take {c o : Nat} {vs : List Value} (hf : ∀ i v, vs[i]? = some v → μ.fz c (o + i) = some v) (n : Nat) : ∀ i v, (vs.take n)[i]? = some v → μ.fz c (o + i) = some v := by
  intro i v h
  by_cases hi : i < n
  · rw [List.getElem?_take_of_lt hi] at h; exact hf _ _ h
  · rw [List.getElem?_eq_none (by simp; omega)] at h; cases h
theorem loadVar_fz (hM : MRel P ρ w0 μ G nx w) {l : List AV} {vs : List Value} (hr : VRels ρ μ l vs) {c o : Nat} (hf : ∀ i v, vs[i]? = some v → μ.fz c (o + i) = some v) {t : TypeId} {i : TypeInfo} {d : TypeDesc}
    (hi : P.info? t = some i) (hd : P.underlying t = some d) {a : AV} (hp : partV (aggD d) 0 i.size l = some a) :
    ∃ v, (loadVar t ⟨c, o, none⟩).run P w = .ok v w ∧ VRel ρ μ a v := by
  simp only [loadVar, Sem.run_bind, run_isAggS hd, Result.andThen_ok]
  have hlen := hr.length
  cases hag : aggD d with
  | true =>
    rw [hag] at hp
    obtain ⟨rfl, hn⟩ := partV_agg hp
    have hn : i.size ≤ vs.length := by omega
    refine ⟨.agg (vs.take i.size).toArray, ?_, .agg _ _ ?_⟩
    · simp only [if_true, Sem.run_bind, run_sizeOfS hi, Result.andThen_ok, fz_load hM hf hn, Sem.run_pure]
    · simpa using hr.take i.size
  | false =>
    rw [hag] at hp
    obtain ⟨v, hv, hvr⟩ := hr.get 0 a (partV_one hp)
    obtain ⟨arr, elem, f, h1, h2⟩ := fz_cells hM hf (by
      rcases Nat.eq_zero_or_pos vs.length with h' | h'
      · rw [List.eq_nil_of_length_eq_zero h'] at hv; cases hv
      · exact h')
    refine ⟨v, ?_, hvr⟩
    have := h2 0 v hv
    simp only [Bool.false_eq_true, if_false, run_load, cell_at h1, Nat.add_zero] at this ⊢
    simp only [this]

/- a part of a value -/
theorem part_sound {t : TypeId} {i : TypeInfo} {d : TypeDesc} (hi : P.info? t = some i) (hd : P.underlying t = some d) {off : Nat} {L : List AV} {vs : Array Value} (hL : VRels ρ μ L vs.toList)
    {a : AV} (hp : partV (aggD d) off i.size L = some a) : ∃ v, (part t vs off).run P w = .ok v w ∧ VRel ρ μ a v := by
  simp only [part, Sem.run_bind, run_isAggS hd, Result.andThen_ok]
  cases hag : aggD d with
  | true =>
    rw [hag] at hp
    obtain ⟨rfl, hn⟩ := partV_agg hp
    refine ⟨.agg (vs.extract off (off + i.size)), ?_, .agg _ _ ?_⟩
    · simp [run_sizeOfS hi]
    · have : (vs.extract off (off + i.size)).toList = (vs.toList.drop off).take i.size := by
        simp [List.extract]
      rw [this]
      exact (hL.drop off).take i.size
  | false =>
    rw [hag] at hp
    obtain ⟨v, hv, hr⟩ := hL.get off a (partV_one hp)
    refine ⟨v, ?_, hr⟩
    have : vs[off]? = some v := by simpa using hv
    simp [this]
end
end Go.Sx
/-
  SX: integers and strings of the abstract machine against the model's. No condition.
-/
namespace Go.Sx
open Go.RowKit

/- what a comparison says -/
def cmpDen (op : BinOp) (x y : Int) : Option Bool :=
  match op with
  | .eql => some (x == y)
  | .neq => some (x != y)
  | .lss => some (decide (x < y))
  | .leq => some (decide (x ≤ y))
  | .gtr => some (decide (x > y))
  | .geq => some (decide (x ≥ y))
  | _ => none

def OrcOk (ρ : Nat → Int) (orc : Orc) : Prop := ∀ op a b r, orc.ask op a b = some r → cmpDen op (a.den ρ) (b.den ρ) = some r

theorem OrcOk.nil (ρ : Nat → Int) : OrcOk ρ [] := by
  intro op a b r h; cases h
theorem OrcOk.cons {ρ : Nat → Int} {orc : Orc} {o : BinOp} {x y : SI} {r : Bool} (h : cmpDen o (x.den ρ) (y.den ρ) = some r) (h' : OrcOk ρ orc) : OrcOk ρ ((o, x, y, r) :: orc) := by
  intro op a b r' e
  simp only [Orc.ask] at e
  cases hc : beqBin o op && SI.beq x a && SI.beq y b with
  | false => rw [hc] at e; exact h' op a b r' e
  | true =>
    rw [hc] at e
    simp only [cond_true, Option.some.injEq] at e
    simp only [Bool.and_eq_true] at hc
    rw [← beqBin_eq hc.1.1, ← SI.eq_of_beq hc.1.2, ← SI.eq_of_beq hc.2, ← e]
    exact h

theorem cmpI_sound {ρ : Nat → Int} {orc : Orc} (ho : OrcOk ρ orc) {op : BinOp} {a b : SI} {r : Bool} (h : cmpI orc op a b = some r) : cmpDen op (a.den ρ) (b.den ρ) = some r := by
  unfold cmpI at h
  split at h
  · rename_i x y
    simp only [SI.den]
    cases op <;> simp only [eqI_eq, ltI_eq, Option.some.injEq] at h <;> first | (cases h; done) | skip
    all_goals simp only [cmpDen, Option.some.injEq]
    all_goals subst h
    all_goals first | rfl | skip
    · simp [← decide_not, Int.not_lt]
    · simp [← decide_not, Int.not_lt]
  · cases hb : SI.beq a b with
    | false => rw [hb] at h; exact ho op a b r h
    | true =>
      rw [hb] at h
      rw [SI.eq_of_beq hb]
      simp only [cond_true] at h
      cases op <;> simp only [Option.some.injEq] at h <;> first | (cases h; done) | skip
      all_goals subst h
      all_goals simp [cmpDen]

theorem cmpDen_run {P : Program} {w : World} {op : BinOp} {x y : Int} {r : Bool} (h : cmpDen op x y = some r) : (Op.intCmp op x y).run P w = .ok (.bool r) w := by
  cases op <;> simp only [cmpDen, Option.some.injEq] at h <;> first | (cases h; done) | (subst h; rfl)
theorem cmpDen_isCmp {op : BinOp} {x y : Int} {r : Bool} (h : cmpDen op x y = some r) : isCmp op = true := by
  cases op <;> first | rfl | (simp [cmpDen] at h)

/- arithmetic -/
theorem int_toNat_emod (k m : Nat) : ((k % m : Nat) : Int) = (k : Int) % (m : Int) := by simp

theorem wrap_u64 (x : Nat) : IntKind.wrap .u64 ((x % 2 ^ 64 : Nat) : Int) = Int.emod (.ofNat x) 18446744073709551616 := by
  simp only [IntKind.wrap, IntKind.signed, IntKind.bits, Bool.false_and, Bool.false_eq_true, if_false]
  show ((x % 2 ^ 64 : Nat) : Int) % 2 ^ 64 = (x : Int) % 18446744073709551616
  omega
theorem and64 (m n : Nat) : IntKind.wrap .u64 ((BitVec.ofInt 64 (Int.ofNat m) &&& BitVec.ofInt 64 (Int.ofNat n)).toNat : Int) = Int.emod (.ofNat (Nat.land m n)) 18446744073709551616 := by
  rw [← wrap_u64]
  show IntKind.wrap .u64 ((BitVec.ofInt 64 (m : Int) &&& BitVec.ofInt 64 (n : Int)).toNat : Int) = IntKind.wrap .u64 (((m &&& n) % 2 ^ 64 : Nat) : Int)
  rw [BitVec.ofInt_natCast, BitVec.ofInt_natCast, BitVec.toNat_and, BitVec.toNat_ofNat, BitVec.toNat_ofNat, Nat.and_mod_two_pow]
theorem or64 (m n : Nat) : IntKind.wrap .u64 ((BitVec.ofInt 64 (Int.ofNat m) ||| BitVec.ofInt 64 (Int.ofNat n)).toNat : Int) = Int.emod (.ofNat (Nat.lor m n)) 18446744073709551616 := by
  rw [← wrap_u64]
  show IntKind.wrap .u64 ((BitVec.ofInt 64 (m : Int) ||| BitVec.ofInt 64 (n : Int)).toNat : Int) = IntKind.wrap .u64 (((m ||| n) % 2 ^ 64 : Nat) : Int)
  rw [BitVec.ofInt_natCast, BitVec.ofInt_natCast, BitVec.toNat_or, BitVec.toNat_ofNat, BitVec.toNat_ofNat, Nat.or_mod_two_pow]
theorem xor64 (m n : Nat) : IntKind.wrap .u64 ((BitVec.ofInt 64 (Int.ofNat m) ^^^ BitVec.ofInt 64 (Int.ofNat n)).toNat : Int) = Int.emod (.ofNat (Nat.xor m n)) 18446744073709551616 := by
  rw [← wrap_u64]
  show IntKind.wrap .u64 ((BitVec.ofInt 64 (m : Int) ^^^ BitVec.ofInt 64 (n : Int)).toNat : Int) = IntKind.wrap .u64 (((m ^^^ n) % 2 ^ 64 : Nat) : Int)
  rw [BitVec.ofInt_natCast, BitVec.ofInt_natCast, BitVec.toNat_xor, BitVec.toNat_ofNat, BitVec.toNat_ofNat, Nat.xor_mod_two_pow]

theorem loB_eq (k : IntKind) (x : Int) : (BitVec.ofInt k.bits x).toNat = loB k x := by
  rw [BitVec.toNat_ofInt]
  unfold loB
  cases k <;> rfl
theorem arith_sound {ρ : Nat → Int} {P : Program} {w : World} {op : BinOp} {k : IntKind} {a b s : SI} (t : TypeId) (h : arith op k a b = some s) :
    (binOp op t (.int k (a.den ρ)) (.int k (b.den ρ))).run P w = .ok (.int k (s.den ρ)) w := by
  unfold arith at h
  split at h
  · rename_i x y
    simp only [SI.den]
    cases op <;> simp only [Option.some.injEq] at h <;> first | (cases h; done) | skip
    · subst h; simp only [SI.den, wrapF_eq]; simp [binOp, Op.intArith]
    · subst h; simp only [SI.den, wrapF_eq]; simp [binOp, Op.intArith]; rfl
    · subst h; simp only [SI.den, wrapF_eq]; simp [binOp, Op.intArith]
    · rw [eqI_eq] at h
      cases hy : (y == 0) with
      | true => rw [hy] at h; cases h
      | false =>
        rw [hy] at h
        simp only [cond_false, Option.some.injEq] at h
        subst h
        have : y ≠ 0 := by simpa using hy
        simp [SI.den, wrapF_eq, binOp, Op.intDiv, this]
    · rw [eqI_eq] at h
      cases hy : (y == 0) with
      | true => rw [hy] at h; cases h
      | false =>
        rw [hy] at h
        simp only [cond_false, Option.some.injEq] at h
        subst h
        have : y ≠ 0 := by simpa using hy
        simp [SI.den, binOp, Op.intDiv, this]
    · split at h
      · rename_i m n
        simp only [Option.some.injEq] at h
        subst h
        simp only [SI.den, binOp, ne_eq, not_true_eq_false, if_false, Op.intBits, Sem.run_pure, Result.ok.injEq, Value.int.injEq, true_and, and_true]
        exact and64 m n
      · simp only [Option.some.injEq] at h
        subst h
        simp only [SI.den, binOp, ne_eq, not_true_eq_false, if_false, Op.intBits, Sem.run_pure, Result.ok.injEq, Value.int.injEq, true_and, and_true, BitVec.toNat_and, loB_eq, wrapF_eq]
        rfl
    · split at h
      · rename_i m n
        simp only [Option.some.injEq] at h
        subst h
        simp only [SI.den, binOp, ne_eq, not_true_eq_false, if_false, Op.intBits, Sem.run_pure, Result.ok.injEq, Value.int.injEq, true_and, and_true]
        exact or64 m n
      · simp only [Option.some.injEq] at h
        subst h
        simp only [SI.den, binOp, ne_eq, not_true_eq_false, if_false, Op.intBits, Sem.run_pure, Result.ok.injEq, Value.int.injEq, true_and, and_true, BitVec.toNat_or, loB_eq, wrapF_eq]
        rfl
    · split at h
      · rename_i m n
        simp only [Option.some.injEq] at h
        subst h
        simp only [SI.den, binOp, ne_eq, not_true_eq_false, if_false, Op.intBits, Sem.run_pure, Result.ok.injEq, Value.int.injEq, true_and, and_true]
        exact xor64 m n
      · simp only [Option.some.injEq] at h
        subst h
        simp only [SI.den, binOp, ne_eq, not_true_eq_false, if_false, Op.intBits, Sem.run_pure, Result.ok.injEq, Value.int.injEq, true_and, and_true, BitVec.toNat_xor, loB_eq, wrapF_eq]
        rfl
  · split at h
    · simp only [Option.some.injEq] at h; subst h; simp [SI.den, binOp, Op.intArith]
    · simp only [Option.some.injEq] at h; subst h; simp [SI.den, binOp, Op.intArith]
    · simp only [Option.some.injEq] at h; subst h; simp [SI.den, binOp, Op.intArith]
    · cases h
theorem bits_eq (k : IntKind) : k.bits = (match k with | .i8 | .u8 => 8 | .i16 | .u16 => 16 | .i32 | .u32 => 32 | .i64 | .u64 => 64) := by cases k <;> rfl
theorem shOk_le {k : IntKind} {n : Nat} (h : shOk k n = true) : n ≤ k.bits := by
  cases k <;> simpa [shOk, IntKind.bits, Nat.ble_eq] using h

/- ---------- strings ---------- -/
theorem enc_append (a b : List UInt8) : enc (a ++ b) = enc a + 256 ^ a.length * enc b := by
  induction a with
  | nil => simp [enc]
  | cons x a ih => simp only [List.cons_append, enc, ih, List.length_cons, Nat.pow_succ]; rw [Nat.mul_add, ← Nat.mul_assoc, Nat.mul_comm 256 (256 ^ a.length)]; omega
theorem enc_lt (l : List UInt8) : enc l < 256 ^ l.length := by
  induction l with
  | nil => simp [enc]
  | cons x l ih =>
    have hx : x.toNat < 256 := x.toNat_lt
    simp only [enc, List.length_cons, Nat.pow_succ]
    omega
theorem enc_drop (l : List UInt8) (i : Nat) : enc (l.drop i) = enc l / 256 ^ i := by
  induction i generalizing l with
  | zero => simp
  | succ i ih =>
    cases l with
    | nil => simp [enc]
    | cons x l =>
      have hx : x.toNat < 256 := x.toNat_lt
      simp only [List.drop_succ_cons, ih l, enc, Nat.pow_succ]
      rw [Nat.mul_comm (256 ^ i) 256, ← Nat.div_div_eq_div_mul]
      congr 1
      omega
theorem enc_take (l : List UInt8) (n : Nat) : enc (l.take n) = enc l % 256 ^ n := by
  induction n generalizing l with
  | zero => simp [enc, Nat.mod_one]
  | succ n ih =>
    cases l with
    | nil => simp [enc]
    | cons x l =>
      have hx : x.toNat < 256 := x.toNat_lt
      simp only [List.take_succ_cons, enc, ih l, Nat.pow_succ]
      rw [Nat.mul_comm (256 ^ n) 256]
      have hp : 0 < 256 ^ n := Nat.pow_pos (by omega)
      have := Nat.mod_mul (x := x.toNat + 256 * enc l) (a := 256) (b := 256 ^ n)
      rw [this]
      have h1 : (x.toNat + 256 * enc l) % 256 = x.toNat := by omega
      have h2 : (x.toNat + 256 * enc l) / 256 = enc l := by omega
      rw [h1, h2]
theorem enc_get (l : List UInt8) (i : Nat) (h : i < l.length) : enc l / 256 ^ i % 256 = (l[i]).toNat := by
  rw [← enc_drop, List.drop_eq_getElem_cons h]
  have hx : (l[i]).toNat < 256 := (l[i]).toNat_lt
  simp only [enc]
  omega
theorem enc_inj : ∀ {a b : List UInt8}, a.length = b.length → enc a = enc b → a = b
  | [], [], _, _ => rfl
  | [], _ :: _, h, _ => by simp at h
  | _ :: _, [], h, _ => by simp at h
  | x :: a, y :: b, h, he => by
    have hx : x.toNat < 256 := x.toNat_lt
    have hy : y.toNat < 256 := y.toNat_lt
    simp only [enc] at he
    have h1 : x.toNat = y.toNat := by omega
    have h2 : enc a = enc b := by omega
    rw [UInt8.toNat_inj.1 h1, enc_inj (by simpa using h) h2]
theorem pow256 (n : Nat) : 2 ^ (8 * n) = 256 ^ n := by rw [Nat.pow_mul]
theorem enc_beq (a b : List UInt8) : (Nat.beq a.length b.length && Nat.beq (enc a) (enc b)) = (a == b) := by
  rw [beqN_eq, beqN_eq, Bool.eq_iff_iff]
  simp only [Bool.and_eq_true, decide_eq_true_eq, beq_iff_eq]
  exact ⟨fun h => enc_inj h.1 h.2, fun h => by subst h; exact ⟨rfl, rfl⟩⟩
theorem ltS_eq : ∀ (a b : List UInt8), ltS a.length (enc a) b.length (enc b) = Op.bytesLess a b
  | [], [] => rfl
  | [], y :: b => by simp [ltS, Op.bytesLess, beqN_eq]
  | x :: a, [] => by simp [ltS, Op.bytesLess, beqN_eq]
  | x :: a, y :: b => by
    have hx : x.toNat < 256 := x.toNat_lt
    have hy : y.toNat < 256 := y.toNat_lt
    have h1 : (x.toNat + 256 * enc a) % 256 = x.toNat := by omega
    have h2 : (x.toNat + 256 * enc a) / 256 = enc a := by omega
    have h3 : (y.toNat + 256 * enc b) % 256 = y.toNat := by omega
    have h4 : (y.toNat + 256 * enc b) / 256 = enc b := by omega
    simp only [List.length_cons, ltS, enc, h1, h2, h3, h4, Nat.add_sub_cancel, ltS_eq a b, Op.bytesLess, beqN_eq, bltN_eq]
    by_cases c1 : x.toNat < y.toNat
    · have : x < y := UInt8.lt_iff_toNat_lt.2 c1
      simp [c1, this]
    · have n1 : ¬ x < y := fun h => c1 (UInt8.lt_iff_toNat_lt.1 h)
      by_cases c2 : x.toNat = y.toNat
      · have : x = y := UInt8.toNat_inj.1 c2
        subst this
        simp
      · have : x ≠ y := fun h => c2 (by rw [h])
        simp [c1, c2, n1, this]
theorem bytesLess_asymm : ∀ (a b : List UInt8), Op.bytesLess b a = !(Op.bytesLess a b || a == b)
  | [], [] => rfl
  | [], y :: b => by simp [Op.bytesLess]
  | x :: a, [] => by simp [Op.bytesLess]
  | x :: a, y :: b => by
    simp only [Op.bytesLess, bytesLess_asymm a b]
    by_cases c1 : x < y
    · have c2 : ¬ y < x := fun h => by have := UInt8.lt_iff_toNat_lt.1 c1; have := UInt8.lt_iff_toNat_lt.1 h; omega
      have c3 : y ≠ x := fun h => by subst h; exact c2 c1
      simp [c1, c2, c3]
    · by_cases c3 : x = y
      · subst c3; simp
      · have c2 : y < x := by
          rw [UInt8.lt_iff_toNat_lt] at c1 ⊢
          have : x.toNat ≠ y.toNat := fun h => c3 (UInt8.toNat_inj.1 h)
          omega
        simp [c1, c2, c3]

theorem opS_sound {ρ : Nat → Int} {μ : Mu} {P : Program} {w : World} {op : BinOp} {x y : ByteArray} {a : AV}
    (h : opS op x.data.toList.length (enc x.data.toList) y.data.toList.length (enc y.data.toList) = some a) :
    ∃ v, (Op.stringOp op x y).run P w = .ok v w ∧ VRel ρ μ a v := by
  unfold opS at h
  cases op <;> simp only [Option.some.injEq] at h <;> first | (cases h; done) | skip
  · cases hb : Nat.ble (x.data.toList.length + y.data.toList.length) 4611686018427387904 with
    | false => rw [hb] at h; cases h
    | true =>
    rw [hb] at h
    simp only [cond_true, Option.some.injEq] at h
    subst h
    have hsz : x.size + y.size ≤ 4611686018427387904 := by rw [Nat.ble_eq] at hb; rw [Lib.size_eq, Lib.size_eq]; exact hb
    refine ⟨.string (x ++ y), ?_, .str _ _ _ ?_ ?_⟩
    · have hle : ¬ (((x.size + y.size : Nat) : Int) > IntKind.i64.max) := by
        have : IntKind.i64.max = 9223372036854775807 := by decide
        rw [this]; omega
      simp only [Op.stringOp, if_neg hle, Sem.run_pure]
    · rw [ByteArray.data_append]; simp
    · rw [ByteArray.data_append, Array.toList_append, enc_append]
      show _ = _ + Nat.shiftLeft _ _
      have : Nat.shiftLeft (enc y.data.toList) (8 * x.data.toList.length) = enc y.data.toList * 2 ^ (8 * x.data.toList.length) := Nat.shiftLeft_eq _ _
      rw [this, pow256, Nat.mul_comm]
  all_goals subst h
  all_goals refine ⟨_, ?_, .bool _⟩
  all_goals simp only [Op.stringOp, ByteArray.toList_eq, Sem.run_pure, Result.ok.injEq, Value.bool.injEq, and_true, enc_beq, ltS_eq]
  · rw [bytesLess_asymm x.data.toList y.data.toList, Bool.not_not]
  · rw [bytesLess_asymm x.data.toList y.data.toList]
end Go.Sx
