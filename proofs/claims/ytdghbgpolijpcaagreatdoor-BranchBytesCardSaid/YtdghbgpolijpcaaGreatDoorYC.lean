/-
  SB: readers: reckoning. No condition.
-/
import Derived.Test.YtdghbgpolijpcaaGreatDoorYB
set_option linter.unusedSimpArgs false
set_option linter.unusedVariables false
set_option linter.unusedSectionVars false
namespace Tb
open Go.Sx Go
theorem and_127 {b : Nat} (hb : b < 256) : arith .and .u8 (.lit (b : Int)) (.lit 127) = some (.lit ((b % 128 : Nat) : Int)) := by
  have key : ∀ x : Fin 256, wrapF .u8 (.ofNat (Nat.land (loB .u8 ((x.val : Nat) : Int)) (loB .u8 127))) = ((x.val % 128 : Nat) : Int) := by decide +kernel
  have e := key ⟨b, hb⟩
  have e2 : arith .and .u8 (.lit (b : Int)) (.lit 127) = some (.lit (wrapF .u8 (.ofNat (Nat.land (loB .u8 (b : Int)) (loB .u8 127))))) := rfl
  rw [e2, e]
theorem pow7 (i : Nat) : 2 ^ (7 * i) = 128 ^ i := by rw [Nat.pow_mul]
theorem or_lo {n x i : Nat} (hn : n < 128 ^ i) (hs : n + x * 128 ^ i < 18446744073709551616) : Int.emod (.ofNat (Nat.lor n (x * 128 ^ i))) 18446744073709551616 = ((n + x * 128 ^ i : Nat) : Int) := by
  have e : Nat.lor n (x * 128 ^ i) = n + x * 128 ^ i := by
    have h := Nat.two_pow_add_eq_or_of_lt (i := 7 * i) (b := n) (by rw [pow7]; exact hn) x
    rw [pow7, Nat.mul_comm] at h
    show n ||| x * 128 ^ i = _
    rw [Nat.or_comm, ← h, Nat.add_comm]
  rw [e]
  show ((n + x * 128 ^ i : Nat) : Int) % 18446744073709551616 = _
  omega
theorem shl_o (orc : Orc) {k k' : Key} {u s : Nat} {tm : T AV} {h : T Blk} (hs : s ≤ 63) (hk : T.get k tm = some (.int .u64 (.lit (u : Int)))) (hk' : T.get k' tm = some (.int .i64 (.lit (s : Int)))) (hu : u * 2 ^ s < 18446744073709551616) : lightOp orc (.bin .shl (.t k) (.t k')) tm h = some (.int .u64 (.lit ((u * 2 ^ s : Nat) : Int))) := by
  simp only [lightOp, at_t, hk, hk']
  have h1 : shOk .u64 s = true := by unfold shOk; exact Nat.ble_eq_true_of_le (by omega)
  show (bif shOk .u64 s then some (AV.int .u64 (.lit (wrapF .u64 (Int.mul (u : Int) (.ofNat (Nat.pow 2 s)))))) else none) = _
  rw [h1]
  have e : Int.mul (u : Int) (.ofNat (Nat.pow 2 s)) = ((u * 2 ^ s : Nat) : Int) := rfl
  rw [e, wrap_len _ hu]; rfl
theorem or_o (orc : Orc) {k k' : Key} {a b : Nat} {tm : T AV} {h : T Blk} (hk : T.get k tm = some (.int .u64 (.lit (a : Int)))) (hk' : T.get k' tm = some (.int .u64 (.lit (b : Int)))) : lightOp orc (.bin .or (.t k) (.t k')) tm h = some (.int .u64 (.lit (Int.emod (.ofNat (Nat.lor a b)) 18446744073709551616))) := by
  simp only [lightOp, at_t, hk, hk']
  rfl
theorem ofB : ∀ l : List Nat, (∀ b ∈ l, b < 256) → ofBytes (rowsA eY l) = some (l.length, ub l)
  | [], _ => rfl
  | b :: l, h => by
    have hb := h b (by simp)
    have ih := ofB l fun x hx => h x (by simp [hx])
    rw [rowsA_cons]
    show (match ofBytes (rowsA eY l) with
      | some (n, c) => bif Nat.blt b 256 then some (n + 1, b + 256 * c) else none
      | none => none) = _
    rw [ih]
    have : Nat.blt b 256 = true := by simpa [Nat.blt_eq] using hb
    simp only [this]; rfl
/- what is read, where there may have been an error -/
def uO : Option (List Nat) → Option (Nat × List Nat)
  | none => none
  | some bs => rdU bs
def uV : Option (Nat × List Nat) → Nat
  | some (n, _) => n
  | none => 0
def RO (r : Key) (st : Option (List Nat)) (h : T Blk) (nx n0 : Key) : Prop := match st with
  | some bs => RS r bs 0 h nx n0 ∧ ∀ b ∈ bs, b < 256
  | none => ∃ bs e, e ≠ 0 ∧ RS r bs e h nx n0
end Tb
/-
  SB: readers: Uint. No condition.
-/
namespace Tb
open Go.Sx Go
variable {C : Cfg}
theorem stepL {dst : Key} {op : POp} {v : AV} {l : List POper} {tm : T AV} {h : T Blk} {nx : Key} {Q : Post} (hl : lightOp C.orc op tm h = some v) (hop : aOp C.orc op tm h nx = okV h nx (lightOp C.orc op tm h)) (hQ : wpO C Q l (T.set dst (some v) tm) h nx) : wpO C Q (⟨some dst, op, none⟩ :: l) tm h nx := by
  rw [wpO_cons, wants_none, wpGo_true, hop, hl]; exact hQ
abbrev R9 (i x : Nat) (tm : T AV) (h : T Blk) (nx : Key) (Q : Post) : Prop := ∀ tm' : T AV, T.get (K 0) tm' = T.get (K 0) tm → T.get (K 3) tm' = T.get (K 3) tm → T.get (K 4) tm' = some (I i) → T.get (K 5) tm' = some (.int .u8 (.lit (x : Int))) → T.get (K 42) tm' = some (.bool (decide ((i = 9 ∧ 1 < x) ∨ (0 < i ∧ x = 0)))) → Q .norm tm' h nx
theorem ui_r9a {i x : Nat} {tm : T AV} {h : T Blk} {nx : Key} {Q : Post} (f4 : T.get (K 4) tm = some (I i)) (f5 : T.get (K 5) tm = some (.int .u8 (.lit (x : Int)))) (h9 : i = 9) (h1 : 1 < x) (hQ : R9 i x tm h nx Q) : wpC C (.ops wire_Reader_Uint_r9) Q tm h nx := by
  subst h9
  have h1' : (1 : Int) < x := by omega
  simp [wire_Reader_Uint_r9, f4, f5, h1']
  exact hQ _ (by simp) (by simp) (by simp [f4]) (by simp [f5]) (by simp [h1])
theorem ui_r9b {i x : Nat} {tm : T AV} {h : T Blk} {nx : Key} {Q : Post} (f4 : T.get (K 4) tm = some (I i)) (f5 : T.get (K 5) tm = some (.int .u8 (.lit (x : Int)))) (h9 : i = 9) (h1 : ¬ 1 < x) (hQ : R9 i x tm h nx Q) : wpC C (.ops wire_Reader_Uint_r9) Q tm h nx := by
  subst h9
  have h1' : ¬ (1 : Int) < x := by omega
  have h2 : ((x : Int) == 0) = decide (x = 0) := by
    by_cases h0 : x = 0
    · subst h0; rfl
    · simp [h0]
  simp [wire_Reader_Uint_r9, f4, f5, h1', h2]
  exact hQ _ (by simp) (by simp) (by simp [f4]) (by simp [f5]) (by simp [h1])
theorem ui_r9c {x : Nat} {tm : T AV} {h : T Blk} {nx : Key} {Q : Post} (f4 : T.get (K 4) tm = some (I 0)) (f5 : T.get (K 5) tm = some (.int .u8 (.lit (x : Int)))) (hQ : R9 0 x tm h nx Q) : wpC C (.ops wire_Reader_Uint_r9) Q tm h nx := by
  simp [wire_Reader_Uint_r9, f4, f5]
  exact hQ _ (by simp) (by simp) (by simp [f4]) (by simp [f5]) (by simp)
theorem ui_r9d {i x : Nat} {tm : T AV} {h : T Blk} {nx : Key} {Q : Post} (f4 : T.get (K 4) tm = some (I i)) (f5 : T.get (K 5) tm = some (.int .u8 (.lit (x : Int)))) (h9 : ¬ i = 9) (h0 : ¬ i = 0) (hQ : R9 i x tm h nx Q) : wpC C (.ops wire_Reader_Uint_r9) Q tm h nx := by
  have h9' : ((i : Int) == 9) = false := by simp; omega
  have hi' : (0 : Int) < i := by omega
  have hi2 : 0 < i := by omega
  have h2 : ((x : Int) == 0) = decide (x = 0) := by
    by_cases h0 : x = 0
    · subst h0; rfl
    · simp [h0]
  simp [wire_Reader_Uint_r9, f4, f5, h9', hi2, h2]
  exact hQ _ (by simp) (by simp) (by simp [f4]) (by simp [f5]) (by simp [h9, hi2])
theorem ui_r9 {i x : Nat} {tm : T AV} {h : T Blk} {nx : Key} {Q : Post} (f4 : T.get (K 4) tm = some (I i)) (f5 : T.get (K 5) tm = some (.int .u8 (.lit (x : Int)))) (hQ : R9 i x tm h nx Q) : wpC C (.ops wire_Reader_Uint_r9) Q tm h nx := by
  by_cases h9 : i = 9
  · by_cases h1 : 1 < x
    · exact ui_r9a f4 f5 h9 h1 hQ
    · exact ui_r9b f4 f5 h9 h1 hQ
  · by_cases h0 : i = 0
    · subst h0; exact ui_r9c f4 f5 hQ
    · exact ui_r9d f4 f5 h9 h0 hQ
theorem mul7_o (orc : Orc) {k : Key} {n : Int} {tm : T AV} {h : T Blk} (hk : T.get k tm = some (I n)) : lightOp orc (.bin .mul (.v (.int .i64 (.lit 7))) (.t k)) tm h = some (.int .i64 (.lit (wrapF .i64 (Int.mul 7 n)))) := by
  simp only [lightOp, at_t, at_v, hk]
  rfl
theorem ui_r12 {i x n : Nat} {tm : T AV} {h : T Blk} {nx : Key} {Q : Post} (hi : i ≤ 9) (hx : x < 256) (hn : n < 128 ^ i) (hs : n + x % 128 * 128 ^ i < 18446744073709551616) (f3 : T.get (K 3) tm = some (.int .u64 (.lit (n : Int)))) (f4 : T.get (K 4) tm = some (I i)) (f5 : T.get (K 5) tm = some (.int .u8 (.lit (x : Int))))
    (hQ : ∀ tm' : T AV, T.get (K 0) tm' = T.get (K 0) tm → T.get (K 3) tm' = some (.int .u64 (.lit ((n + x % 128 * 128 ^ i : Nat) : Int))) → T.get (K 4) tm' = some (I i) → T.get (K 5) tm' = some (.int .u8 (.lit (x : Int))) → Q .norm tm' h nx) : wpC C (.ops wire_Reader_Uint_r12) Q tm h nx := by
  have ha := and_127 hx
  obtain ⟨y, hy⟩ : ∃ y, y = x % 128 := ⟨_, rfl⟩
  rw [← hy] at ha hs hQ
  have hw := wrap_len y (by omega)
  have hm : wrapF .i64 (Int.mul 7 (i : Int)) = ((7 * i : Nat) : Int) := by
    rw [show Int.mul 7 (i : Int) = ((7 * i : Nat) : Int) from (Int.natCast_mul 7 i).symm]
    exact wrap_id (by omega) (by omega)
  have hyi : y * 2 ^ (7 * i) < 18446744073709551616 := by rw [pow7]; omega
  obtain ⟨s, hs7⟩ : ∃ s, s = 7 * i := ⟨_, rfl⟩
  rw [← hs7] at hm hyi
  have hor := or_lo hn hs
  have e : y * 2 ^ s = y * 128 ^ i := by rw [hs7, pow7]
  rw [← e] at hor hQ
  generalize hz : y * 2 ^ s = z at hor hQ hyi
  generalize hv : n + z = v at hor hQ
  simp only [wire_Reader_Uint_r12, k3_K, k4_K, k5_K, k45_K, k46_K, k47_K, k48_K, k49_K, k50_K, k51_K, k52_K, wpC_ops]
  refine stepL (v := .int .u64 (.lit (n : Int))) (mov_o _ f3) rfl ?_
  refine stepL (v := .int .u8 (.lit (x : Int))) (mov_o _ (by simp [f5])) rfl ?_
  refine stepL (v := .int .u8 (.lit (y : Int))) (by simp only [lightOp, at_t, at_v]; simp [-arith, ha]) rfl ?_
  refine stepL (v := .int .u64 (.lit (y : Int))) (by rw [cint_o _ .u64 .u8 (n := (y : Int)) (by simp), hw]) rfl ?_
  refine stepL (v := I i) (mov_o _ (by simp [f4])) rfl ?_
  refine stepL (v := .int .i64 (.lit (s : Int))) (by rw [← hm]; exact mul7_o _ (by simp)) rfl ?_
  refine stepL (v := .int .u64 (.lit (z : Int))) (by rw [← hz]; exact shl_o _ (by omega) (by simp) (by simp) (by rw [hz]; exact hyi)) rfl ?_
  refine stepL (v := .int .u64 (.lit (v : Int))) (by rw [← hor]; exact or_o _ (by simp) (by simp)) rfl ?_
  refine stepL (v := .int .u64 (.lit (v : Int))) (mov_o _ (by simp)) rfl ?_
  rw [wpO_nil]
  exact hQ _ (by simp) (by simp) (by simp [f4]) (by simp [f5])
end Tb
/-
  SB: readers: Uint. No condition.
-/
namespace Tb
open Go.Sx Go
variable {C : Cfg}
def GetU (st : Option (List Nat)) (r : Key) (h : T Blk) (nx n0 : Key) (o : Out) (h' : T Blk) (nx' : Key) : Prop :=
  o = .ret (.int .u64 (.lit (uV (uO st) : Int))) ∧ RO r ((uO st).map (·.2)) h' nx' n0 ∧ Kr r h nx n0 h' nx'
theorem Kr.refl (r : Key) (h : T Blk) (nx n0 : Key) : Kr r h nx n0 h nx := ⟨Nat.le_refl _, fun _ _ _ => rfl⟩
def UrInv (r : Key) (rest : List Nat) (h : T Blk) (nx : Key) (k : Nat) (tm' : T AV) (h' : T Blk) (nx' : Key) : Prop :=
  ∃ i n : Nat, k = 10 - i ∧ i ≤ 9 ∧ T.get (K 0) tm' = some (.ptr r 0) ∧ T.get (K 3) tm' = some (.int .u64 (.lit (n : Int))) ∧ T.get (K 4) tm' = some (I i) ∧ n < 128 ^ i ∧ rdF i n (rest.drop i) = rdU rest ∧ i ≤ rest.length ∧ h' = h ∧ nx' = nx
theorem getUint_ok (S : Fn C n_wire_Reader_Uint wire_Reader_Uint) (SF : Fn C n_wire_Reader_fail wire_Reader_fail) (hr : C.raw n_wire_Reader_fail = false) {r : Key} {st : Option (List Nat)} {h : T Blk} {nx n0 : Key} (R : RO r st h nx n0) (hl : ∀ bs, st = some bs → bs.length ≤ 1000000) :
    CallA C n_wire_Reader_Uint [.ptr r 0] h nx (GetU st r h nx n0) := by
  refine S.call ?_
  simp [wire_Reader_Uint]
  simp [wire_Reader_Uint_r0]
  cases st with
  | none =>
    obtain ⟨bs, e, he, R⟩ := R
    obtain ⟨r1, r2, b, off, all, k, a1, a2, a3, a4, a5, a6, a7, a8⟩ := id R
    simp [wire_Reader_Uint_r1, a1, he]
    simp [wire_Reader_Uint_r2]
    exact ⟨rfl, ⟨bs, e, he, R⟩, Kr.refl _ _ _ _⟩
  | some rest =>
    obtain ⟨R, hb⟩ := R
    have hlen := hl rest rfl
    obtain ⟨r1, r2, b, off, all, k, a1, a2, a3, a4, a5, a6, a7, a8⟩ := id R
    simp [wire_Reader_Uint_r1, a1]
    simp [wire_Reader_Uint_r3]
    simp [wire_Reader_Uint_r4]
    refine W.loopM (n := 10) (UrInv r rest h nx) ?_ ?_
    · exact ⟨0, 0, rfl, by omega, by simp, by simp, by simp, by simp, by simp [rdU], by omega, rfl, rfl⟩
    rintro k1 tm1 h1 nx1 ⟨i, n, rfl, hi, f0, f3, f4, hn, hrd, hil, rfl, rfl⟩
    refine W.of ?_
    simp [wire_Reader_Uint_l0]
    by_cases hlt : i < rest.length
    · have hlt' : ¬ (rest.length : Int) ≤ i := by omega
      have ed : rest.drop i = rest[i] :: rest.drop (i + 1) := List.drop_eq_getElem_cons hlt
      have hx := hb _ (List.getElem_mem hlt)
      have hlx : off + rest.length = all.length := by rw [← a4, List.length_drop]; omega
      have er : (rowsA eY all)[off + i]? = some (.int .u8 (.lit (rest[i] : Int))) := by
        have hh := rowY (l := all) (j := off + i) (by omega)
        rw [hh]
        have e2 : all[off + i]'(by omega) = rest[i] := by
          have : (all.drop off)[i]'(by rw [List.length_drop]; omega) = all[off + i]'(by omega) := List.getElem_drop ..
          rw [← this]; congr 1
        rw [e2]
      generalize rest[i] = x at ed hx er
      rw [ed, rdF] at hrd
      simp [wire_Reader_Uint_r5, f0, f4, a1, hlt]
      simp [wire_Reader_Uint_r8, f0, f4, a1, a2, hlt, er]
      refine wpO_of (ui_r9 (i := i) (x := x) (by simp [f4]) (by simp) ?_)
      intro tm2 g0 g3 g4 g5 g42
      simp at g0 g3
      rw [f0] at g0
      rw [f3] at g3
      by_cases hc : (i = 9 ∧ 1 < x) ∨ (0 < i ∧ x = 0)
      · rw [if_pos hc] at hrd
        have hu : uO (some rest) = none := hrd.symm
        simp [g42, hc]
        simp [wire_Reader_Uint_r10, g0, hr]
        refine (fail_ok SF R 2).mono ?_
        rintro o h3 nx3 ⟨rfl, R3, k3⟩
        simp
        simp [wire_Reader_Uint_r11]
        refine ⟨by rw [hu]; rfl, ?_, k3⟩
        rw [hu]
        exact ⟨rest, 2, by decide, by simpa using R3⟩
      · rw [if_neg hc] at hrd
        have hs : n + x % 128 * 128 ^ i < 18446744073709551616 := by
          by_cases e9 : i = 9
          · subst e9
            have : (128 : Nat) ^ 9 = 9223372036854775808 := by decide
            rw [this] at hn ⊢; omega
          · have h8 := p8 (i := i) (by omega)
            have : x % 128 * 128 ^ i < 128 ^ (i + 1) := by
              rw [Nat.pow_succ, Nat.mul_comm (128 ^ i) 128]
              exact Nat.mul_lt_mul_of_pos_right (Nat.mod_lt _ (by omega)) (Nat.pow_pos (by omega))
            have h9 := p9 (i := i) (by omega)
            omega
        simp [g42, hc]
        refine wpO_of (ui_r12 hi hx hn hs g3 g4 g5 ?_)
        intro tm3 j0 j3 j4 j5
        rw [g0] at j0
        by_cases h128 : x < 128
        · have h128' : (x : Int) < 128 := by omega
          rw [if_pos h128] at hrd
          have hu : uO (some rest) = some (n + x % 128 * 128 ^ i, rest.drop (i + 1)) := hrd.symm
          have hwi : wrapF .i64 ((i : Int) + 1) = ((i + 1 : Nat) : Int) := by
            rw [show (i : Int) + 1 = ((i + 1 : Nat) : Int) by omega]; exact wrap_id (by omega) (by omega)
          have hle : i + 1 ≤ rest.length := hlt
          generalize hv : n + x % 128 * 128 ^ i = v at j3 hu
          obtain ⟨i', hi'⟩ : ∃ i', i' = i + 1 := ⟨_, rfl⟩
          rw [← hi'] at hwi hle hu
          simp [wire_Reader_Uint_r13, j5, h128']
          simp [wire_Reader_Uint_r14, j0, j4, a1, hwi, hle]
          simp [wire_Reader_Uint_r15, j3]
          refine ⟨by rw [hu]; rfl, ?_, Nat.le_refl _, fun q _ hq => T.get_set_ne _ _ _ _ hq⟩
          rw [hu]
          refine ⟨⟨r1, r2, b, off + i', all, k, ?_, by rw [T.get_set_ne _ _ _ _ a8]; exact a2, a3, ?_, by omega, a6, a7, a8⟩, ?_⟩
          · rw [T.get_set_same, hi', List.length_drop]
          · rw [← a4, List.drop_drop, hi']
          · intro y hy
            exact hb y (List.mem_of_mem_drop hy)
        · have h128' : ¬ (x : Int) < 128 := by omega
          rw [if_neg h128] at hrd
          simp [wire_Reader_Uint_r13, j5, h128']
          simp [wire_Reader_Uint_r16, j4]
          have hi9 : i ≠ 9 := fun e => hc (.inl ⟨e, by omega⟩)
          refine ⟨10 - (i + 1), by omega, ?_⟩
          unfold UrInv
          refine ⟨i + 1, n + x % 128 * 128 ^ i, rfl, by omega, ?_, ?_, ?_, ?_, hrd, hlt, rfl, rfl⟩
          · simp [j0]
          · simp [j3]
          · simp; rw [wrap_id (by omega) (by omega)]
          · have : x % 128 * 128 ^ i + 128 ^ i ≤ 128 ^ (i + 1) := by
              rw [Nat.pow_succ, Nat.mul_comm (128 ^ i) 128]
              have h7 : x % 128 + 1 ≤ 128 := Nat.mod_lt _ (by omega)
              calc x % 128 * 128 ^ i + 128 ^ i = (x % 128 + 1) * 128 ^ i := by rw [Nat.add_mul, Nat.one_mul]
                _ ≤ 128 * 128 ^ i := Nat.mul_le_mul_right _ h7
            omega
    · have hlt' : rest.length ≤ i := by omega
      have hie : rest.drop i = [] := List.drop_eq_nil_of_le (by omega)
      rw [hie, rdF] at hrd
      have hu : uO (some rest) = none := hrd.symm
      simp [wire_Reader_Uint_r5, f0, f4, a1, hlt, hlt']
      simp [wire_Reader_Uint_r6, f0, hr]
      refine (fail_ok SF R 3).mono ?_
      rintro o h3 nx3 ⟨rfl, R3, k3⟩
      simp
      simp [wire_Reader_Uint_r7]
      refine ⟨by rw [hu]; rfl, ?_, k3⟩
      rw [hu]
      exact ⟨rest, 3, by decide, by simpa using R3⟩
end Tb
/-
  SB: readers: Int, length, take. No condition.
-/
namespace Tb
open Go.Sx Go
theorem xor_i64 {m : Nat} {y : Int} (hm : m < 9223372036854775808) (hy : y = 0 ∨ y = -1) : arith .xor .i64 (.lit (m : Int)) (.lit y) = some (.lit (if y = 0 then (m : Int) else -(m : Int) - 1)) := by
  have e2 : arith .xor .i64 (.lit (m : Int)) (.lit y) = some (.lit (wrapF .i64 (.ofNat (Nat.xor (loB .i64 (m : Int)) (loB .i64 y))))) := rfl
  have e1 : loB .i64 (m : Int) = m := by
    show ((m : Int) % 18446744073709551616).toNat = m
    omega
  rw [e2, e1]
  rcases hy with rfl | rfl
  · have e3 : loB .i64 0 = 0 := by decide
    have e5 : Nat.xor m 0 = m := Nat.xor_zero m
    rw [e3, e5, if_pos rfl]
    have : wrapF .i64 (.ofNat m) = (m : Int) := wrap_id (n := (m : Int)) (by omega) (by omega)
    rw [this]
  · have e3 : loB .i64 (-1) = 18446744073709551615 := by decide
    rw [e3, not64 _ (by omega), if_neg (by decide), wrapF_eq]
    have : IntKind.wrap .i64 (Int.ofNat (18446744073709551615 - m)) = -(m : Int) - 1 := by
      show IntKind.wrap .i64 ((18446744073709551615 - m : Nat) : Int) = _
      simp only [IntKind.wrap, IntKind.bits, IntKind.signed]
      simp
      omega
    rw [this]
theorem and_1 (n : Nat) (hn : n < 18446744073709551616) : arith .and .u64 (.lit (n : Int)) (.lit 1) = some (.lit ((n % 2 : Nat) : Int)) := by
  have e2 : arith .and .u64 (.lit (n : Int)) (.lit 1) = some (.lit (Int.emod (.ofNat (Nat.land n 1)) 18446744073709551616)) := rfl
  have e : Nat.land n 1 = n % 2 := Nat.and_one_is_mod n
  rw [e2, e]
  congr 2
  show ((n % 2 : Nat) : Int) % 18446744073709551616 = _
  omega
theorem shr1_o (orc : Orc) {k : Key} {n : Nat} {tm : T AV} {h : T Blk} (hk : T.get k tm = some (.int .u64 (.lit (n : Int)))) : lightOp orc (.bin .shr (.t k) (.v (.int .u64 (.lit 1)))) tm h = some (.int .u64 (.lit ((n / 2 : Nat) : Int))) := by
  simp only [lightOp, at_t, at_v, hk]
  rfl
theorem ar_o (orc : Orc) {op : BinOp} {k k' : Key} {kk : IntKind} {a b c : SI} {tm : T AV} {h : T Blk} (hop : isCmp op = false) (h1 : op ≠ .shl) (h2 : op ≠ .shr) (hk : T.get k tm = some (.int kk a)) (hk' : T.get k' tm = some (.int kk b)) (hc : arith op kk a b = some c) : lightOp orc (.bin op (.t k) (.t k')) tm h = some (.int kk c) := by
  have hb : beqKind kk kk = true := by cases kk <;> rfl
  cases op <;> first | exact absurd rfl h1 | exact absurd rfl h2 | (simp only [lightOp, at_t, hk, hk', hc, hb]; rfl) | cases hop
theorem arv_o (orc : Orc) {op : BinOp} {k : Key} {kk : IntKind} {a b c : SI} {tm : T AV} {h : T Blk} (hop : isCmp op = false) (h1 : op ≠ .shl) (h2 : op ≠ .shr) (hk : T.get k tm = some (.int kk a)) (hc : arith op kk a b = some c) : lightOp orc (.bin op (.t k) (.v (.int kk b))) tm h = some (.int kk c) := by
  have hb : beqKind kk kk = true := by cases kk <;> rfl
  cases op <;> first | exact absurd rfl h1 | exact absurd rfl h2 | (simp only [lightOp, at_t, at_v, hk, hc, hb]; rfl) | cases hop
variable {C : Cfg}
def GetI (st : Option (List Nat)) (r : Key) (h : T Blk) (nx n0 : Key) (o : Out) (h' : T Blk) (nx' : Key) : Prop :=
  o = .ret (I (bk (uV (uO st)))) ∧ RO r ((uO st).map (·.2)) h' nx' n0 ∧ Kr r h nx n0 h' nx'
theorem uV_lt {st : Option (List Nat)} {r : Key} {h : T Blk} {nx n0 : Key} (R : RO r st h nx n0) : uV (uO st) < 18446744073709551616 := by
  cases st with
  | none => show (0 : Nat) < _; omega
  | some bs =>
    obtain ⟨_, hb⟩ := R
    cases hu : uO (some bs) with
    | none => show (0 : Nat) < _; omega
    | some p => obtain ⟨n, r1⟩ := p; exact (rdU_inv hb hu).1
theorem ri_r2 {n : Nat} {tm : T AV} {h : T Blk} {nx : Key} {Q : Post} (hn : n < 18446744073709551616) (f3 : T.get (K 3) tm = some (.int .u64 (.lit (n : Int)))) (hQ : ∀ tm', T.get (K 2) tm' = some (I (bk n)) → Q .norm tm' h nx) : wpC C (.ops wire_Reader_Int_r2) Q tm h nx := by
  obtain ⟨m, hm⟩ : ∃ m, m = n / 2 := ⟨_, rfl⟩
  obtain ⟨d, hd⟩ : ∃ d, d = n % 2 := ⟨_, rfl⟩
  have hbk : bk n = if d = 1 then -(m : Int) - 1 else m := by unfold bk; rw [← hm, ← hd]
  have hd2 : d = 0 ∨ d = 1 := by omega
  have hw1 : wrapF .i64 (m : Int) = m := wrap_id (by omega) (by omega)
  have hw2 : wrapF .i64 (d : Int) = d := wrap_id (by omega) (by omega)
  have hneg : arith .sub .i64 (.lit 0) (.lit (d : Int)) = some (.lit (if d = 1 then -1 else 0)) := by
    rcases hd2 with rfl | rfl <;> rfl
  have hx := xor_i64 (m := m) (y := if d = 1 then -1 else 0) (by omega) (by rcases hd2 with rfl | rfl <;> simp)
  have hy : (if (if d = 1 then (-1 : Int) else 0) = 0 then (m : Int) else -(m : Int) - 1) = bk n := by rw [hbk]; rcases hd2 with rfl | rfl <;> simp
  rw [hy] at hx
  generalize hz : (if d = 1 then (-1 : Int) else 0) = z at hneg hx
  simp only [wire_Reader_Int_r2, k2_K, k3_K, k6_K, k7_K, k8_K, k9_K, k10_K, k11_K, k12_K, k13_K, wpC_ops]
  refine stepL (v := .int .u64 (.lit (n : Int))) (mov_o _ f3) rfl ?_
  refine stepL (v := .int .u64 (.lit (m : Int))) (by rw [hm]; exact shr1_o _ (by simp)) rfl ?_
  refine stepL (v := I m) (by rw [cint_o _ .i64 .u64 (n := (m : Int)) (by simp), hw1]) rfl ?_
  refine stepL (v := .int .u64 (.lit (n : Int))) (mov_o _ (by simp [f3])) rfl ?_
  refine stepL (v := .int .u64 (.lit (d : Int))) (arv_o _ (a := .lit (n : Int)) rfl (by decide) (by decide) (by simp) (by rw [and_1 n hn, hd])) rfl ?_
  refine stepL (v := I d) (by rw [cint_o _ .i64 .u64 (n := (d : Int)) (by simp), hw2]) rfl ?_
  refine stepL (v := I z) (by simp only [lightOp, at_t]; simp [-arith, hneg]) rfl ?_
  refine stepL (v := I (bk n)) (ar_o _ (a := .lit (m : Int)) (b := .lit z) rfl (by decide) (by decide) (by simp) (by simp) hx) rfl ?_
  refine stepL (v := I (bk n)) (mov_o _ (by simp)) rfl ?_
  rw [wpO_nil]
  exact hQ _ (by simp)
theorem getInt_ok (S : Fn C n_wire_Reader_Int wire_Reader_Int) (SU : Fn C n_wire_Reader_Uint wire_Reader_Uint) (SF : Fn C n_wire_Reader_fail wire_Reader_fail) (hr : C.raw n_wire_Reader_fail = false) (hu : C.raw n_wire_Reader_Uint = false) {r : Key} {st : Option (List Nat)} {h : T Blk} {nx n0 : Key} (R : RO r st h nx n0) (hl : ∀ bs, st = some bs → bs.length ≤ 1000000) :
    CallA C n_wire_Reader_Int [.ptr r 0] h nx (GetI st r h nx n0) := by
  refine S.call ?_
  have hlt := uV_lt R
  simp [wire_Reader_Int]
  simp [wire_Reader_Int_r0]
  simp [wire_Reader_Int_r1, hu]
  refine (getUint_ok SU SF hr R hl).mono ?_
  rintro o h1 nx1 ⟨rfl, R1, k1⟩
  simp
  refine wpO_of (ri_r2 hlt (by simp) ?_)
  intro tm2 g2
  simp [g2]
  exact ⟨rfl, R1, k1⟩
end Tb
/-
  SB: readers: length, take, Text. No condition.
-/
namespace Tb
open Go.Sx Go
variable {C : Cfg}
def lO (st : Option (List Nat)) : Option (Nat × List Nat) := match uO st with
  | some (n, r) => if n ≤ r.length then some (n, r) else none
  | none => none
def GetL (st : Option (List Nat)) (r : Key) (h : T Blk) (nx n0 : Key) (o : Out) (h' : T Blk) (nx' : Key) : Prop :=
  o = .ret (I (uV (lO st))) ∧ RO r ((lO st).map (·.2)) h' nx' n0 ∧ Kr r h nx n0 h' nx'
theorem Kr.trans {r : Key} {h h1 h2 : T Blk} {nx nx1 nx2 n0 : Key} (a : Kr r h nx n0 h1 nx1) (b : Kr r h1 nx1 n0 h2 nx2) : Kr r h nx n0 h2 nx2 :=
  ⟨Nat.le_trans a.1 b.1, fun q h1 h2 => by rw [b.2 q (by have := a.1; omega) h2, a.2 q h1 h2]⟩
theorem length_ok (S : Fn C n_wire_Reader_length wire_Reader_length) (SU : Fn C n_wire_Reader_Uint wire_Reader_Uint) (SF : Fn C n_wire_Reader_fail wire_Reader_fail) (hr : C.raw n_wire_Reader_fail = false) (hu : C.raw n_wire_Reader_Uint = false) {r : Key} {st : Option (List Nat)} {h : T Blk} {nx n0 : Key} (R : RO r st h nx n0) (hl : ∀ bs, st = some bs → bs.length ≤ 1000000) :
    CallA C n_wire_Reader_length [.ptr r 0] h nx (GetL st r h nx n0) := by
  refine S.call ?_
  have hlt := uV_lt R
  simp [wire_Reader_length]
  simp [wire_Reader_length_r0]
  simp [wire_Reader_length_r1, hu]
  refine (getUint_ok SU SF hr R hl).mono ?_
  rintro o h1 nx1 ⟨rfl, R1, k1⟩
  simp
  cases hs : uO st with
  | none =>
    have hL : lO st = none := by unfold lO; rw [hs]
    rw [hs] at R1
    obtain ⟨bs, e, he, R2⟩ := R1
    obtain ⟨r1, r2, b, off, all, k, a1, a2, a3, a4, a5, a6, a7, a8⟩ := id R2
    have he' : (e == 0) = false := by simpa using he
    simp [wire_Reader_length_r2, a1, he, he']
    simp [wire_Reader_length_r4, a1, he, he']
    simp [wire_Reader_length_r5]
    exact ⟨by rw [hL]; rfl, by rw [hL]; exact ⟨bs, e, he, R2⟩, k1⟩
  | some p =>
    obtain ⟨n, rest⟩ := p
    rw [hs] at R1 hlt
    obtain ⟨R2, hb⟩ := R1
    simp only [uV] at hlt
    have hrl : rest.length ≤ 1000000 := by
      cases st with
      | none => cases hs
      | some bs =>
        have := hl bs rfl
        have e := (rdU_inv R.2 hs).2
        rw [e, List.length_append] at this; omega
    obtain ⟨r1, r2, b, off, all, k, a1, a2, a3, a4, a5, a6, a7, a8⟩ := id R2
    simp only at a1 a4 R2
    have hw := wrap_len rest.length (by omega)
    by_cases hle : n ≤ rest.length
    · have hL : lO st = some (n, rest) := by unfold lO; rw [hs]; simp [hle]
      have hle' : ¬ (rest.length : Int) < n := by omega
      have hle2 : ¬ rest.length < n := by omega
      have hwn : wrapF .i64 (n : Int) = n := wrap_id (by omega) (by omega)
      simp [wire_Reader_length_r2, a1, hw, uV, hle2]
      simp [wire_Reader_length_r4, a1]
      simp [wire_Reader_length_r6, uV, hwn]
      refine ⟨by rw [hL]; rfl, by rw [hL]; exact ⟨R2, hb⟩, k1⟩
    · have hL : lO st = none := by unfold lO; rw [hs]; simp [hle]
      have hle2 : rest.length < n := by omega
      simp [wire_Reader_length_r2, a1, hw, uV, hle2]
      simp [wire_Reader_length_r3, hr]
      refine (fail_ok SF R2 3).mono ?_
      rintro o h2 nx2 ⟨rfl, R3, k2⟩
      simp at R3
      obtain ⟨r1', r2', b', off', all', k', b1, b2⟩ := id R3
      simp
      simp [wire_Reader_length_r4, b1]
      simp [wire_Reader_length_r5]
      exact ⟨by rw [hL]; rfl, by rw [hL]; exact ⟨rest, 3, by decide, R3⟩, k1.trans k2⟩
def TakeR (r : Key) (bs : List Nat) (e : Int) (n : Nat) (h : T Blk) (nx n0 : Key) (o : Out) (h' : T Blk) (nx' : Key) : Prop :=
  (∃ (b : Key) (off : Nat) (all : List Nat) (k : CK), o = .ret (.slice b off n 1) ∧ T.get b h' = some (.cells (rowsA eY all) k) ∧ b.toNat < nx'.toNat ∧ off + n ≤ all.length ∧ (all.drop off).take n = bs.take n) ∧ RS r (bs.drop n) e h' nx' n0 ∧ Kr r h nx n0 h' nx'
theorem take_ok (S : FnR C n_wire_Reader_take wire_Reader_take) {r : Key} {bs : List Nat} {e : Int} {h : T Blk} {nx n0 : Key} (R : RS r bs e h nx n0) {n : Nat} (hn : n ≤ bs.length) :
    CallA C n_wire_Reader_take [.ptr r 0, I n] h nx (TakeR r bs e n h nx n0) := by
  refine S.call ?_
  obtain ⟨r1, r2, b, off, all, k, a1, a2, a3, a4, a5, a6, a7, a8⟩ := id R
  have hlb : bs.length + off = all.length := by rw [← a4, List.length_drop]; omega
  simp [wire_Reader_take]
  simp [wire_Reader_take_r0]
  simp [wire_Reader_take_r1, a1, hn]
  simp [wire_Reader_take_r2, a1, hn]
  simp [wire_Reader_take_r3]
  have g2 : T.get b (T.set r (some (.cells [.slice b (off + n) (bs.length - n) 1, I e] .fix)) h) = some (.cells (rowsA eY all) k) := by rw [T.get_set_ne _ _ _ _ a8]; exact a2
  refine ⟨⟨b, off, all, k, rfl, g2, a7, by omega, by rw [a4]⟩, ⟨r1, r2, b, off + n, all, k, by rw [T.get_set_same, List.length_drop], g2, a3, by rw [← List.drop_drop, a4], by omega, a6, a7, a8⟩, Nat.le_refl _, fun q _ hq => T.get_set_ne _ _ _ _ hq⟩
def tO (st : Option (List Nat)) : Option ((Nat × Nat) × List Nat) := match lO st with
  | some (n, r) => some ((n, ub (r.take n)), r.drop n)
  | none => none
def tV : Option ((Nat × Nat) × List Nat) → AV
  | some ((a, b), _) => .str a b
  | none => .str 0 0
def GetT (st : Option (List Nat)) (r : Key) (h : T Blk) (nx n0 : Key) (o : Out) (h' : T Blk) (nx' : Key) : Prop :=
  o = .ret (tV (tO st)) ∧ RO r ((tO st).map (·.2)) h' nx' n0 ∧ Kr r h nx n0 h' nx'
theorem text_ok (S : Fn C n_wire_Reader_Text wire_Reader_Text) (SL : Fn C n_wire_Reader_length wire_Reader_length) (ST : FnR C n_wire_Reader_take wire_Reader_take) (SU : Fn C n_wire_Reader_Uint wire_Reader_Uint) (SF : Fn C n_wire_Reader_fail wire_Reader_fail) (hr : C.raw n_wire_Reader_fail = false) (hu : C.raw n_wire_Reader_Uint = false) (hL : C.raw n_wire_Reader_length = false) (hT : C.raw n_wire_Reader_take = false) {r : Key} {st : Option (List Nat)} {h : T Blk} {nx n0 : Key} (R : RO r st h nx n0) (hl : ∀ bs, st = some bs → bs.length ≤ 1000000) :
    CallA C n_wire_Reader_Text [.ptr r 0] h nx (GetT st r h nx n0) := by
  refine S.call ?_
  simp [wire_Reader_Text]
  simp [wire_Reader_Text_r0]
  simp [wire_Reader_Text_r1, hL]
  refine (length_ok SL SU SF hr hu R hl).mono ?_
  rintro o h1 nx1 ⟨rfl, R1, k1⟩
  simp [hT]
  cases hs : lO st with
  | none =>
    have ht : tO st = none := by unfold tO; rw [hs]
    rw [hs] at R1
    obtain ⟨bs, e, he, R2⟩ := R1
    refine (by simpa using take_ok ST R2 (n := 0) (by omega) : CallA C n_wire_Reader_take [.ptr r 0, I 0] h1 nx1 (TakeR r bs e 0 h1 nx1 n0)).mono ?_
    rintro o h2 nx2 ⟨⟨b, off, all, k, rfl, g1, g2, g3, g4⟩, R3, k2⟩
    simp [g1]
    have h0 : ofBytes [] = some (0, 0) := rfl
    simp [h0]
    exact ⟨by rw [ht]; rfl, by rw [ht]; exact ⟨bs, e, he, R3⟩, k1.trans k2⟩
  | some p =>
    obtain ⟨n, rest⟩ := p
    have ht : tO st = some ((n, ub (rest.take n)), rest.drop n) := by unfold tO; rw [hs]
    have hle : n ≤ rest.length := by
      unfold lO at hs
      split at hs
      · split at hs
        · rename_i hh
          simp only [Option.some.injEq, Prod.mk.injEq] at hs
          obtain ⟨rfl, rfl⟩ := hs; exact hh
        · cases hs
      · cases hs
    rw [hs] at R1
    obtain ⟨R2, hb⟩ := R1
    simp only at R2 hb
    refine (take_ok ST R2 hle).mono ?_
    rintro o h2 nx2 ⟨⟨b, off, all, k, rfl, g1, g2, g3, g4⟩, R3, k2⟩
    have htk : List.take n (List.drop off (rowsA eY all)) = rowsA eY (rest.take n) := by
      have e1 := flatY.drop all off
      have e2 := flatY.take (all.drop off) n
      rw [Nat.mul_one] at e1 e2
      rw [e1, e2, g4]
    have hof := ofB (rest.take n) fun x hx => hb x (List.mem_of_mem_take hx)
    have hlt : (rest.take n).length = n := by rw [List.length_take]; omega
    rw [hlt] at hof
    have hlen : n ≤ (rowsA eY all).length - off := by rw [flatY.rows]; omega
    simp [g1, htk, hof, hlen]
    refine ⟨by rw [ht]; rfl, ?_, k1.trans k2⟩
    rw [ht]
    exact ⟨R3, fun x hx => hb x (List.mem_of_mem_drop hx)⟩
end Tb
/-
  SB: readers: Raw; branches out of a reader. No condition.
-/
namespace Tb
open Go.Sx Go
variable {C : Cfg}
theorem RS.ext {r : Key} {bs : List Nat} {e : Int} {h h' : T Blk} {nx nx' n0 : Key} (R : RS r bs e h nx n0) (x : Ext h nx h' nx') : RS r bs e h' nx' n0 := by
  obtain ⟨r1, r2, b, off, all, k, a1, a2, a3, a4, a5, a6, a7, a8⟩ := R
  have := x.n
  exact ⟨r1, by omega, b, off, all, k, by rw [x.g r r2]; exact a1, by rw [x.g b a7]; exact a2, a3, a4, a5, a6, by omega, a8⟩
theorem RO.ext {r : Key} {st : Option (List Nat)} {h h' : T Blk} {nx nx' n0 : Key} (R : RO r st h nx n0) (x : Ext h nx h' nx') : RO r st h' nx' n0 := by
  cases st with
  | none => obtain ⟨bs, e, he, R⟩ := R; exact ⟨bs, e, he, R.ext x⟩
  | some bs => exact ⟨R.1.ext x, R.2⟩
theorem RO.hi {r : Key} {st : Option (List Nat)} {h : T Blk} {nx n0 : Key} (R : RO r st h nx n0) : n0.toNat ≤ r.toNat ∧ r.toNat < nx.toNat := by
  cases st with
  | none => obtain ⟨bs, e, he, R⟩ := R; exact ⟨R.1, R.2.1⟩
  | some bs => exact ⟨R.1.1, R.1.2.1⟩
def LB (st : Option (List Nat)) : Prop := ∀ bs, st = some bs → bs.length ≤ 1000000
structure StdX (C : Cfg) : Prop where
  w : StdR C
  rd : Fn C n_wire_Read wire_Read
  rint : Fn C n_wire_Reader_Int wire_Reader_Int
  ruint : Fn C n_wire_Reader_Uint wire_Reader_Uint
  rfail : Fn C n_wire_Reader_fail wire_Reader_fail
  rlen : Fn C n_wire_Reader_length wire_Reader_length
  rtake : FnR C n_wire_Reader_take wire_Reader_take
  rtext : Fn C n_wire_Reader_Text wire_Reader_Text
  rraw : Fn C n_wire_Reader_Raw wire_Reader_Raw
  rend : Fn C n_wire_Reader_End wire_Reader_End
  dec : Fn C n_branch_Decode branch_Decode
  same : Fn C n_ref01_SameBytes ref01_SameBytes
  few : FnR C n_ref01_Few ref01_Few
  law : Fn C n_law13_BranchBytes law13_BranchBytes
  raw1 : C.raw n_wire_Read = true
  raw2 : C.raw n_ref01_SameBytes = true
  raw3 : C.raw n_branch_Decode = true
variable (S : StdX C)
include S
theorem StdX.q (f : Nat) (hf : f ≠ 51 ∧ f ≠ 22 ∧ f ≠ 24 ∧ f ≠ 26) : C.raw f = false := S.w.w.b.raw f hf
theorem xint {r : Key} {st : Option (List Nat)} {h : T Blk} {nx n0 : Key} (R : RO r st h nx n0) (hl : LB st) : CallA C n_wire_Reader_Int [.ptr r 0] h nx (GetI st r h nx n0) :=
  getInt_ok S.rint S.ruint S.rfail (S.q _ (by decide)) (S.q _ (by decide)) R hl
theorem xtext {r : Key} {st : Option (List Nat)} {h : T Blk} {nx n0 : Key} (R : RO r st h nx n0) (hl : LB st) : CallA C n_wire_Reader_Text [.ptr r 0] h nx (GetT st r h nx n0) :=
  text_ok S.rtext S.rlen S.rtake S.ruint S.rfail (S.q _ (by decide)) (S.q _ (by decide)) (S.q _ (by decide)) (S.q _ (by decide)) R hl
theorem getRaw_ok {r : Key} {st : Option (List Nat)} {n : Nat} {rest : List Nat} {h : T Blk} {nx n0 : Key} (R : RO r st h nx n0) (hl : LB st) (hs : lO st = some (n, rest)) (hn : rest.length ≤ 1000000) :
    CallA C n_wire_Reader_Raw [.ptr r 0] h nx (fun o h' nx' => (∃ c', o = .ret c' ∧ IsR 1 eY c' (rest.take n)) ∧ Kr r h nx n0 h' nx') := by
  have q1 := S.q n_wire_Reader_length (by decide)
  have q2 := S.q n_wire_Reader_take (by decide)
  have s1 := Key.toNat_succ nx
  have hrl := R.hi
  have hne : nx ≠ r := ne_nat (by omega)
  refine S.rraw.call ?_
  simp [wire_Reader_Raw]
  simp [wire_Reader_Raw_r0]
  simp [wire_Reader_Raw_r1, q1]
  refine (length_ok S.rlen S.ruint S.rfail (S.q _ (by decide)) (S.q _ (by decide)) (R.ext (E0 h nx _)) hl).mono ?_
  rintro o h1 nx1 ⟨rfl, R1, k1⟩
  rw [hs] at R1
  obtain ⟨R2, hb⟩ := R1
  simp only at R2 hb
  have hle : n ≤ rest.length := by
    unfold lO at hs
    split at hs
    · split at hs
      · rename_i hh
        simp only [Option.some.injEq, Prod.mk.injEq] at hs
        obtain ⟨rfl, rfl⟩ := hs; exact hh
      · cases hs
    · cases hs
  simp [q2, hs, uV]
  refine (take_ok S.rtake R2 hle).mono ?_
  rintro o h2 nx2 ⟨⟨b, off, all, k, rfl, g1, g2, g3, g4⟩, R3, k2⟩
  have n1 := k1.1
  have n2 := k2.1
  have hq : T.get nx h2 = some (.cells [] .fix) := by rw [k2.2 nx (by omega) hne, k1.2 nx (by omega) hne, T.get_set_same]
  have htk : List.take n (List.drop off (rowsA eY all)) = rowsA eY (rest.take n) := by
    have e1 := flatY.drop all off
    have e2 := flatY.take (all.drop off) n
    rw [Nat.mul_one] at e1 e2
    rw [e1, e2, g4]
  have hlt : (rest.take n).length = n := by rw [List.length_take]; omega
  obtain ⟨c', h', nx', g, hn2, hR, hf⟩ := lit_app (q := nx) (n0 := nx) (h := h2) (nx := nx2) hq (Nat.le_refl _) (by omega) (rest.take n) (by rw [hlt]; omega)
  rw [hlt] at g
  have hz : ∀ H, frzLA (frzA 8) (rowsA eY (rest.take n)) H = (rowsA eY (rest.take n), H) := fun H => frzLA_stb (flatY.stbs _)
  have hlen : n ≤ (rowsA eY all).length - off := by rw [flatY.rows]; omega
  simp [-appendTo, g1, hz, hlen, htk, g]
  refine ⟨hR, by omega, fun p hp hpr => ?_⟩
  rw [hf p hp, k2.2 p (by omega) hpr, k1.2 p (by omega) hpr, get_lt hp]
end Tb
