/-
  SB: numbers and branches as bytes. No condition.
-/
import Derived.Test.YtdghbgpolijpcaaGreatDoorBD
import Derived.Test.YtdghbgpolijpcaaGreatDoorFnsY
import Derived.Test.YtdghbgpolijpcaaGreatDoorBL
set_option linter.unusedSimpArgs false
set_option linter.unusedVariables false
set_option linter.unusedSectionVars false
namespace Tb
open Go.Sx Go
def vuF : Nat → Nat → List Nat
  | 0, n => [n]
  | k + 1, n => if n < 128 then [n] else (128 + n % 128) :: vuF k (n / 128)
def vu (n : Nat) : List Nat := vuF 10 n
/- the reader's loop: at byte i, with what was read -/
def rdF : Nat → Nat → List Nat → Option (Nat × List Nat)
  | _, _, [] => none
  | i, acc, b :: r => if (i = 9 ∧ 1 < b) ∨ (0 < i ∧ b = 0) then none else if b < 128 then some (acc + b % 128 * 128 ^ i, r) else rdF (i + 1) (acc + b % 128 * 128 ^ i) r
def rdU (bs : List Nat) : Option (Nat × List Nat) := rdF 0 0 bs
theorem p9 {i : Nat} (h : i ≤ 9) : 128 ^ i ≤ 9223372036854775808 := Nat.le_trans (Nat.pow_le_pow_right (by omega) h) (by decide)
theorem p8 {i : Nat} (h : i ≤ 8) : 128 ^ (i + 1) ≤ 9223372036854775808 := p9 (by omega)
theorem rd_vu : ∀ (k i n acc : Nat) (r : List Nat), i ≤ 9 → n * 128 ^ i < 18446744073709551616 → (i = 0 ∨ 0 < n) → 10 ≤ k + i → rdF i acc (vuF k n ++ r) = some (acc + n * 128 ^ i, r)
  | 0, i, n, acc, r, hi, _, _, hk => by omega
  | k + 1, i, n, acc, r, hi, hn, h0, hk => by
    have h9 : i = 9 → n < 2 := by
      intro e; subst e
      have : (128 : Nat) ^ 9 = 9223372036854775808 := by decide
      rw [this] at hn; omega
    rw [vuF]
    by_cases h1 : n < 128
    · rw [if_pos h1]
      show rdF i acc (n :: r) = _
      rw [rdF, if_neg (by
        rintro (⟨e, h⟩ | ⟨h, e⟩)
        · have := h9 e; omega
        · omega), if_pos h1, Nat.mod_eq_of_lt h1]
    · rw [if_neg h1]
      show rdF i acc ((128 + n % 128) :: (vuF k (n / 128) ++ r)) = _
      have hi8 : i ≤ 8 := by
        by_cases e : i = 9
        · have := h9 e; omega
        · omega
      rw [rdF, if_neg (by omega), if_neg (by omega)]
      have hsplit : n * 128 ^ i = n % 128 * 128 ^ i + n / 128 * 128 ^ (i + 1) := by
        rw [Nat.pow_succ, show n / 128 * (128 ^ i * 128) = n / 128 * 128 * 128 ^ i by rw [Nat.mul_comm (128 ^ i) 128, Nat.mul_assoc], ← Nat.add_mul]
        congr 1; omega
      rw [rd_vu k (i + 1) (n / 128) _ r (by omega) (by omega) (.inr (by omega)) (by omega)]
      have hm : (128 + n % 128) % 128 = n % 128 := by omega
      rw [hm, hsplit, Nat.add_assoc]
theorem rd_inv : ∀ (bs : List Nat) (i acc m : Nat) (r : List Nat), i ≤ 9 → (∀ b ∈ bs, b < 256) → rdF i acc bs = some (m, r) → ∃ n, m = acc + n * 128 ^ i ∧ n * 128 ^ i < 18446744073709551616 ∧ (i = 0 ∨ 0 < n) ∧ ∀ k, 10 ≤ k + i → bs = vuF k n ++ r
  | [], i, acc, m, r, _, _, h => by simp [rdF] at h
  | b :: bs, i, acc, m, r, hi, hb, h => by
    rw [rdF] at h
    have hb0 := hb b (by simp)
    split at h
    · cases h
    · rename_i hc
      split at h
      · rename_i h1
        simp only [Option.some.injEq, Prod.mk.injEq] at h
        obtain ⟨rfl, rfl⟩ := h
        refine ⟨b, by rw [Nat.mod_eq_of_lt h1], ?_, by omega, fun k hk => ?_⟩
        · by_cases e : i = 9
          · subst e
            have : (128 : Nat) ^ 9 = 9223372036854775808 := by decide
            rw [this]; omega
          · have h8 := p8 (i := i) (by omega)
            have : b * 128 ^ i < 128 ^ (i + 1) := by
              rw [Nat.pow_succ, Nat.mul_comm (128 ^ i) 128]
              exact Nat.mul_lt_mul_of_pos_right h1 (Nat.pow_pos (by omega))
            omega
        · cases k with
          | zero => simp [vuF]
          | succ k => simp [vuF, h1]
      · rename_i h1
        have hi9 : i ≠ 9 := fun e => hc (.inl ⟨e, by omega⟩)
        obtain ⟨n', e1, e2, e3, e4⟩ := rd_inv bs (i + 1) _ m r (by omega) (fun x hx => hb x (by simp [hx])) h
        have hpos : 0 < n' := by omega
        have hsplit : (b % 128 + 128 * n') * 128 ^ i = b % 128 * 128 ^ i + n' * 128 ^ (i + 1) := by
          rw [Nat.pow_succ, Nat.add_mul, show 128 * n' * 128 ^ i = n' * (128 ^ i * 128) by rw [Nat.mul_comm 128 n', Nat.mul_assoc, Nat.mul_comm 128 (128 ^ i)]]
        refine ⟨b % 128 + 128 * n', by rw [e1, hsplit, Nat.add_assoc], ?_, .inr (by omega), fun k hk => ?_⟩
        · rw [hsplit]
          have hlow : b % 128 * 128 ^ i < 128 ^ (i + 1) := by
            rw [Nat.pow_succ, Nat.mul_comm (128 ^ i) 128]
            exact Nat.mul_lt_mul_of_pos_right (Nat.mod_lt _ (by omega)) (Nat.pow_pos (by omega))
          have h8 := p8 (i := i) (by omega)
          -- n' * 128^(i+1) is a multiple of 128^(i+1), and so is 2^64 when i + 1 ≤ 9
          by_cases e : i + 1 = 9
          · have hp : (128 : Nat) ^ (i + 1) = 9223372036854775808 := by rw [e]
            rw [hp] at e2 hlow ⊢
            omega
          · obtain ⟨t, ht⟩ : ∃ t, 18446744073709551616 = t * 128 ^ (i + 1) := by
              have : i + 1 = 1 ∨ i + 1 = 2 ∨ i + 1 = 3 ∨ i + 1 = 4 ∨ i + 1 = 5 ∨ i + 1 = 6 ∨ i + 1 = 7 ∨ i + 1 = 8 := by omega
              rcases this with h | h | h | h | h | h | h | h <;> rw [h]
              · exact ⟨2 ^ 57, by decide⟩
              · exact ⟨2 ^ 50, by decide⟩
              · exact ⟨2 ^ 43, by decide⟩
              · exact ⟨2 ^ 36, by decide⟩
              · exact ⟨2 ^ 29, by decide⟩
              · exact ⟨2 ^ 22, by decide⟩
              · exact ⟨2 ^ 15, by decide⟩
              · exact ⟨2 ^ 8, by decide⟩
            rw [ht] at e2 ⊢
            have hlt : n' < t := Nat.lt_of_mul_lt_mul_right e2
            have : (n' + 1) * 128 ^ (i + 1) ≤ t * 128 ^ (i + 1) := Nat.mul_le_mul_right _ hlt
            rw [Nat.add_mul, Nat.one_mul] at this
            omega
        · cases k with
          | zero => omega
          | succ k =>
            rw [vuF, if_neg (by omega), show (b % 128 + 128 * n') % 128 = b % 128 by omega, show (b % 128 + 128 * n') / 128 = n' by omega, show 128 + b % 128 = b by omega, e4 k (by omega)]
            rfl
theorem rdU_vu {n : Nat} (hn : n < 18446744073709551616) (r : List Nat) : rdU (vu n ++ r) = some (n, r) := by
  have := rd_vu 10 0 n 0 r (by omega) (by simpa using hn) (.inl rfl) (by omega)
  simpa [rdU, vu] using this
theorem rdU_inv {bs r : List Nat} {m : Nat} (hb : ∀ b ∈ bs, b < 256) (h : rdU bs = some (m, r)) : m < 18446744073709551616 ∧ bs = vu m ++ r := by
  obtain ⟨n, h1, h2, _, h4⟩ := rd_inv bs 0 0 m r (by omega) hb h
  have e : m = n := by simpa using h1
  subst e
  exact ⟨by simpa using h2, h4 10 (by omega)⟩
/- signed numbers -/
def zz (n : Int) : Nat := if n < 0 then (2 * (-(n + 1)) + 1).toNat else (2 * n).toNat
def bk (z : Nat) : Int := if z % 2 = 1 then -((z / 2 : Nat) : Int) - 1 else ((z / 2 : Nat) : Int)
theorem bk_zz (n : Int) : bk (zz n) = n := by
  unfold zz bk
  by_cases h : n < 0
  · rw [if_pos h, if_pos (by omega)]; omega
  · rw [if_neg h, if_neg (by omega)]; omega
theorem zz_bk (z : Nat) : zz (bk z) = z := by
  unfold bk
  by_cases h : z % 2 = 1
  · rw [if_pos h, zz, if_pos (by omega)]; omega
  · rw [if_neg h, zz, if_neg (by omega)]; omega
theorem zz_lt {n : Int} (h1 : -9223372036854775808 ≤ n) (h2 : n < 9223372036854775808) : zz n < 18446744073709551616 := by
  unfold zz; split <;> omega
theorem bk_in {z : Nat} (h : z < 18446744073709551616) : -9223372036854775808 ≤ bk z ∧ bk z < 9223372036854775808 := by
  unfold bk; split <;> omega
end Tb
/-
  SB: lists of branches as bytes, and back. No condition.
-/
namespace Tb
open Go.Sx Go
/- a string's bytes -/
def sb : Nat → Nat → List Nat
  | 0, _ => []
  | n + 1, c => c % 256 :: sb n (c / 256)
def ub : List Nat → Nat
  | [] => 0
  | b :: l => b + 256 * ub l
theorem sb_len : ∀ n c, (sb n c).length = n
  | 0, _ => rfl
  | n + 1, c => by rw [sb, List.length_cons, sb_len]
theorem ub_sb : ∀ n c, c < 256 ^ n → ub (sb n c) = c
  | 0, c, h => by simp at h; subst h; rfl
  | n + 1, c, h => by
    rw [sb, ub, ub_sb n (c / 256) (by rw [Nat.pow_succ] at h; omega)]; omega
theorem sb_ub : ∀ l : List Nat, (∀ b ∈ l, b < 256) → sb l.length (ub l) = l
  | [], _ => rfl
  | b :: l, h => by
    have hb := h b (by simp)
    have ih := sb_ub l fun x hx => h x (by simp [hx])
    show (b + 256 * ub l) % 256 :: sb l.length ((b + 256 * ub l) / 256) = _
    rw [show (b + 256 * ub l) % 256 = b by omega, show (b + 256 * ub l) / 256 = ub l by omega, ih]
theorem ub_lt : ∀ l : List Nat, (∀ b ∈ l, b < 256) → ub l < 256 ^ l.length
  | [], _ => by simp [ub]
  | b :: l, h => by
    have hb := h b (by simp)
    have ih := ub_lt l fun x hx => h x (by simp [hx])
    rw [ub, List.length_cons, Nat.pow_succ]; omega
/- one branch, and all of them -/
def encB (x : Br) : List Nat := vu x.a ++ sb x.a x.b ++ vu (zz x.n) ++ vu (zz x.m)
def encL (l : List Br) : List Nat := vu (zz l.length) ++ l.flatMap encB
def rdT (bs : List Nat) : Option ((Nat × Nat) × List Nat) := match rdU bs with
  | none => none
  | some (n, r) => if n ≤ r.length then some ((n, ub (r.take n)), r.drop n) else none
def rdB (bs : List Nat) : Option (Br × List Nat) := match rdT bs with
  | none => none
  | some ((a, b), r) => match rdU r with
    | none => none
    | some (n, r) => match rdU r with
      | none => none
      | some (m, r) => some (⟨a, b, bk n, bk m⟩, r)
def rdN : Nat → List Nat → Option (List Br × List Nat)
  | 0, bs => some ([], bs)
  | k + 1, bs => match rdB bs with
    | none => none
    | some (x, r) => match rdN k r with
      | none => none
      | some (l, r) => some (x :: l, r)
def decL (bs : List Nat) : Option (List Br) := match rdU bs with
  | none => none
  | some (z, r) => if bk z < 0 ∨ (bs.length : Int) < bk z then none else match rdN (bk z).toNat r with
    | some (l, []) => some l
    | _ => none
/- branches that Go can hold -/
structure In (x : Br) : Prop where
  ok : OkB x
  a : x.a < 18446744073709551616
  n : -9223372036854775808 ≤ x.n ∧ x.n < 9223372036854775808
  m : -9223372036854775808 ≤ x.m ∧ x.m < 9223372036854775808
theorem rdB_enc {x : Br} (hx : In x) (r : List Nat) : rdB (encB x ++ r) = some (x, r) := by
  unfold rdB rdT encB
  rw [List.append_assoc, List.append_assoc, List.append_assoc, rdU_vu hx.a]
  simp only
  have hl := sb_len x.a x.b
  rw [if_pos (by rw [List.length_append, hl]; omega), List.take_append_of_le_length (by omega), List.take_of_length_le (by omega), List.drop_append, List.drop_eq_nil_of_le (by omega), hl, ub_sb _ _ hx.ok]
  simp only [Nat.sub_self, List.drop_zero, List.nil_append]
  rw [rdU_vu (zz_lt hx.n.1 hx.n.2)]
  simp only
  rw [rdU_vu (zz_lt hx.m.1 hx.m.2)]
  simp only [bk_zz]
theorem rdN_enc : ∀ (l : List Br) (r : List Nat), (∀ x ∈ l, In x) → rdN l.length (l.flatMap encB ++ r) = some (l, r)
  | [], r, _ => rfl
  | x :: l, r, h => by
    rw [List.length_cons, List.flatMap_cons, List.append_assoc, rdN, rdB_enc (h x (by simp))]
    simp only
    rw [rdN_enc l r fun y hy => h y (by simp [hy])]
theorem vu_pos (n : Nat) : 0 < (vu n).length := by
  unfold vu vuF; split <;> simp
theorem encB_pos (x : Br) : 0 < (encB x).length := by
  have := vu_pos x.a
  unfold encB; simp only [List.length_append]; omega
theorem flat_len : ∀ l : List Br, l.length ≤ (l.flatMap encB).length
  | [] => by simp
  | x :: l => by
    have h1 := flat_len l
    have h2 := encB_pos x
    rw [List.flatMap_cons, List.length_append, List.length_cons]; omega
theorem dec_enc {l : List Br} (h : ∀ x ∈ l, In x) (hl : l.length < 9223372036854775808) : decL (encL l) = some l := by
  have hf := flat_len l
  have hz := zz_lt (n := (l.length : Int)) (by omega) (by omega)
  have e := rdN_enc l [] h
  rw [List.append_nil] at e
  unfold decL encL
  rw [rdU_vu hz]
  simp only [bk_zz]
  rw [if_neg (by rw [List.length_append]; omega)]
  simp only [Int.toNat_natCast, e]
theorem rdB_inv {bs r : List Nat} {x : Br} (hb : ∀ b ∈ bs, b < 256) (h : rdB bs = some (x, r)) : In x ∧ bs = encB x ++ r := by
  unfold rdB rdT at h
  cases h1 : rdU bs with
  | none => rw [h1] at h; cases h
  | some p =>
    obtain ⟨a, r1⟩ := p
    rw [h1] at h
    simp only at h
    obtain ⟨ha, hbs⟩ := rdU_inv hb h1
    have hb1 : ∀ b ∈ r1, b < 256 := fun b hm => hb b (by rw [hbs]; simp [hm])
    by_cases hle : a ≤ r1.length
    · rw [if_pos hle] at h
      simp only at h
      have hb2 : ∀ b ∈ r1.drop a, b < 256 := fun b hm => hb1 b (List.mem_of_mem_drop hm)
      have hbt : ∀ b ∈ r1.take a, b < 256 := fun b hm => hb1 b (List.mem_of_mem_take hm)
      have hlt : (r1.take a).length = a := by rw [List.length_take]; omega
      cases h2 : rdU (r1.drop a) with
      | none => rw [h2] at h; cases h
      | some p =>
        obtain ⟨n, r2⟩ := p
        rw [h2] at h
        simp only at h
        obtain ⟨hn, he2⟩ := rdU_inv hb2 h2
        have hb3 : ∀ b ∈ r2, b < 256 := fun b hm => hb2 b (by rw [he2]; simp [hm])
        cases h3 : rdU r2 with
        | none => rw [h3] at h; cases h
        | some p =>
          obtain ⟨m, r3⟩ := p
          rw [h3] at h
          simp only [Option.some.injEq, Prod.mk.injEq] at h
          obtain ⟨rfl, rfl⟩ := h
          obtain ⟨hm, he3⟩ := rdU_inv hb3 h3
          refine ⟨⟨?_, ha, bk_in hn, bk_in hm⟩, ?_⟩
          · have := ub_lt _ hbt
            rw [hlt] at this
            exact this
          · have hsb := sb_ub _ hbt
            rw [hlt] at hsb
            unfold encB
            simp only [zz_bk, hsb]
            rw [List.append_assoc, List.append_assoc, List.append_assoc, ← he3, ← he2, List.take_append_drop, ← hbs]
    · rw [if_neg hle] at h; cases h
theorem rdN_inv : ∀ (k : Nat) (bs : List Nat) (l : List Br) (r : List Nat), (∀ b ∈ bs, b < 256) → rdN k bs = some (l, r) → l.length = k ∧ (∀ x ∈ l, In x) ∧ bs = l.flatMap encB ++ r
  | 0, bs, l, r, _, h => by
    simp only [rdN, Option.some.injEq, Prod.mk.injEq] at h
    obtain ⟨rfl, rfl⟩ := h
    exact ⟨rfl, by simp, by simp⟩
  | k + 1, bs, l, r, hb, h => by
    rw [rdN] at h
    cases h1 : rdB bs with
    | none => rw [h1] at h; cases h
    | some p =>
      obtain ⟨x, r1⟩ := p
      rw [h1] at h
      simp only at h
      obtain ⟨hx, hbs⟩ := rdB_inv hb h1
      have hb1 : ∀ b ∈ r1, b < 256 := fun b hm => hb b (by rw [hbs]; simp [hm])
      cases h2 : rdN k r1 with
      | none => rw [h2] at h; cases h
      | some p =>
        obtain ⟨l1, r2⟩ := p
        rw [h2] at h
        simp only [Option.some.injEq, Prod.mk.injEq] at h
        obtain ⟨rfl, rfl⟩ := h
        obtain ⟨e1, e2, e3⟩ := rdN_inv k r1 l1 r2 hb1 h2
        refine ⟨by rw [List.length_cons, e1], fun y hy => ?_, ?_⟩
        · rcases List.mem_cons.1 hy with rfl | hy
          · exact hx
          · exact e2 y hy
        · rw [List.flatMap_cons, List.append_assoc, ← e3, ← hbs]
theorem enc_dec {bs : List Nat} {l : List Br} (hb : ∀ b ∈ bs, b < 256) (h : decL bs = some l) : encL l = bs ∧ ∀ x ∈ l, In x := by
  unfold decL at h
  cases h1 : rdU bs with
  | none => rw [h1] at h; cases h
  | some p =>
    obtain ⟨z, r1⟩ := p
    rw [h1] at h
    simp only at h
    obtain ⟨hz, hbs⟩ := rdU_inv hb h1
    have hb1 : ∀ b ∈ r1, b < 256 := fun b hm => hb b (by rw [hbs]; simp [hm])
    split at h
    · cases h
    · rename_i hc
      cases h2 : rdN (bk z).toNat r1 with
      | none => rw [h2] at h; cases h
      | some p =>
        obtain ⟨l1, r2⟩ := p
        rw [h2] at h
        cases r2 with
        | cons b r => cases h
        | nil =>
          simp only [Option.some.injEq] at h
          subst h
          obtain ⟨e1, e2, e3⟩ := rdN_inv _ _ _ _ hb1 h2
          refine ⟨?_, e2⟩
          unfold encL
          have : ((l1.length : Nat) : Int) = bk z := by rw [e1]; omega
          rw [this, zz_bk, hbs, e3, List.append_nil]
end Tb
/-
  SB: the writer. No condition.
-/
namespace Tb
open Go.Sx Go
def eY (b : Nat) : List AV := [.int .u8 (.lit (b : Int))]
theorem flatY : Flat 1 eY where
  len _ := rfl
  stb x y hy := by simp [eY] at hy; subst hy; exact stb_int _ _
  cell x y hy := by simp [eY] at hy; subst hy; rfl
  lits x := rfl
theorem bytes_sb : ∀ n c, bytesOf n c = rowsA eY (sb n c)
  | 0, _ => rfl
  | n + 1, c => by rw [sb, rowsA_cons, ← bytes_sb n (c / 256)]; rfl
/- a writer: its bytes -/
structure WS (w : Key) (c : AV) (bs : List Nat) (h : T Blk) (nx n0 : Key) : Prop where
  lo : n0.toNat ≤ w.toNat
  hi : w.toNat < nx.toNat
  n : n0.toNat ≤ nx.toNat
  at_ : T.get w h = some (.cells [c] .fix)
  app : App c (rowsA eY bs) bs.length 1 h nx n0
/- other blocks stay, but for rows that grow -/
def Kp (w : Key) (h : T Blk) (nx : Key) (h' : T Blk) : Prop := ∀ b : Key, b.toNat < nx.toNat → b ≠ w → (∀ B, T.get b h = some B → B ≠ .tok ∧ ∀ l, B ≠ .cells l .part) → T.get b h' = T.get b h
theorem Kp.refl (w : Key) (h : T Blk) (nx : Key) : Kp w h nx h := fun _ _ _ _ => rfl
theorem Kp.trans {w : Key} {h h1 h2 : T Blk} {nx nx1 : Key} (a : Kp w h nx h1) (hn : nx.toNat ≤ nx1.toNat) (b : Kp w h1 nx1 h2) : Kp w h nx h2 := fun k hk hw hB => by
  have e := a k hk hw hB
  rw [b k (by omega) hw (by rw [e]; exact hB), e]
theorem Kp.new (w : Key) (h : T Blk) (nx : Key) (B : Option Blk) : Kp w h nx (T.set nx B h) := fun _ hk _ _ => get_lt hk
theorem Ext.kp {h h' : T Blk} {nx nx' : Key} (e : Ext h nx h' nx') (w : Key) : Kp w h nx h' := fun b hb _ _ => e.g b hb
theorem WS.add {w : Key} {c : AV} {bs : List Nat} {h : T Blk} {nx n0 : Key} (W : WS w c bs h nx n0) (new : List Nat) (hl : bs.length + new.length ≤ 1048576) :
    ∃ c' h' nx', appendTo 1 c (rowsA eY new) new.length h nx = .val c' h' nx' ∧ c'.isCell = true ∧ c'.cells = [c'] ∧ T.get w h' = some (.cells [c] .fix) ∧ WS w c' (bs ++ new) (T.set w (some (.cells [c'] .fix)) h') nx' n0 ∧ nx.toNat ≤ nx'.toNat ∧ (∀ b : Key, b.toNat < n0.toNat → T.get b (T.set w (some (.cells [c'] .fix)) h') = T.get b h) ∧ Kp w h nx (T.set w (some (.cells [c'] .fix)) h') := by
  obtain ⟨c', h', nx', a1, a2, a3, a4, a5⟩ := W.app.addN (new := rowsA eY new) (m := new.length) W.n (by rw [flatY.rows]) hl (flatY.allc new)
  have hw : T.get w h' = some (.cells [c] .fix) := by
    rw [a5 w W.hi (fun B hB => by rw [W.at_] at hB; cases hB; exact ⟨by simp, by simp⟩)]; exact W.at_
  have ⟨x1, x2⟩ := a2.cell
  refine ⟨c', h', nx', a1, x1, x2, hw, ⟨W.lo, by have := W.hi; omega, by have := W.n; omega, by rw [T.get_set_same], ?_⟩, a3, fun b hb => by rw [get_lt (by have := W.lo; omega)]; exact a4 b hb, fun b hb hw2 hB => by rw [T.get_set_ne _ _ _ _ hw2]; exact a5 b hb hB⟩
  have := a2.set (k := w) (B := some (.cells [c'] .fix)) (fun B hB => by rw [hw] at hB; cases hB; exact ⟨by simp, by simp⟩)
  rw [rowsA_app, List.length_append]; exact this
/- a block more -/
theorem WS.ext {w : Key} {c : AV} {bs : List Nat} {h h' : T Blk} {nx nx' n0 : Key} (W : WS w c bs h nx n0) (e : Ext h nx h' nx') : WS w c bs h' nx' n0 :=
  ⟨W.lo, by have := W.hi; have := e.n; omega, by have := W.n; have := e.n; omega, by rw [e.g w W.hi]; exact W.at_, W.app.ext e⟩
/- what a writer's call leaves -/
def Wrote (w : Key) (bs : List Nat) (h : T Blk) (nx n0 : Key) (o : Out) (h' : T Blk) (nx' : Key) : Prop := o = .ret (.tuple []) ∧ ∃ c', WS w c' bs h' nx' n0 ∧ nx.toNat ≤ nx'.toNat ∧ (∀ b : Key, b.toNat < n0.toNat → T.get b h' = T.get b h) ∧ Kp w h nx h'
theorem wrap_u8 (n : Nat) : wrapF .u8 (n : Int) = ((n % 256 : Nat) : Int) := by
  rw [wrapF_eq]; simp [IntKind.wrap, IntKind.bits, IntKind.signed]
theorem or_128 (n : Nat) : arith .or .u8 (.lit ((n % 256 : Nat) : Int)) (.lit 128) = some (.lit ((128 + n % 128 : Nat) : Int)) := by
  have key : ∀ x : Fin 256, wrapF .u8 (.ofNat (Nat.lor (loB .u8 ((x.val : Nat) : Int)) (loB .u8 128))) = ((128 + x.val % 128 : Nat) : Int) := by decide +kernel
  have e := key ⟨n % 256, Nat.mod_lt _ (by omega)⟩
  have e2 : arith .or .u8 (.lit ((n % 256 : Nat) : Int)) (.lit 128) = some (.lit (wrapF .u8 (.ofNat (Nat.lor (loB .u8 ((n % 256 : Nat) : Int)) (loB .u8 128))))) := rfl
  rw [e2, e]
  simp only
  congr 3; omega
theorem shr_7 (orc : Orc) (n : Nat) (k : Key) (tm : T AV) (h : T Blk) (hk : T.get k tm = some (.int .u64 (.lit (n : Int)))) : lightOp orc (.bin .shr (.t k) (.v (.int .u64 (.lit 7)))) tm h = some (.int .u64 (.lit ((n / 128 : Nat) : Int))) := by
  simp only [lightOp, at_t, at_v, hk]
  rfl
theorem mov_o (orc : Orc) {k : Key} {v : AV} {tm : T AV} {h : T Blk} (hk : T.get k tm = some v) : lightOp orc (.mov (.t k)) tm h = some v := by simp [hk]
theorem row_r2 {C : Cfg} {Q : Post} {tm : T AV} {h : T Blk} {nx : Key} {n d : Nat} (hd : d = n / 128) (f1 : T.get (K 1) tm = some (.int .u64 (.lit (n : Int))))
    (hQ : Q .norm (T.set (K 1) (some (.int .u64 (.lit (d : Int)))) (T.set (K 19) (some (.int .u64 (.lit (d : Int)))) (T.set (K 18) (some (.int .u64 (.lit (n : Int)))) tm))) h nx) : wpC C (.ops wire_Writer_Uint_r2) Q tm h nx := by
  subst hd
  have e1 := mov_o C.orc (h := h) f1
  have e2 := shr_7 C.orc n (K 18) (T.set (K 18) (some (.int .u64 (.lit (n : Int)))) tm) h (by simp)
  have e3 := mov_o C.orc (k := K 19) (v := .int .u64 (.lit ((n / 128 : Nat) : Int))) (tm := T.set (K 19) (some (.int .u64 (.lit ((n / 128 : Nat) : Int)))) (T.set (K 18) (some (.int .u64 (.lit (n : Int)))) tm)) (h := h) (by simp)
  generalize n / 128 = d at e2 e3 hQ
  simp only [wire_Writer_Uint_r2, k1_K, k18_K, k19_K, wpC_ops, wpO_cons, wants_none, wpGo_true, aOp, okV, e1, e2, e3, putTm_some, wpO_nil]
  exact hQ
variable {C : Cfg}
def UiInv (w : Key) (bs : List Nat) (n : Nat) (h : T Blk) (nx n0 : Key) (k : Nat) (tm' : T AV) (h' : T Blk) (nx' : Key) : Prop :=
  ∃ (n' : Nat) (bs' : List Nat) (c' : AV), k ≤ 10 ∧ T.get (K 0) tm' = some (.ptr w 0) ∧ T.get (K 1) tm' = some (.int .u64 (.lit (n' : Int))) ∧ WS w c' bs' h' nx' n0 ∧ n' * 128 ^ (10 - k) < 18446744073709551616 ∧ bs' ++ vuF k n' = bs ++ vu n ∧ bs'.length ≤ bs.length + (10 - k) ∧
    nx.toNat ≤ nx'.toNat ∧ (∀ b : Key, b.toNat < n0.toNat → T.get b h' = T.get b h) ∧ Kp w h nx h'
theorem wUint_ok (S : Fn C n_wire_Writer_Uint wire_Writer_Uint) {w : Key} {c : AV} {bs : List Nat} {h : T Blk} {nx n0 : Key} (Ws : WS w c bs h nx n0) {n : Nat} (hn : n < 18446744073709551616) (hl : bs.length ≤ 100000) :
    CallA C n_wire_Writer_Uint [.ptr w 0, .int .u64 (.lit (n : Int))] h nx (Wrote w (bs ++ vu n) h nx n0) := by
  refine S.call ?_
  simp [wire_Writer_Uint]
  refine W.loopM (n := 10) (UiInv w bs n h nx n0) ?_ ?_
  · exact ⟨n, bs, c, by omega, by simp, by simp, Ws, by simpa using hn, rfl, by omega, Nat.le_refl _, fun _ _ => rfl, Kp.refl _ _ _⟩
  · rintro k tm1 h1 nx1 ⟨n', bs', c', hk, f0, f1, W1, hlt, hbs, hlen, hnx, hfr, hkp⟩
    refine W.of ?_
    simp [wire_Writer_Uint_l0]
    have s1 := Key.toNat_succ nx1
    by_cases hsm : n' < 128
    · have hsm' : (n' : Int) < 128 := by omega
      have hv : vuF k n' = [n'] := by cases k <;> simp [vuF, hsm]
      simp [wire_Writer_Uint_r0, f1, hsm']
      obtain ⟨m, hm⟩ : ∃ m, m = n' % 256 := ⟨_, rfl⟩
      have h12 : wrapF .u8 (n' : Int) = (m : Int) := by rw [wrap_u8, hm]
      have hmn : m = n' := by omega
      obtain ⟨c2, h2, nx2, g, x1, x2, x3, W2, x5, x6, x7⟩ := (W1.ext (E0 h1 nx1 (.cells [.int .u8 (.lit (m : Int))] .fix))).add [m] (by simp; omega)
      have hr1 : rowsA eY [m] = [.int .u8 (.lit (m : Int))] := rowsA_one _ _
      rw [hr1] at g
      simp only [List.length_singleton] at g
      have hz : ∀ H, frzLA (frzA 8) [AV.int .u8 (.lit (m : Int))] H = ([AV.int .u8 (.lit (m : Int))], H) := fun H => frzLA_stb (by intro y hy; simp at hy; subst hy; exact stb_int _ _)
      simp [-appendTo, wire_Writer_Uint_r3, f0, f1, W1.at_, h12, hz, g, x1, x2, x3]
      refine ⟨rfl, c2, by rw [← hbs, hv, ← hmn]; exact W2, by omega, fun b hb => ?_, (hkp.trans hnx (Kp.new w h1 nx1 _)).trans (by omega) x7⟩
      rw [x6 b hb, get_lt (by have := W1.n; omega)]; exact hfr b hb
    · have hsm' : ¬ (n' : Int) < 128 := by omega
      cases k with
      | zero =>
        exfalso
        have : (128 : Nat) ^ (10 - 0) = 1180591620717411303424 := by decide
        rw [this] at hlt; omega
      | succ k =>
        simp [wire_Writer_Uint_r0, f1, hsm']
        obtain ⟨m, hm⟩ : ∃ m, m = n' % 256 := ⟨_, rfl⟩
        obtain ⟨y, hy⟩ : ∃ y, y = 128 + n' % 128 := ⟨_, rfl⟩
        have h12 : wrapF .u8 (n' : Int) = (m : Int) := by rw [wrap_u8, hm]
        have h13 : arith .or .u8 (.lit (m : Int)) (.lit 128) = some (.lit (y : Int)) := by rw [hm, or_128, hy]
        obtain ⟨c2, h2, nx2, g, x1, x2, x3, W2, x5, x6, x7⟩ := (W1.ext (E0 h1 nx1 (.cells [.int .u8 (.lit (y : Int))] .fix))).add [y] (by simp; omega)
        have hr1 : rowsA eY [y] = [.int .u8 (.lit (y : Int))] := rowsA_one _ _
        rw [hr1] at g
        simp only [List.length_singleton] at g
        have hz : ∀ H, frzLA (frzA 8) [AV.int .u8 (.lit (y : Int))] H = ([AV.int .u8 (.lit (y : Int))], H) := fun H => frzLA_stb (by intro z hz; simp at hz; subst hz; exact stb_int _ _)
        simp [-appendTo, -arith, wire_Writer_Uint_r1, f0, f1, W1.at_, h12, h13, hz, g, x1, x2, x3]
        refine wpO_of (row_r2 (n := n') (d := n' / 128) rfl (by simp [f1]) ?_)
        simp
        refine ⟨k, by omega, ?_⟩
        unfold UiInv
        have hp : 10 - k = (10 - (k + 1)) + 1 := by omega
        refine ⟨n' / 128, bs' ++ [y], c2, by omega, ?_, ?_, W2, ?_, ?_, ?_, by omega, fun b hb => ?_, (hkp.trans hnx (Kp.new w h1 nx1 _)).trans (by omega) x7⟩
        · simp [f0]
        · simp
        · rw [hp, Nat.pow_succ]
          have : n' / 128 * (128 ^ (10 - (k + 1)) * 128) ≤ n' * 128 ^ (10 - (k + 1)) := by
            rw [Nat.mul_comm (128 ^ _) 128, ← Nat.mul_assoc]
            exact Nat.mul_le_mul_right _ (Nat.div_mul_le_self _ _)
          omega
        · rw [← hbs, vuF, if_neg hsm, hy, List.append_assoc]; rfl
        · rw [List.length_append, List.length_singleton]; omega
        · rw [x6 b hb, get_lt (by have := W1.n; omega)]; exact hfr b hb
end Tb
/-
  SB: the writer: signed numbers, strings, rows of bytes. No condition.
-/
namespace Tb
open Go.Sx Go
theorem wrap_u64n (n : Int) : wrapF .u64 n = ((n.emod 18446744073709551616).toNat : Int) := by
  rw [wrapF_eq]
  simp only [IntKind.wrap, IntKind.bits, IntKind.signed]
  have e : n.emod 18446744073709551616 = n % 18446744073709551616 := rfl
  rw [e]
  simp
  omega
theorem cint_o (orc : Orc) (k' kk : IntKind) {k : Key} {n : Int} {tm : T AV} {h : T Blk} (hk : T.get k tm = some (.int kk (.lit n))) : lightOp orc (.cint k' (.t k)) tm h = some (.int k' (.lit (wrapF k' n))) := by
  simp [hk]
theorem shl1_o (orc : Orc) {k : Key} {u : Nat} {tm : T AV} {h : T Blk} (hk : T.get k tm = some (.int .u64 (.lit (u : Int)))) : lightOp orc (.bin .shl (.t k) (.v (.int .u64 (.lit 1)))) tm h = some (.int .u64 (.lit (wrapF .u64 (Int.mul (u : Int) 2)))) := by
  simp only [lightOp, at_t, at_v, hk]
  rfl
theorem shr63_o (orc : Orc) {k : Key} {n : Int} {tm : T AV} {h : T Blk} (h1 : -9223372036854775808 ≤ n) (h2 : n < 9223372036854775808) (hk : T.get k tm = some (.int .i64 (.lit n))) : lightOp orc (.bin .shr (.t k) (.v (.int .u64 (.lit 63)))) tm h = some (.int .i64 (.lit (if n < 0 then -1 else 0))) := by
  simp only [lightOp, at_t, at_v, hk]
  cases n with
  | ofNat a =>
    have ha : a < 9223372036854775808 := by
      have : ((a : Nat) : Int) < 9223372036854775808 := h2
      omega
    show some (AV.int .i64 (.lit (.ofNat (Nat.div a (Nat.pow 2 63))))) = _
    have : Nat.div a (Nat.pow 2 63) = 0 := Nat.div_eq_of_lt (by show a < 2 ^ 63; omega)
    rw [this, if_neg (by have : (0 : Int) ≤ Int.ofNat a := Int.natCast_nonneg a; omega)]; rfl
  | negSucc a =>
    have ha : a < 9223372036854775808 := by
      have : -9223372036854775808 ≤ Int.negSucc a := h1
      omega
    show some (AV.int .i64 (.lit (.negSucc (Nat.div a (Nat.pow 2 63))))) = _
    have : Nat.div a (Nat.pow 2 63) = 0 := Nat.div_eq_of_lt (by show a < 2 ^ 63; omega)
    rw [this, if_pos (by omega)]; rfl
theorem xor_o (orc : Orc) {k k' : Key} {a b : Nat} {tm : T AV} {h : T Blk} (hk : T.get k tm = some (.int .u64 (.lit (a : Int)))) (hk' : T.get k' tm = some (.int .u64 (.lit (b : Int)))) : lightOp orc (.bin .xor (.t k) (.t k')) tm h = some (.int .u64 (.lit (Int.emod (.ofNat (Nat.xor a b)) 18446744073709551616))) := by
  simp only [lightOp, at_t, hk, hk']
  rfl
theorem not64 (x : Nat) (hx : x < 18446744073709551616) : Nat.xor x 18446744073709551615 = 18446744073709551615 - x := by
  have h1 : (BitVec.ofNat 64 x ^^^ BitVec.allOnes 64).toNat = x ^^^ 18446744073709551615 := by
    rw [BitVec.toNat_xor, BitVec.toNat_allOnes, BitVec.toNat_ofNat, Nat.mod_eq_of_lt (by simpa using hx)]
  have h2 : BitVec.ofNat 64 x ^^^ BitVec.allOnes 64 = ~~~ (BitVec.ofNat 64 x) := by
    rw [BitVec.not_def, BitVec.xor_comm]
  rw [h2, BitVec.toNat_not, BitVec.toNat_ofNat, Nat.mod_eq_of_lt (by simpa using hx)] at h1
  exact h1.symm.trans rfl |>.trans (by omega)
/- the zigzag form, as the program reckons it -/
theorem zig (n : Int) (h1 : -9223372036854775808 ≤ n) (h2 : n < 9223372036854775808) :
    Int.emod (.ofNat (Nat.xor ((Int.mul (((n.emod 18446744073709551616).toNat : Nat) : Int) 2).emod 18446744073709551616).toNat (((if n < 0 then (-1 : Int) else 0).emod 18446744073709551616).toNat))) 18446744073709551616 = ((zz n : Nat) : Int) := by
  have hmul : Int.mul (((n.emod 18446744073709551616).toNat : Nat) : Int) 2 = (((n.emod 18446744073709551616).toNat : Nat) : Int) * 2 := rfl
  have e1 : n.emod 18446744073709551616 = n % 18446744073709551616 := rfl
  rw [hmul]
  by_cases h : n < 0
  · rw [if_pos h]
    have e2 : ((-1 : Int).emod 18446744073709551616).toNat = 18446744073709551615 := by decide
    have e3 : (((((n.emod 18446744073709551616).toNat : Nat) : Int) * 2).emod 18446744073709551616).toNat = (18446744073709551616 + 2 * n).toNat := by
      rw [e1]
      have e4 : ((((n % 18446744073709551616).toNat : Nat) : Int) * 2).emod 18446744073709551616 = (((n % 18446744073709551616).toNat : Nat) : Int) * 2 % 18446744073709551616 := rfl
      rw [e4]; omega
    rw [e2, e3, not64 _ (by omega)]
    unfold zz
    rw [if_pos h]
    show ((18446744073709551615 - (18446744073709551616 + 2 * n).toNat : Nat) : Int) % 18446744073709551616 = _
    omega
  · rw [if_neg h]
    have e2 : ((0 : Int).emod 18446744073709551616).toNat = 0 := by decide
    have e3 : (((((n.emod 18446744073709551616).toNat : Nat) : Int) * 2).emod 18446744073709551616).toNat = (2 * n).toNat := by
      rw [e1]
      have e4 : ((((n % 18446744073709551616).toNat : Nat) : Int) * 2).emod 18446744073709551616 = (((n % 18446744073709551616).toNat : Nat) : Int) * 2 % 18446744073709551616 := rfl
      rw [e4]; omega
    have e5 : ∀ x : Nat, Nat.xor x 0 = x := fun x => Nat.xor_zero x
    rw [e2, e3, e5]
    unfold zz
    rw [if_neg h]
    show (((2 * n).toNat : Nat) : Int) % 18446744073709551616 = _
    omega
variable {C : Cfg}
theorem wInt_ok (S : Fn C n_wire_Writer_Int wire_Writer_Int) (SU : Fn C n_wire_Writer_Uint wire_Writer_Uint) (hr : C.raw n_wire_Writer_Uint = false) {w : Key} {c : AV} {bs : List Nat} {h : T Blk} {nx n0 : Key} (Ws : WS w c bs h nx n0) {n : Int} (h1 : -9223372036854775808 ≤ n) (h2 : n < 9223372036854775808) (hl : bs.length ≤ 100000) :
    CallA C n_wire_Writer_Int [.ptr w 0, I n] h nx (Wrote w (bs ++ vu (zz n)) h nx n0) := by
  refine S.call ?_
  have z := zig n h1 h2
  have hz := zz_lt h1 h2
  have k4 := mov_o C.orc (k := K 0) (v := .ptr w 0) (tm := (T.set (K 1) (some (I n)) (T.set (K 0) (some (.ptr w 0)) .nil))) (h := h) (by simp)
  have k5 := mov_o C.orc (k := K 1) (v := I n) (tm := (T.set (K 4) (some (.ptr w 0)) (T.set (K 1) (some (I n)) (T.set (K 0) (some (.ptr w 0)) .nil)))) (h := h) (by simp)
  have k6 := cint_o C.orc .u64 .i64 (k := K 5) (n := n) (tm := T.set (K 5) (some (I n)) (T.set (K 4) (some (.ptr w 0)) (T.set (K 1) (some (I n)) (T.set (K 0) (some (.ptr w 0)) .nil)))) (h := h) (by simp)
  rw [wrap_u64n] at k6
  generalize hu : (n.emod 18446744073709551616).toNat = u at k6 z
  have k7 := shl1_o C.orc (k := K 6) (u := u) (tm := T.set (K 6) (some (.int .u64 (.lit (u : Int)))) (T.set (K 5) (some (I n)) (T.set (K 4) (some (.ptr w 0)) (T.set (K 1) (some (I n)) (T.set (K 0) (some (.ptr w 0)) .nil))))) (h := h) (by simp)
  rw [wrap_u64n] at k7
  generalize hv : ((Int.mul (u : Int) 2).emod 18446744073709551616).toNat = v at k7 z
  have k8 := mov_o C.orc (k := K 1) (v := I n) (tm := T.set (K 7) (some (.int .u64 (.lit (v : Int)))) (T.set (K 6) (some (.int .u64 (.lit (u : Int)))) (T.set (K 5) (some (I n)) (T.set (K 4) (some (.ptr w 0)) (T.set (K 1) (some (I n)) (T.set (K 0) (some (.ptr w 0)) .nil)))))) (h := h) (by simp)
  have k9 := shr63_o C.orc (k := K 8) h1 h2 (tm := T.set (K 8) (some (I n)) (T.set (K 7) (some (.int .u64 (.lit (v : Int)))) (T.set (K 6) (some (.int .u64 (.lit (u : Int)))) (T.set (K 5) (some (I n)) (T.set (K 4) (some (.ptr w 0)) (T.set (K 1) (some (I n)) (T.set (K 0) (some (.ptr w 0)) .nil))))))) (h := h) (by simp)
  generalize hs : (if n < 0 then (-1 : Int) else 0) = s at k9 z
  have k10 := cint_o C.orc .u64 .i64 (k := K 9) (n := s) (tm := T.set (K 9) (some (I s)) (T.set (K 8) (some (I n)) (T.set (K 7) (some (.int .u64 (.lit (v : Int)))) (T.set (K 6) (some (.int .u64 (.lit (u : Int)))) (T.set (K 5) (some (I n)) (T.set (K 4) (some (.ptr w 0)) (T.set (K 1) (some (I n)) (T.set (K 0) (some (.ptr w 0)) .nil)))))))) (h := h) (by simp)
  rw [wrap_u64n] at k10
  generalize ht : (s.emod 18446744073709551616).toNat = t at k10 z
  have k11 := xor_o C.orc (k := K 7) (k' := K 10) (a := v) (b := t) (tm := T.set (K 10) (some (.int .u64 (.lit (t : Int)))) (T.set (K 9) (some (I s)) (T.set (K 8) (some (I n)) (T.set (K 7) (some (.int .u64 (.lit (v : Int)))) (T.set (K 6) (some (.int .u64 (.lit (u : Int)))) (T.set (K 5) (some (I n)) (T.set (K 4) (some (.ptr w 0)) (T.set (K 1) (some (I n)) (T.set (K 0) (some (.ptr w 0)) .nil))))))))) (h := h) (by simp) (by simp)
  rw [z] at k11
  have hp : paramsT [.ptr w 0, I n] (K 0) .nil = T.set (K 1) (some (I n)) (T.set (K 0) (some (.ptr w 0)) .nil) := rfl
  rw [hp]
  simp only [wire_Writer_Int, wire_Writer_Int_r0, k0_K, k1_K, k4_K, k5_K, k6_K, k7_K, k8_K, k9_K, k10_K, k11_K, k12_K, wpC_ops, wpO_cons, wants_none, wpGo_true, aOp, okV, k4, k5, k6, k7, k8, k9, k10, k11, putTm_some]
  simp [hr]
  refine (wUint_ok SU Ws hz hl).mono ?_
  rintro o h3 nx3 ⟨rfl, hW⟩
  simp
  exact ⟨rfl, hW⟩
end Tb
/-
  SB: the writer: strings, rows of bytes, what it wrote. No condition.
-/
namespace Tb
open Go.Sx Go
variable {C : Cfg}
theorem wrap_len (a : Nat) (h : a < 18446744073709551616) : wrapF .u64 (a : Int) = (a : Int) := by
  rw [wrap_u64n]
  have e : (a : Int).emod 18446744073709551616 = (a : Int) % 18446744073709551616 := rfl
  rw [e]; omega
theorem wText_ok (S : Fn C n_wire_Writer_Text wire_Writer_Text) (SU : Fn C n_wire_Writer_Uint wire_Writer_Uint) (hr : C.raw n_wire_Writer_Uint = false) {w : Key} {c : AV} {bs : List Nat} {h : T Blk} {nx n0 : Key} (Ws : WS w c bs h nx n0) (a b : Nat) (ha : a ≤ 100000) (hl : bs.length ≤ 100000) :
    CallA C n_wire_Writer_Text [.ptr w 0, .str a b] h nx (Wrote w (bs ++ (vu a ++ sb a b)) h nx n0) := by
  refine S.call ?_
  have hw := wrap_len a (by omega)
  simp [wire_Writer_Text]
  simp [wire_Writer_Text_r0, hw, hr]
  refine (wUint_ok SU Ws (n := a) (by omega) hl).mono ?_
  rintro o h1 nx1 ⟨rfl, c1, W1, hn1, hf1, hk1⟩
  have hvl : (vu a).length ≤ 11 := by
    have : ∀ k n, (vuF k n).length ≤ k + 1 := by
      intro k
      induction k with
      | zero => intro n; simp [vuF]
      | succ k ih => intro n; rw [vuF]; split
                     · simp
                     · have := ih (n / 128); rw [List.length_cons]; omega
    exact this 10 a
  obtain ⟨c2, h2, nx2, g, x1, x2, x3, W2, x5, x6, x7⟩ := W1.add (sb a b) (by rw [sb_len, List.length_append]; omega)
  rw [sb_len, ← bytes_sb] at g
  simp
  simp [-appendTo, wire_Writer_Text_r1, W1.at_, g, x1, x2, x3]
  refine ⟨rfl, c2, by rw [← List.append_assoc]; exact W2, by omega, fun b hb => by rw [x6 b hb]; exact hf1 b hb, hk1.trans hn1 x7⟩
theorem wRaw_ok (S : Fn C n_wire_Writer_Raw wire_Writer_Raw) (SU : Fn C n_wire_Writer_Uint wire_Writer_Uint) (hr : C.raw n_wire_Writer_Uint = false) {w : Key} {c : AV} {bs : List Nat} {h : T Blk} {nx n0 : Key} (Ws : WS w c bs h nx n0) {d : AV} {l : List Nat} (hd : IsR 1 eY d l) (ha : l.length ≤ 100000) (hl : bs.length ≤ 100000) :
    CallA C n_wire_Writer_Raw [.ptr w 0, d] h nx (Wrote w (bs ++ (vu l.length ++ l)) h nx n0) := by
  refine S.call ?_
  have hw := wrap_len l.length (by omega)
  have hw0 := wrap_len 0 (by omega)
  have hvl : (vu l.length).length ≤ 11 := by
    have : ∀ k n, (vuF k n).length ≤ k + 1 := by
      intro k
      induction k with
      | zero => intro n; simp [vuF]
      | succ k ih => intro n; rw [vuF]; split
                     · simp
                     · have := ih (n / 128); rw [List.length_cons]; omega
    exact this 10 l.length
  simp [wire_Writer_Raw]
  rcases hd with ⟨rfl, rfl⟩ | rfl
  · have hw0' : wrapF .u64 0 = 0 := rfl
    simp [wire_Writer_Raw_r0, hw0', hr]
    refine (by simpa using wUint_ok SU Ws (n := 0) (by omega) hl : CallA C n_wire_Writer_Uint [.ptr w 0, .int .u64 (.lit 0)] h nx (Wrote w (bs ++ vu 0) h nx n0)).mono ?_
    rintro o h1 nx1 ⟨rfl, c1, W1, hn1, hf1, hk1⟩
    obtain ⟨c2, h2, nx2, g, x1, x2, x3, W2, x5, x6, x7⟩ := W1.add [] (by simp; simp at hvl; omega)
    simp only [rowsA_nil, List.length_nil] at g
    simp
    simp [-appendTo, wire_Writer_Raw_r1, W1.at_, g, x1, x2, x3]
    refine ⟨rfl, c2, by simpa using W2, by omega, fun b hb => by rw [x6 b hb]; exact hf1 b hb, hk1.trans hn1 x7⟩
  · simp [wire_Writer_Raw_r0, hw, hr]
    refine (wUint_ok SU Ws (n := l.length) (by omega) hl).mono ?_
    rintro o h1 nx1 ⟨rfl, c1, W1, hn1, hf1, hk1⟩
    obtain ⟨c2, h2, nx2, g, x1, x2, x3, W2, x5, x6, x7⟩ := W1.add l (by rw [List.length_append]; omega)
    simp
    simp [-appendTo, wire_Writer_Raw_r1, W1.at_, g, x1, x2, x3]
    refine ⟨rfl, c2, by rw [← List.append_assoc]; exact W2, by omega, fun b hb => by rw [x6 b hb]; exact hf1 b hb, hk1.trans hn1 x7⟩
/- an empty literal and what is appended to it -/
theorem lit_app {q n0 : Key} {h : T Blk} {nx : Key} (hq : T.get q h = some (.cells [] .fix)) (hlo : n0.toNat ≤ q.toNat) (hn : n0.toNat ≤ nx.toNat) (m : List Nat) (hl : m.length ≤ 1048576) :
    ∃ c' h' nx', appendTo 1 (.slice q 0 0 1) (rowsA eY m) m.length h nx = .val c' h' nx' ∧ nx.toNat ≤ nx'.toNat ∧ IsR 1 eY (frzA 8 c' h').1 m ∧ ∀ b : Key, b.toNat < n0.toNat → T.get b (frzA 8 c' h').2 = T.get b h := by
  by_cases hm : m = []
  · subst hm
    have hz := frz_fix (n := 7) (b := q) (len := 0) (sz := 1) (l := []) (H := T.set q (some (.cells [] .fix)) h) (by rw [T.get_set_same]) rfl (by simp)
    refine ⟨.slice q 0 0 1, T.set q (some (.cells [] .fix)) h, nx, by simp [hq], Nat.le_refl _, ?_, fun b hb => ?_⟩
    · rw [hz]; exact .inr rfl
    · rw [hz, get_lt (by omega), get_lt (by omega)]
  · have hmp : 0 < m.length := List.length_pos_iff.2 hm
    have hm0 : ¬ m.length = 0 := by omega
    have hr := flatY.rows m
    have hall := flatY.allc m
    have hz := frz_part (n := 7) (b := nx) (len := m.length) (sz := 1) (l := rowsA eY m) (H := T.set nx (some (.cells (rowsA eY m) .part)) h) (by rw [T.get_set_same]) hr (flatY.stbs m)
    refine ⟨.slice nx 0 m.length 1, T.set nx (some (.cells (rowsA eY m) .part)) h, nx.succ, ?_, by rw [Key.toNat_succ]; omega, ?_, fun b hb => ?_⟩
    · simp [hq, hl, hall, hm0]
    · rw [hz]; exact .inr rfl
    · rw [hz, get_lt (by omega), get_lt (by omega)]
theorem wDone_ok (S : Fn C n_wire_Writer_Done wire_Writer_Done) {w : Key} {c : AV} {bs : List Nat} {h : T Blk} {nx n0 : Key} (Ws : WS w c bs h nx n0) (hl : bs.length ≤ 1048576) :
    CallA C n_wire_Writer_Done [.ptr w 0] h nx (fun o h' nx' => (∃ c', o = .ret c' ∧ IsR 1 eY c' bs) ∧ Ext h nx h' nx') := by
  have s1 := Key.toNat_succ nx
  refine S.call ?_
  have hat : T.get w (T.set nx (some (.cells [] .fix)) h) = some (.cells [c] .fix) := by rw [get_lt Ws.hi]; exact Ws.at_
  simp [wire_Writer_Done]
  simp [wire_Writer_Done_r0]
  obtain ⟨c', h', nx', g, hn, hR, hf⟩ := lit_app (q := nx) (n0 := nx) (h := T.set nx (some (.cells [] .fix)) h) (nx := nx.succ) (by rw [T.get_set_same]) (Nat.le_refl _) (by omega) bs hl
  have hE : Ext h nx (frzA 8 c' h').2 nx' := ⟨by omega, fun b hb => by rw [hf b hb, get_lt hb]⟩
  rcases Ws.app.is with ⟨rfl, e1, e2⟩ | ⟨b, rfl, hb, hlo, hlt, hll⟩ | ⟨t, rfl, ht, hlo, hlt⟩
  · have : bs = [] := List.eq_nil_of_length_eq_zero e2
    subst this
    simp only [rowsA_nil, List.length_nil] at g
    simp [-appendTo, wire_Writer_Done_r1, hat, g]
    exact ⟨hR, hE⟩
  · have hb2 : T.get b (T.set nx (some (.cells [] .fix)) h) = some (.cells (rowsA eY bs) .part) := by rw [get_lt hlt]; exact hb
    have hz : ∀ H, frzLA (frzA 8) (rowsA eY bs) H = (rowsA eY bs, H) := fun H => frzLA_stb (flatY.stbs bs)
    have hle : bs.length ≤ (rowsA eY bs).length := by rw [flatY.rows]; omega
    have htk : List.take bs.length (rowsA eY bs) = rowsA eY bs := List.take_of_length_le (by rw [flatY.rows]; omega)
    simp [-appendTo, wire_Writer_Done_r1, hat, hb2, hz, hle, htk, g]
    exact ⟨hR, hE⟩
  · simp [-appendTo, wire_Writer_Done_r1, hat, g]
    exact ⟨hR, hE⟩
end Tb
/-
  SB: the program's Encode. No condition.
-/
namespace Tb
open Go.Sx Go
structure StdW (C : Cfg) : Prop where
  b : Std C
  enc : Fn C n_branch_Encode branch_Encode
  wraw : Fn C n_wire_Writer_Raw wire_Writer_Raw
  wdone : Fn C n_wire_Writer_Done wire_Writer_Done
  wint : Fn C n_wire_Writer_Int wire_Writer_Int
  wtext : Fn C n_wire_Writer_Text wire_Writer_Text
  wuint : Fn C n_wire_Writer_Uint wire_Writer_Uint
variable {C : Cfg} (S : StdW C)
include S
def EncInv (c : AV) (l : List Br) (h : T Blk) (nx : Key) (k : Nat) (tm' : T AV) (h' : T Blk) (nx' : Key) : Prop :=
  ∃ (j : Nat) (d : AV), k = l.length - j ∧ j ≤ l.length ∧ T.get (K 3) tm' = some (.ptr nx 0) ∧ T.get (K 9) tm' = some c ∧ T.get (K 10) tm' = some (I l.length) ∧ T.get (K 11) tm' = some (I j) ∧
    WS nx d (vu (zz l.length) ++ (l.take j).flatMap encB) h' nx' nx ∧ nx.toNat ≤ nx'.toNat ∧ ∀ b : Key, b.toNat < nx.toNat → T.get b h' = T.get b h
theorem encode_ok {c : AV} {l : List Br} (hc : IsL c l) (hin : ∀ x ∈ l, In x) (hl : (encL l).length ≤ 100000) : Pur C n_branch_Encode [c] (fun o => ∃ c', o = .ret c' ∧ IsR 1 eY c' (encL l)) := by
  intro h nx
  have s1 := Key.toNat_succ nx
  have q1 : C.raw n_wire_Writer_Int = false := S.b.raw _ (by decide)
  have q2 : C.raw n_wire_Writer_Text = false := S.b.raw _ (by decide)
  have q3 : C.raw n_wire_Writer_Uint = false := S.b.raw _ (by decide)
  have q4 : C.raw n_wire_Writer_Done = false := S.b.raw _ (by decide)
  have hfl := flat_len l
  have hel : (encL l).length = (vu (zz l.length)).length + (l.flatMap encB).length := by unfold encL; rw [List.length_append]
  refine S.enc.call ?_
  simp [branch_Encode]
  simp [branch_Encode_r0]
  simp [branch_Encode_r1]
  have W0 : WS nx .nils [] (T.set nx (some (.cells [.nils] .fix)) h) nx.succ nx := ⟨Nat.le_refl _, by omega, by omega, by rw [T.get_set_same], App.nil 1⟩
  have fin : ∀ (tm : T AV) h2 nx2 d, T.get (K 3) tm = some (.ptr nx 0) → WS nx d (encL l) h2 nx2 nx → nx.toNat ≤ nx2.toNat → (∀ b : Key, b.toNat < nx.toNat → T.get b h2 = T.get b h) →
      wpC C ((PCode.ops branch_Encode_r10).seq PCode.ret) (BodyP [RV.tmp (K 2)] fun o h' nx' => (∃ c', o = Out.ret c' ∧ IsR 1 eY c' (encL l)) ∧ Ext h nx h' nx') tm h2 nx2 := by
    intro tm h2 nx2 d f3 W hn hf
    simp
    simp [branch_Encode_r10, f3, q4]
    refine (wDone_ok S.wdone W (by omega)).mono ?_
    rintro o h3 nx3 ⟨⟨c', rfl, hR⟩, e3⟩
    have hRs : ∀ n h, frzA n c' h = (c', h) := IsR.stb hR
    simp [hRs]
    exact ⟨hR, by have := e3.n; omega, fun b hb => by rw [e3.g b (by omega)]; exact hf b hb⟩
  have loop : ∀ (tm : T AV) h2 nx2 d, T.get (K 3) tm = some (.ptr nx 0) → T.get (K 9) tm = some c → T.get (K 10) tm = some (I l.length) → T.get (K 11) tm = some (I 0) → WS nx d (vu (zz l.length)) h2 nx2 nx → nx.toNat ≤ nx2.toNat → (∀ b : Key, b.toNat < nx.toNat → T.get b h2 = T.get b h) →
      W C (.loop branch_Encode_l0) (blockPost 0 (seqPost (wpC C ((PCode.ops branch_Encode_r10).seq PCode.ret) (BodyP [RV.tmp (K 2)] fun o h' nx' => (∃ c', o = Out.ret c' ∧ IsR 1 eY c' (encL l)) ∧ Ext h nx h' nx')) (BodyP [RV.tmp (K 2)] fun o h' nx' => (∃ c', o = Out.ret c' ∧ IsR 1 eY c' (encL l)) ∧ Ext h nx h' nx'))) tm h2 nx2 := by
    intro tm h2 nx2 d f3 f9 f10 f11 Wd hn hf
    refine W.loopM (n := l.length) (EncInv c l h nx) ?_ ?_
    · exact ⟨0, d, by simp, by omega, f3, f9, f10, by simpa using f11, by simpa using Wd, hn, hf⟩
    · rintro k tm1 h1 nx1 ⟨j, d, rfl, hj, f3, f9, f10, f11, W1, hn1, hf1⟩
      refine W.of ?_
      simp [branch_Encode_l0]
      simp [branch_Encode_r4, f10, f11]
      refine ⟨fun hjlt => ?_, fun hge => ?_⟩
      · have hjl : j < l.length := by omega
        have hcs : c = .sl (rowsA eB l) l.length 3 .any := by
          rcases hc with ⟨_, rfl⟩ | h
          · simp at hjl
          · exact h
        subst hcs
        have hr := flatB.rows l
        have h3 : 3 ≤ (rowsA eB l).length - j * 3 := by omega
        have ec := flatB.at hjl
        have t1 := Key.toNat_succ nx1
        have hx := hin _ (List.getElem_mem hjl)
        have htl : ((l.take j).flatMap encB).length + (encB l[j]).length ≤ (l.flatMap encB).length := by
          have e : l = l.take j ++ l[j] :: l.drop (j + 1) := by rw [← List.drop_eq_getElem_cons hjl, List.take_append_drop]
          have e2 : l.flatMap encB = (l.take j).flatMap encB ++ (encB l[j] ++ (l.drop (j + 1)).flatMap encB) := by
            conv => lhs; rw [e]
            rw [List.flatMap_append, List.flatMap_cons]
          rw [e2]; simp only [List.length_append]; omega
        have hea : l[j].a ≤ 100000 := by
          have : l[j].a ≤ (encB l[j]).length := by unfold encB; simp only [List.length_append, sb_len]; omega
          omega
        have heb : (encB l[j]).length = (vu l[j].a).length + l[j].a + (vu (zz l[j].n)).length + (vu (zz l[j].m)).length := by unfold encB; simp only [List.length_append, sb_len]
        generalize hxx : l[j] = x at hx hea heb htl ec
        simp [branch_Encode_r5, f9, f11, hjl, h3, ec]
        have hne : nx1 ≠ nx := ne_nat (by have := W1.hi; omega)
        have W2 := W1.ext (E0 h1 nx1 (.cells (eB x) .fix))
        simp [branch_Encode_r6, f3, eB, q2]
        refine (wText_ok S.wtext S.wuint q3 W2 x.a x.b hea (by simp only [List.length_append]; omega)).mono ?_
        rintro o h4 nx4 ⟨rfl, c4, W4, n4, g4, p4⟩
        have hb4 : T.get nx1 h4 = some (.cells (eB x) .fix) := by
          rw [p4 nx1 (by omega) hne (fun B hB => by rw [T.get_set_same] at hB; cases hB; exact ⟨by simp, by simp⟩), T.get_set_same]
        simp
        simp [branch_Encode_r7, f3, hb4, eB, q1]
        refine (wInt_ok S.wint S.wuint q3 W4 hx.n.1 hx.n.2 (by simp only [List.length_append, sb_len]; omega)).mono ?_
        rintro o h5 nx5 ⟨rfl, c5, W5, n5, g5, p5⟩
        have hb5 : T.get nx1 h5 = some (.cells (eB x) .fix) := by
          rw [p5 nx1 (by omega) hne (fun B hB => by rw [hb4] at hB; cases hB; exact ⟨by simp, by simp⟩), hb4]
        simp
        simp [branch_Encode_r8, f3, hb5, eB, q1]
        refine (wInt_ok S.wint S.wuint q3 W5 hx.m.1 hx.m.2 (by simp only [List.length_append, sb_len]; omega)).mono ?_
        rintro o h6 nx6 ⟨rfl, c6, W6, n6, g6, p6⟩
        simp
        simp [branch_Encode_r9, f11]
        refine ⟨l.length - (j + 1), by omega, ?_⟩
        unfold EncInv
        refine ⟨j + 1, c6, rfl, by omega, ?_, ?_, ?_, ?_, ?_, by omega, fun b hb => ?_⟩
        · simp [f3]
        · simp [f9]
        · simp [f10]
        · simp; rw [wrap_id (by omega) (by omega)]
        · rw [List.take_succ_eq_append_getElem hjl, List.flatMap_append, hxx]
          have e : vu (zz l.length) ++ (l.take j).flatMap encB ++ (vu x.a ++ sb x.a x.b) ++ vu (zz x.n) ++ vu (zz x.m) = vu (zz l.length) ++ ((l.take j).flatMap encB ++ [x].flatMap encB) := by
            simp [encB, List.append_assoc]
          rw [← e]; exact W6
        · rw [g6 b hb, g5 b hb, g4 b hb, get_lt (by omega)]; exact hf1 b hb
      · have hjl : j = l.length := by omega
        subst hjl
        rw [List.take_length] at W1
        simpa using fin (T.set (K 12) (some (.bool false)) tm1) h1 nx1 d (by simp [f3]) W1 hn1 hf1
  have hlen64 : l.length < 9223372036854775808 := by omega
  rcases id hc with ⟨e1, e2⟩ | e1
  · subst e2
    simp [branch_Encode_r2, e1, q1]
    refine (by simpa using wInt_ok S.wint S.wuint q3 W0 (n := 0) (by omega) (by omega) (by simp) : CallA C n_wire_Writer_Int [.ptr nx 0, I 0] _ _ (Wrote nx (vu (zz 0)) (T.set nx (some (.cells [.nils] .fix)) h) nx.succ nx)).mono ?_
    rintro o h2 nx2 ⟨rfl, d, W2, n2, g2, p2⟩
    simp
    simp [branch_Encode_r3, e1]
    refine loop _ h2 nx2 d ?_ ?_ ?_ ?_ W2 (by omega) (fun b hb => by rw [g2 b hb, get_lt hb])
    · simp
    · simp [e1]
    · simp
    · simp
  · simp [branch_Encode_r2, e1, q1]
    refine (wInt_ok S.wint S.wuint q3 W0 (n := l.length) (by omega) (by omega) (by simp)).mono ?_
    rintro o h2 nx2 ⟨rfl, d, W2, n2, g2, p2⟩
    simp
    simp [branch_Encode_r3, e1]
    refine loop _ h2 nx2 d ?_ ?_ ?_ ?_ (by simpa using W2) (by omega) (fun b hb => by rw [g2 b hb, get_lt hb])
    · simp
    · simp [e1]
    · simp
    · simp
end Tb
