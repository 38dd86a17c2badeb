/-
  SX: the laws of the machine's tries and lists. No condition.
-/
import Derived.Test.YtdghbgpolijpcaaGreatDoorMCore
import Derived.Below
import Derived.Laws.Sem
import Derived.Laws.World
set_option linter.unusedSimpArgs false
set_option linter.unusedVariables false
set_option linter.unusedSectionVars false
namespace Go.Sx

theorem Key.toNat_inj : ∀ {a b : Key}, a.toNat = b.toNat → a = b
  | .z, .z, _ => rfl
  | .z, .o b, h => by simp [Key.toNat] at h
  | .z, .e b, h => by simp [Key.toNat] at h
  | .o a, .z, h => by simp [Key.toNat] at h
  | .e a, .z, h => by simp [Key.toNat] at h
  | .o a, .o b, h => by rw [Key.toNat_inj (a := a) (b := b) (by simp only [Key.toNat] at h; omega)]
  | .e a, .e b, h => by rw [Key.toNat_inj (a := a) (b := b) (by simp only [Key.toNat] at h; omega)]
  | .o a, .e b, h => by simp only [Key.toNat] at h; omega
  | .e a, .o b, h => by simp only [Key.toNat] at h; omega

theorem Key.toNat_succ : ∀ (k : Key), k.succ.toNat = k.toNat + 1
  | .z => rfl
  | .o k => by show (Key.e k).toNat = _; simp only [Key.toNat]
  | .e k => by show (Key.o k.succ).toNat = _; simp only [Key.toNat, Key.toNat_succ k]; omega

theorem Key.eq_of_beq : ∀ {a b : Key}, Key.beq a b = true → a = b
  | .z, .z, _ => rfl
  | .o a, .o b, h => by rw [Key.eq_of_beq (a := a) (b := b) h]
  | .e a, .e b, h => by rw [Key.eq_of_beq (a := a) (b := b) h]
  | .z, .o _, h => by cases h
  | .z, .e _, h => by cases h
  | .o _, .z, h => by cases h
  | .e _, .z, h => by cases h
  | .o _, .e _, h => by cases h
  | .e _, .o _, h => by cases h

theorem Key.beq_self : ∀ (a : Key), Key.beq a a = true
  | .z => rfl
  | .o a => Key.beq_self a
  | .e a => Key.beq_self a

noncomputable def T.set {α : Type} (k : Key) (x : Option α) (t : T α) : T α := T.setC k x t fun t => t

section
variable {α R : Type}
@[simp] theorem T.get_nil (k : Key) : T.get k (T.nil : T α) = none := by cases k <;> rfl
@[simp] theorem T.get_z (v : Option α) (l r : T α) : T.get .z (.node v l r) = v := rfl
@[simp] theorem T.get_o (k : Key) (v : Option α) (l r : T α) : T.get (.o k) (.node v l r) = T.get k l := rfl
@[simp] theorem T.get_e (k : Key) (v : Option α) (l r : T α) : T.get (.e k) (.node v l r) = T.get k r := rfl

theorem T.setC_eq (x : Option α) : ∀ {R : Type} (k : Key) (t : T α) (c : T α → R), T.setC k x t c = c (T.set k x t)
  | _, .z, .nil, c => rfl
  | _, .z, .node v l r, c => rfl
  | _, .o k, .nil, c => by
    show T.setC k x .nil (fun l => c (.node none l .nil)) = c (T.setC k x .nil fun l => .node none l .nil)
    rw [T.setC_eq x k .nil, T.setC_eq x k .nil (fun l => T.node none l .nil)]
  | _, .e k, .nil, c => by
    show T.setC k x .nil (fun r => c (.node none .nil r)) = c (T.setC k x .nil fun r => .node none .nil r)
    rw [T.setC_eq x k .nil, T.setC_eq x k .nil (fun r => T.node none .nil r)]
  | _, .o k, .node v l r, c => by
    show T.setC k x l (fun l => c (.node v l r)) = c (T.setC k x l fun l => .node v l r)
    rw [T.setC_eq x k l, T.setC_eq x k l (fun l => T.node v l r)]
  | _, .e k, .node v l r, c => by
    show T.setC k x r (fun r => c (.node v l r)) = c (T.setC k x r fun r => .node v l r)
    rw [T.setC_eq x k r, T.setC_eq x k r (fun r => T.node v l r)]

theorem T.set_o_nil (k : Key) (x : Option α) : T.set (.o k) x .nil = .node none (T.set k x .nil) .nil := T.setC_eq x k .nil _
theorem T.set_e_nil (k : Key) (x : Option α) : T.set (.e k) x .nil = .node none .nil (T.set k x .nil) := T.setC_eq x k .nil _
theorem T.set_o (k : Key) (x v : Option α) (l r : T α) : T.set (.o k) x (.node v l r) = .node v (T.set k x l) r := T.setC_eq x k l _
theorem T.set_e (k : Key) (x v : Option α) (l r : T α) : T.set (.e k) x (.node v l r) = .node v l (T.set k x r) := T.setC_eq x k r _

theorem T.get_set_same (x : Option α) : ∀ (k : Key) (t : T α), T.get k (T.set k x t) = x
  | .z, .nil => rfl
  | .z, .node v l r => rfl
  | .o k, .nil => by rw [T.set_o_nil]; exact T.get_set_same x k .nil
  | .e k, .nil => by rw [T.set_e_nil]; exact T.get_set_same x k .nil
  | .o k, .node v l r => by rw [T.set_o]; exact T.get_set_same x k l
  | .e k, .node v l r => by rw [T.set_e]; exact T.get_set_same x k r

theorem T.get_set_ne (x : Option α) : ∀ (k k' : Key) (t : T α), k' ≠ k → T.get k' (T.set k x t) = T.get k' t
  | .z, k', .nil, h => by
    cases k' with
    | z => exact absurd rfl h
    | o k' => show T.get k' T.nil = _; simp
    | e k' => show T.get k' T.nil = _; simp
  | .z, k', .node v l r, h => by
    cases k' with
    | z => exact absurd rfl h
    | o k' => rfl
    | e k' => rfl
  | .o k, k', .nil, h => by
    rw [T.set_o_nil]
    cases k' with
    | z => rfl
    | o k' => rw [T.get_o, T.get_set_ne x k k' .nil (fun e => h (by rw [e]))]; simp
    | e k' => simp
  | .e k, k', .nil, h => by
    rw [T.set_e_nil]
    cases k' with
    | z => rfl
    | o k' => simp
    | e k' => rw [T.get_e, T.get_set_ne x k k' .nil (fun e => h (by rw [e]))]; simp
  | .o k, k', .node v l r, h => by
    rw [T.set_o]
    cases k' with
    | z => rfl
    | o k' => rw [T.get_o, T.get_o]; exact T.get_set_ne x k k' l (fun e => h (by rw [e]))
    | e k' => rfl
  | .e k, k', .node v l r, h => by
    rw [T.set_e]
    cases k' with
    | z => rfl
    | o k' => rfl
    | e k' => rw [T.get_e, T.get_e]; exact T.get_set_ne x k k' r (fun e => h (by rw [e]))

theorem nth_eq : ∀ (n : Nat) (l : List α), nth n l = l[n]?
  | 0, [] => rfl
  | 0, x :: l => rfl
  | n + 1, [] => rfl
  | n + 1, x :: l => by show nth n l = _; rw [nth_eq n l]; simp

theorem dropL_eq : ∀ (n : Nat) (l : List α), dropL n l = l.drop n
  | 0, l => rfl
  | n + 1, [] => by simp; rfl
  | n + 1, x :: l => by show dropL n l = _; rw [dropL_eq n l]; simp

theorem takeC_eq : ∀ (n : Nat) (l : List α) (bad : R) (c : List α → R), takeC n l bad c = if n ≤ l.length then c (l.take n) else bad
  | 0, l, bad, c => by simp; rfl
  | n + 1, [], bad, c => by simp; rfl
  | n + 1, x :: l, bad, c => by
    show takeC n l bad (fun r => c (x :: r)) = _
    rw [takeC_eq n l]; simp

theorem overC_eq : ∀ (vs l : List α) (bad : R) (c : List α → R), overC vs l bad c = if vs.length ≤ l.length then c (vs ++ l.drop vs.length) else bad
  | [], l, bad, c => by simp; rfl
  | v :: vs, [], bad, c => by simp; rfl
  | v :: vs, x :: l, bad, c => by
    show overC vs l bad (fun r => c (v :: r)) = _
    rw [overC_eq vs l]; simp

theorem putC_eq (vs : List α) : ∀ (off : Nat) (l : List α) (bad : R) (c : List α → R),
    putC vs off l bad c = if off + vs.length ≤ l.length then c (l.take off ++ vs ++ l.drop (off + vs.length)) else bad
  | 0, l, bad, c => by
    show overC vs l bad c = _
    rw [overC_eq]; simp
  | off + 1, [], bad, c => by
    have : ¬ (off + 1 + vs.length ≤ ([] : List α).length) := by simp
    rw [if_neg this]; rfl
  | off + 1, x :: l, bad, c => by
    show putC vs off l bad (fun r => c (x :: r)) = _
    rw [putC_eq vs off l]
    have e : (off + 1 + vs.length ≤ (x :: l).length) ↔ (off + vs.length ≤ l.length) := by simp; omega
    by_cases h : off + vs.length ≤ l.length
    · rw [if_pos h, if_pos (e.2 h)]
      have : off + 1 + vs.length = (off + vs.length) + 1 := by omega
      rw [this]; simp
    · rw [if_neg h, if_neg (fun h' => h (e.1 h'))]

theorem appC_eq : ∀ (a b : List α) (c : List α → R), appC a b c = c (a ++ b)
  | [], b, c => rfl
  | x :: a, b, c => by
    show appC a b (fun r => c (x :: r)) = _
    rw [appC_eq a b]; simp

theorem lenL_eq : ∀ (l : List α), lenL l = l.length
  | [] => rfl
  | x :: l => by show Nat.succ (lenL l) = _; rw [lenL_eq l]; simp

theorem repL_eq (zs : List α) : ∀ (n : Nat) (acc : List α), repL n zs acc = (List.replicate n zs).flatten ++ acc
  | 0, acc => by simp; rfl
  | n + 1, acc => by
    show appC zs (repL n zs acc) (fun r => r) = _
    rw [appC_eq, repL_eq zs n acc]; simp [List.replicate_succ]
end

/- integers -/
theorem beqN_eq (a b : Nat) : Nat.beq a b = decide (a = b) := by
  by_cases h : a = b
  · subst h; simp
  · have : Nat.beq a b = false := by
      cases e : Nat.beq a b with
      | false => rfl
      | true => exact absurd (Nat.eq_of_beq_eq_true e) h
    rw [this]; simp [h]
theorem eqI_eq (a b : Int) : eqI a b = (a == b) := by
  cases a with
  | ofNat a => cases b with
    | ofNat b =>
      show Nat.beq a b = _
      rw [beqN_eq, Bool.eq_iff_iff]
      simp
      omega
    | negSucc b =>
      show false = _
      symm
      rw [beq_eq_false_iff_ne]
      intro h; cases h
  | negSucc a => cases b with
    | ofNat b =>
      show false = _
      symm
      rw [beq_eq_false_iff_ne]
      intro h; cases h
    | negSucc b =>
      show Nat.beq a b = _
      rw [beqN_eq, Bool.eq_iff_iff]
      simp
theorem bltN_eq (a b : Nat) : Nat.blt a b = decide (a < b) := by
  rw [Bool.eq_iff_iff, decide_eq_true_iff]
  unfold Nat.blt
  rw [Nat.ble_eq]
  omega
theorem ltI_eq (a b : Int) : ltI a b = decide (a < b) := by
  cases a with
  | ofNat a => cases b with
    | ofNat b =>
      show Nat.blt a b = _
      rw [bltN_eq, decide_eq_decide]
      show a < b ↔ (a : Int) < (b : Int)
      omega
    | negSucc b =>
      show false = _
      symm
      rw [decide_eq_false_iff_not]
      have := Int.negSucc_lt_zero b
      show ¬ ((a : Int) < _)
      omega
  | negSucc a => cases b with
    | ofNat b =>
      show true = _
      symm
      rw [decide_eq_true_iff]
      have := Int.negSucc_lt_zero a
      show _ < (b : Int)
      omega
    | negSucc b =>
      show Nat.blt b a = _
      rw [bltN_eq, decide_eq_decide, Int.negSucc_eq, Int.negSucc_eq]
      omega

theorem full_eq (k : IntKind) : full k = (2 ^ k.bits : Int) := by cases k <;> decide
theorem wrapF_eq (k : IntKind) (n : Int) : wrapF k n = k.wrap n := by
  have hm : Int.emod n (full k) = n % (2 ^ k.bits : Int) := by rw [full_eq]; rfl
  have h0 : 0 ≤ n % (2 ^ k.bits : Int) ∧ n % (2 ^ k.bits : Int) < (2 ^ k.bits : Int) :=
    ⟨Int.emod_nonneg _ (by cases k <;> decide), Int.emod_lt_of_pos _ (by cases k <;> decide)⟩
  unfold wrapF IntKind.wrap
  rw [hm, ltI_eq]
  generalize n % (2 ^ k.bits : Int) = m at h0
  by_cases h : m < half k
  · rw [decide_eq_true h]
    have : (k.signed && decide (m ≥ (2 ^ (k.bits - 1) : Int))) = false := by
      cases k <;> simp [half, IntKind.signed, IntKind.bits] at h h0 ⊢ <;> omega
    simp [this]
  · rw [decide_eq_false h]
    have : (k.signed && decide (m ≥ (2 ^ (k.bits - 1) : Int))) = true := by
      cases k <;> simp [half, IntKind.signed, IntKind.bits] at h h0 ⊢ <;> omega
    simp only [this, cond_false, if_true, full_eq]
    rfl

theorem beqKind_eq {a b : IntKind} (h : beqKind a b = true) : a = b := by
  cases a <;> cases b <;> first | rfl | cases h
theorem beqBin_eq {a b : BinOp} (h : beqBin a b = true) : a = b := by
  cases a <;> cases b <;> first | rfl | cases h
theorem SI.eq_of_beq : ∀ {a b : SI}, SI.beq a b = true → a = b
  | .lit a, .lit b, h => by simp only [SI.beq, eqI_eq, beq_iff_eq] at h; rw [h]
  | .var i, .var j, h => by rw [Nat.eq_of_beq_eq_true (n := i) (m := j) h]
  | .bin o k a b, .bin o' k' a' b', h => by
    simp only [SI.beq, Bool.and_eq_true] at h
    rw [beqBin_eq h.1.1.1, beqKind_eq h.1.1.2, SI.eq_of_beq h.1.2, SI.eq_of_beq h.2]
  | .lit _, .var _, h => by cases h
  | .lit _, .bin .., h => by cases h
  | .var _, .lit _, h => by cases h
  | .var _, .bin .., h => by cases h
  | .bin .., .lit _, h => by cases h
  | .bin .., .var _, h => by cases h

theorem SF.eq_of_beq : ∀ {a b : SF}, SF.beq a b = true → a = b
  | .any, .any, _ => rfl
  | .tok a, .tok b, h => by simp only [SF.beq] at h; rw [Key.eq_of_beq h]
  | .any, .tok _, h => by cases h
  | .tok _, .any, h => by cases h

mutual
theorem AV.eq_of_beq : ∀ (a b : AV), AV.beq a b = true → a = b := by
  intro a b h
  cases a with
  | bool b1 =>
    cases b with
    | bool b2 => simp only [AV.beq, beq_iff_eq] at h; rw [h]
    | _ => exact absurd h (by simp [AV.beq])
  | int k1 n1 =>
    cases b with
    | int k2 n2 => simp only [AV.beq, Bool.and_eq_true] at h; rw [beqKind_eq h.1, SI.eq_of_beq h.2]
    | _ => exact absurd h (by simp [AV.beq])
  | str n1 c1 =>
    cases b with
    | str n2 c2 => simp only [AV.beq, Bool.and_eq_true] at h; rw [Nat.eq_of_beq_eq_true h.1, Nat.eq_of_beq_eq_true h.2]
    | _ => exact absurd h (by simp [AV.beq])
  | ptr b1 o1 =>
    cases b with
    | ptr b2 o2 => simp only [AV.beq, Bool.and_eq_true] at h; rw [Key.eq_of_beq h.1, Nat.eq_of_beq_eq_true h.2]
    | _ => exact absurd h (by simp [AV.beq])
  | nilp  =>
    cases b with
    | nilp  => rfl
    | _ => exact absurd h (by simp [AV.beq])
  | slice b1 o1 l1 s1 =>
    cases b with
    | slice b2 o2 l2 s2 => simp only [AV.beq, Bool.and_eq_true] at h; rw [Key.eq_of_beq h.1.1.1, Nat.eq_of_beq_eq_true h.1.1.2, Nat.eq_of_beq_eq_true h.1.2, Nat.eq_of_beq_eq_true h.2]
    | _ => exact absurd h (by simp [AV.beq])
  | nils  =>
    cases b with
    | nils  => rfl
    | _ => exact absurd h (by simp [AV.beq])
  | map b1 =>
    cases b with
    | map b2 => simp only [AV.beq] at h; rw [Key.eq_of_beq h]
    | _ => exact absurd h (by simp [AV.beq])
  | nilm  =>
    cases b with
    | nilm  => rfl
    | _ => exact absurd h (by simp [AV.beq])
  | fn f1 a1 c1 =>
    cases b with
    | fn f2 a2 c2 => simp only [AV.beq, Bool.and_eq_true] at h; rw [Nat.eq_of_beq_eq_true h.1.1, AV.eqs_of_beqs _ _ h.1.2, AV.eqs_of_beqs _ _ h.2]
    | _ => exact absurd h (by simp [AV.beq])
  | yld l1 =>
    cases b with
    | yld l2 => simp only [AV.beq] at h; rw [Key.eq_of_beq h]
    | _ => exact absurd h (by simp [AV.beq])
  | nilf  =>
    cases b with
    | nilf  => rfl
    | _ => exact absurd h (by simp [AV.beq])
  | iface t1 v1 =>
    cases b with
    | iface t2 v2 => simp only [AV.beq, Bool.and_eq_true] at h; rw [Nat.eq_of_beq_eq_true h.1, AV.eq_of_beq _ _ h.2]
    | _ => exact absurd h (by simp [AV.beq])
  | nili  =>
    cases b with
    | nili  => rfl
    | _ => exact absurd h (by simp [AV.beq])
  | agg l1 =>
    cases b with
    | agg l2 => simp only [AV.beq] at h; rw [AV.eqs_of_beqs _ _ h]
    | _ => exact absurd h (by simp [AV.beq])
  | tuple l1 =>
    cases b with
    | tuple l2 => simp only [AV.beq] at h; rw [AV.eqs_of_beqs _ _ h]
    | _ => exact absurd h (by simp [AV.beq])
  | sl l1 n1 z1 f1 =>
    cases b with
    | sl l2 n2 z2 f2 => simp only [AV.beq, Bool.and_eq_true] at h; rw [AV.eqs_of_beqs _ _ h.1.1.1, Nat.eq_of_beq_eq_true h.1.1.2, Nat.eq_of_beq_eq_true h.1.2, SF.eq_of_beq h.2]
    | _ => exact absurd h (by simp [AV.beq])
  | cref l1 =>
    cases b with
    | cref l2 => simp only [AV.beq] at h; rw [AV.eqs_of_beqs _ _ h]
    | _ => exact absurd h (by simp [AV.beq])
theorem AV.eqs_of_beqs : ∀ (a b : List AV), AV.beqs a b = true → a = b
  | [], [], _ => rfl
  | x :: a, y :: b, h => by
    simp only [AV.beqs, Bool.and_eq_true] at h
    rw [AV.eq_of_beq x y h.1, AV.eqs_of_beqs a b h.2]
  | [], _ :: _, h => by cases h
  | _ :: _, [], h => by cases h
end

end Go.Sx
/-
  SX: what it means that the abstract machine's data stand for the model's. No condition.
-/
namespace Go.Sx
open Go.RowKit

/- where an abstract block lies: the model's block, the first cell, how many cells are its own -/
structure Loc where
  c : Nat
  base : Nat
  ext : Nat

/- where the blocks lie, and the cells that are not written any more -/
structure Mu where
  loc : Key → Option Loc
  fz : Nat → Nat → Option Value
instance : CoeFun Mu (fun _ => Key → Option Loc) := ⟨Mu.loc⟩
structure Mu.le (μ μ' : Mu) : Prop where
  l : ∀ b l, μ b = some l → μ' b = some l
  f : ∀ c i v, μ.fz c i = some v → μ'.fz c i = some v
theorem Mu.le_refl (μ : Mu) : μ.le μ := ⟨fun _ _ h => h, fun _ _ _ h => h⟩
theorem Mu.le_trans {a b c : Mu} (h : a.le b) (k : b.le c) : a.le c := ⟨fun x l e => k.l x l (h.l x l e), fun x i v e => k.f x i v (h.f x i v e)⟩

/- what a slice's mark says -/
def FlagOk (μ : Mu) (c o len cap sz : Nat) : SF → Prop
  | .any => True
  | .tok b => μ b = some ⟨c, o + len * sz, (cap - len) * sz⟩
theorem FlagOk.mono {μ μ' : Mu} (hm : μ.le μ') {c o len cap sz : Nat} {fl : SF} (h : FlagOk μ c o len cap sz fl) : FlagOk μ' c o len cap sz fl := by
  cases fl with
  | any => trivial
  | tok b => exact hm.l _ _ h

def SI.den (ρ : Nat → Int) : SI → Int
  | .lit n => n
  | .var i => ρ i
  | .bin .add k a b => k.wrap (a.den ρ + b.den ρ)
  | .bin .sub k a b => k.wrap (a.den ρ - b.den ρ)
  | .bin .mul k a b => k.wrap (a.den ρ * b.den ρ)
  | .bin _ _ _ _ => 0

mutual
inductive VRel (ρ : Nat → Int) (μ : Mu) : AV → Value → Prop
  | bool (b : Bool) : VRel ρ μ (.bool b) (.bool b)
  | int (k : IntKind) (s : SI) (n : Int) (h : s.den ρ = n) : VRel ρ μ (.int k s) (.int k n)
  | str (n c : Nat) (s : ByteArray) (h : s.data.toList.length = n) (h' : enc s.data.toList = c) : VRel ρ μ (.str n c) (.string s)
  | ptr (b : Key) (off : Nat) (l : Loc) (a : Addr) (h : μ b = some l) (ha : a = ⟨l.c, l.base + off, none⟩) : VRel ρ μ (.ptr b off) (.pointer (some a))
  | nilp : VRel ρ μ .nilp (.pointer none)
  | slice (b : Key) (off len sz cap : Nat) (l : Loc) (a : Addr) (h : μ b = some l) (hc : off + cap * sz = l.ext) (hl : len ≤ cap)
      (ha : cap = 0 ∨ a = ⟨l.c, l.base + off, none⟩) : VRel ρ μ (.slice b off len sz) (.slice (some a) len cap)
  | nils : VRel ρ μ .nils (.slice none 0 0)
  | map (b : Key) (l : Loc) (r : Nat) (h : μ b = some l) (hr : r = l.c) : VRel ρ μ (.map b) (.map (some r))
  | nilm : VRel ρ μ .nilm (.map none)
  | fn (f : Nat) (first cap : List AV) (vs ws : Array Value) (h : VRels ρ μ first vs.toList) (h' : VRels ρ μ cap ws.toList) : VRel ρ μ (.fn f first cap) (.func (.func f) vs ws)
  | yld (b : Key) (l : Loc) (r : Nat) (h : μ b = some l) (hr : r = l.c) : VRel ρ μ (.yld b) (.func (.yield r) #[] #[])
  | nilf : VRel ρ μ .nilf .nilFunc
  | iface (t : Nat) (a : AV) (v : Value) (h : VRel ρ μ a v) : VRel ρ μ (.iface t a) (.iface t v)
  | nili : VRel ρ μ .nili .nilIface
  | agg (l : List AV) (vs : Array Value) (h : VRels ρ μ l vs.toList) : VRel ρ μ (.agg l) (.agg vs)
  | tuple (l : List AV) (vs : Array Value) (h : VRels ρ μ l vs.toList) : VRel ρ μ (.tuple l) (.tuple vs)
  | sl (l : List AV) (len sz : Nat) (fl : SF) (cap c o : Nat) (a : Addr) (vs : List Value) (h : VRels ρ μ l vs) (hn : l.length = len * sz) (hl : len ≤ cap) (ha : cap = 0 ∨ a = ⟨c, o, none⟩)
      (hf : ∀ i v, vs[i]? = some v → μ.fz c (o + i) = some v) (hg : FlagOk μ c o len cap sz fl) : VRel ρ μ (.sl l len sz fl) (.slice (some a) len cap)
  | cref (l : List AV) (c o : Nat) (a : Addr) (vs : List Value) (h : VRels ρ μ l vs) (ha : a = ⟨c, o, none⟩) (hf : ∀ i v, vs[i]? = some v → μ.fz c (o + i) = some v) : VRel ρ μ (.cref l) (.pointer (some a))
inductive VRels (ρ : Nat → Int) (μ : Mu) : List AV → List Value → Prop
  | nil : VRels ρ μ [] []
  | cons (a : AV) (l : List AV) (v : Value) (vs : List Value) (h : VRel ρ μ a v) (h' : VRels ρ μ l vs) : VRels ρ μ (a :: l) (v :: vs)
end

mutual
theorem VRel.mono {ρ : Nat → Int} {μ μ' : Mu} (hm : μ.le μ') : ∀ {a : AV} {v : Value}, VRel ρ μ a v → VRel ρ μ' a v
  | _, _, .bool b => .bool b
  | _, _, .int k s n h => .int k s n h
  | _, _, .str n c s h h' => .str n c s h h'
  | _, _, .ptr b off l a h ha => .ptr b off l a (hm.l _ _ h) ha
  | _, _, .nilp => .nilp
  | _, _, .slice b off len sz cap l a h hc hl ha => .slice b off len sz cap l a (hm.l _ _ h) hc hl ha
  | _, _, .nils => .nils
  | _, _, .map b l r h hr => .map b l r (hm.l _ _ h) hr
  | _, _, .nilm => .nilm
  | _, _, .fn f first cap vs ws h h' => .fn f first cap vs ws (VRels.mono hm h) (VRels.mono hm h')
  | _, _, .yld b l r h hr => .yld b l r (hm.l _ _ h) hr
  | _, _, .nilf => .nilf
  | _, _, .iface t a v h => .iface t a v (VRel.mono hm h)
  | _, _, .nili => .nili
  | _, _, .agg l vs h => .agg l vs (VRels.mono hm h)
  | _, _, .tuple l vs h => .tuple l vs (VRels.mono hm h)
  | _, _, .sl l len sz fl cap c o a vs h hn hl ha hf hg => .sl l len sz fl cap c o a vs (VRels.mono hm h) hn hl ha (fun i v e => hm.f _ _ _ (hf i v e)) (hg.mono hm)
  | _, _, .cref l c o a vs h ha hf => .cref l c o a vs (VRels.mono hm h) ha (fun i v e => hm.f _ _ _ (hf i v e))
theorem VRels.mono {ρ : Nat → Int} {μ μ' : Mu} (hm : μ.le μ') : ∀ {l : List AV} {vs : List Value}, VRels ρ μ l vs → VRels ρ μ' l vs
  | _, _, .nil => .nil
  | _, _, .cons a l v vs h h' => .cons a l v vs (VRel.mono hm h) (VRels.mono hm h')
end

section
variable {ρ : Nat → Int} {μ : Mu}
theorem VRels.length {l : List AV} {vs : List Value} (h : VRels ρ μ l vs) : l.length = vs.length := by
  induction l generalizing vs with
  | nil => cases h; rfl
  | cons a l ih => cases h with | cons _ _ v vs h h' => simp [ih h']
theorem VRels.get {l : List AV} {vs : List Value} (h : VRels ρ μ l vs) : ∀ (i : Nat) (a : AV), l[i]? = some a → ∃ v, vs[i]? = some v ∧ VRel ρ μ a v := by
  induction l generalizing vs with
  | nil => intro i a h'; simp at h'
  | cons x l ih =>
    cases h with
    | cons _ _ v vs h h' =>
      intro i a hi
      cases i with
      | zero => simp at hi; subst hi; exact ⟨v, by simp, h⟩
      | succ i => simpa using ih h' i a (by simpa using hi)
theorem VRels.of_get : ∀ {l : List AV} {vs : List Value}, l.length = vs.length → (∀ (i : Nat) (a : AV), l[i]? = some a → ∃ v, vs[i]? = some v ∧ VRel ρ μ a v) → VRels ρ μ l vs
  | [], [], _, _ => .nil
  | [], _ :: _, h, _ => by simp at h
  | _ :: _, [], h, _ => by simp at h
  | a :: l, v :: vs, h, hg => by
    refine .cons a l v vs ?_ (VRels.of_get (by simpa using h) fun i b hb => ?_)
    · obtain ⟨v', hv, hr⟩ := hg 0 a (by simp)
      simp at hv; subst hv; exact hr
    · obtain ⟨v', hv, hr⟩ := hg (i + 1) b (by simpa using hb)
      exact ⟨v', by simpa using hv, hr⟩
theorem VRels.append {a b : List AV} {va vb : List Value} (h : VRels ρ μ a va) (h' : VRels ρ μ b vb) : VRels ρ μ (a ++ b) (va ++ vb) := by
  induction a generalizing va with
  | nil => cases h; exact h'
  | cons x a ih => cases h with | cons _ _ v vs h1 h2 => exact .cons _ _ _ _ h1 (ih h2)
theorem VRels.take {l : List AV} {vs : List Value} (h : VRels ρ μ l vs) (n : Nat) : VRels ρ μ (l.take n) (vs.take n) := by
  induction n generalizing l vs with
  | zero => simp; exact .nil
  | succ n ih => cases h with
    | nil => exact .nil
    | cons a l v vs h h' => exact .cons _ _ _ _ h (ih h')
theorem VRels.drop {l : List AV} {vs : List Value} (h : VRels ρ μ l vs) (n : Nat) : VRels ρ μ (l.drop n) (vs.drop n) := by
  induction n generalizing l vs with
  | zero => exact h
  | succ n ih => cases h with
    | nil => exact .nil
    | cons a l v vs h h' => exact ih h'
theorem VRels.one {a : AV} {v : Value} (h : VRel ρ μ a v) : VRels ρ μ [a] [v] := .cons _ _ _ _ h .nil
theorem VRels.replicate {zs : List AV} {vs : List Value} (h : VRels ρ μ zs vs) : ∀ (n : Nat), VRels ρ μ (List.replicate n zs).flatten (List.replicate n vs).flatten
  | 0 => .nil
  | n + 1 => by simp only [List.replicate_succ, List.flatten_cons]; exact h.append (VRels.replicate h n)
theorem VRel.cells {a : AV} {v : Value} (h : VRel ρ μ a v) : VRels ρ μ a.cells v.cells.toList := by
  cases h with
  | agg l vs h => exact h
  | _ => first | exact VRels.one (.bool _) | exact VRels.one (.int _ _ _ ‹_›) | exact VRels.one (.str _ _ _ ‹_› ‹_›) | exact VRels.one (.ptr _ _ _ _ ‹_› ‹_›) | exact VRels.one .nilp | exact VRels.one (.slice _ _ _ _ _ _ _ ‹_› ‹_› ‹_› ‹_›) | exact VRels.one .nils | exact VRels.one (.map _ _ _ ‹_› ‹_›) | exact VRels.one .nilm | exact VRels.one (.fn _ _ _ _ _ ‹_› ‹_›) | exact VRels.one (.yld _ _ _ ‹_› ‹_›) | exact VRels.one .nilf | exact VRels.one (.iface _ _ _ ‹_›) | exact VRels.one .nili | exact VRels.one (.tuple _ _ ‹_›) | exact VRels.one (.sl _ _ _ _ _ _ _ _ _ ‹_› ‹_› ‹_› ‹_› ‹_› ‹_›) | exact VRels.one (.cref _ _ _ _ _ ‹_› ‹_› ‹_›)
theorem VRel.not_agg {a : AV} {v : Value} (h : VRel ρ μ a v) (hc : a.isCell = true) : (∀ vs, v ≠ .agg vs) ∧ (∀ vs, v ≠ .tuple vs) := by
  cases h <;> simp_all [AV.isCell]
end

/- constants -/
mutual
theorem ofVal_rel {ρ : Nat → Int} {μ : Mu} : ∀ (n : Nat) (v : Value) (a : AV), ofVal n v = some a → VRel ρ μ a v := by
  intro n v a h
  cases n with
  | zero => simp [ofVal] at h
  | succ n =>
    cases v with
    | bool b => simp only [ofVal, Option.some.injEq] at h; subst h; exact .bool b
    | int k i => simp only [ofVal, Option.some.injEq] at h; subst h; exact .int k _ _ rfl
    | string s => simp only [ofVal, Option.some.injEq] at h; subst h; exact .str _ _ _ rfl rfl
    | pointer p => cases p with
      | none => simp only [ofVal, Option.some.injEq] at h; subst h; exact .nilp
      | some p => simp [ofVal] at h
    | slice p len cap =>
      unfold ofVal at h
      split at h <;> first | (simp only [Option.some.injEq] at h; subst h) | skip
      all_goals first | (simp at h; done) | skip
      all_goals simp_all
      all_goals first | exact .nils | skip
    | map r => cases r with
      | none => simp only [ofVal, Option.some.injEq] at h; subst h; exact .nilm
      | some p => simp [ofVal] at h
    | nilFunc => simp only [ofVal, Option.some.injEq] at h; subst h; exact .nilf
    | nilIface => simp only [ofVal, Option.some.injEq] at h; subst h; exact .nili
    | iface t v =>
      simp only [ofVal] at h
      split at h
      · rename_i b hb
        simp only [Option.some.injEq] at h; subst h
        exact .iface _ _ _ (ofVal_rel n v b hb)
      · simp at h
    | agg cs =>
      simp only [ofVal] at h
      split at h
      · rename_i b hb
        simp only [Option.some.injEq] at h; subst h
        exact .agg _ _ (ofVals_rel n cs.toList b hb)
      · simp at h
    | tuple cs =>
      simp only [ofVal] at h
      split at h
      · rename_i b hb
        simp only [Option.some.injEq] at h; subst h
        exact .tuple _ _ (ofVals_rel n cs.toList b hb)
      · simp at h
    | float k b => simp [ofVal] at h
    | complex k a b => simp [ofVal] at h
    | chan r => simp [ofVal] at h
    | func f a b => simp [ofVal] at h
theorem ofVals_rel {ρ : Nat → Int} {μ : Mu} : ∀ (n : Nat) (vs : List Value) (l : List AV), ofVals n vs = some l → VRels ρ μ l vs := by
  intro n vs l h
  cases vs with
  | nil => cases n <;> (simp only [ofVals, Option.some.injEq] at h; subst h; exact .nil)
  | cons v vs =>
    cases n with
    | zero => simp [ofVals] at h
    | succ n =>
      simp only [ofVals] at h
      split at h
      · rename_i a r ha hr
        simp only [Option.some.injEq] at h; subst h
        exact .cons _ _ _ _ (ofVal_rel n v a ha) (ofVals_rel n vs r hr)
      · simp at h
end

/- frames' slots -/
def TRel (ρ : Nat → Int) (μ : Mu) (nt : Nat) (tm : T AV) (tmps : Array Value) : Prop :=
  nt ≤ tmps.size ∧ ∀ k a, T.get k tm = some a → ∃ v, tmps[k.toNat]? = some v ∧ VRel ρ μ a v

def Pairs (ρ : Nat → Int) (μ : Mu) : List (AV × AV) → List MapEntry → Prop
  | [], [] => True
  | (k, a) :: l, e :: es => VRel ρ μ k e.key ∧ VRel ρ μ a e.val ∧ Pairs ρ μ l es
  | _, _ => False

/- entries with their stamps -/
def PairsS (ρ : Nat → Int) (μ : Mu) : List (Nat × AV × AV) → List MapEntry → Prop
  | [], [] => True
  | (s, k, a) :: l, e :: es => e.born = s ∧ VRel ρ μ k e.key ∧ VRel ρ μ a e.val ∧ PairsS ρ μ l es
  | _, _ => False

def LSRel : LS → LoopState → Prop
  | .ready, .ready | .busy, .busy | .done, .done | .exhausted, .exhausted => True
  | _, _ => False

/- code that has been made ready -/
def CRel (P : Program) (nt : Nat) (pc : PCode) (c : Code) : Prop := pCode P nt c = some pc
def CRelO (P : Program) (nt : Nat) : Option PCode → Option Code → Prop
  | none, none => True
  | some pc, some c => CRel P nt pc c
  | _, _ => False

def KeysRel (ks : List Key) (ts : List Nat) : Prop := ks.map Key.toNat = ts

structure FnRel (P : Program) (f : Nat) (nt : Nat) (res : List RV) : Prop where
  ex : ∃ fn, P.funcs[f]? = some fn ∧ fn.ntmps = nt ∧ pRes P fn.ntmps fn.results.toList = some res

inductive BRel (P : Program) (ρ : Nat → Int) (μ : Mu) : Blk → Loc → Obj → Prop
  | cells (L : List AV) (k : CK) (l : Loc) (arr : Array Value) (elem : TypeId) (fz : Nat × Nat)
      (hc : ∀ i a, L[i]? = some a → ∃ v, arr[l.base + i]? = some v ∧ VRel ρ μ a v)
      (hs : l.base + l.ext ≤ arr.size) (hl : L.length ≤ l.ext) (hf : k ≠ .ro → fz = (0, 0)) (he : k ≠ .part → L.length = l.ext) :
      BRel P ρ μ (.cells L k) l (.cells arr elem fz)
  | map (L : List (AV × AV)) (l : Loc) (es : Array MapEntry) (clock : Nat) (h : Pairs ρ μ L es.toList) (hb : ∀ (i : Nat) (e : MapEntry), es.toList[i]? = some e → e.born = i) (hc : clock = L.length) : BRel P ρ μ (.map L) l (.map es clock)
  | mapD (L : List (Nat × AV × AV)) (l : Loc) (es : Array MapEntry) (clock : Nat) (h : PairsS ρ μ L es.toList) : BRel P ρ μ (.mapD L clock) l (.map es clock)
  | iter (m : Key) (n : Nat) (seen : List Nat) (l lm : Loc) (sa : Array Nat) (h : μ m = some lm) (hs : sa.toList = seen) (hz : l.base = 0) : BRel P ρ μ (.iter m n seen) l (.mapIter (some lm.c) n sa n)
  | loop (st : LS) (pd : Option PCode) (fn nt : Nat) (tm : T AV) (res : List RV) (params : List Key) (as bd : PCode) (dfs : Key) (ld : Loc) (l : Loc) (L : Loop)
      (h1 : LSRel st L.state) (h2 : ∀ n, CRelO P n pd L.pending) (h3 : L.fn = fn) (h4 : TRel ρ μ nt tm L.tmps) (h5 : KeysRel params L.params.toList)
      (h5' : ∀ k ∈ params, k.toNat < nt) (h6 : CRel P nt as L.assign) (h7 : CRel P nt bd L.body) (h8 : μ dfs = some ld) (h9 : L.defers = ld.c) (h10 : FnRel P fn nt res) :
      BRel P ρ μ (.loop st pd fn tm res params as bd dfs) l (.loop L)
  | dfs (taken : Bool) (l : Loc) : BRel P ρ μ (.dfs taken) l (.deferred (if taken then none else some []))
  | tok (l : Loc) (arr : Array Value) (elem : TypeId) (hs : l.base + l.ext ≤ arr.size) : BRel P ρ μ .tok l (.cells arr elem (0, 0))

theorem TRel.mono {ρ : Nat → Int} {μ μ' : Mu} (hm : μ.le μ') {nt : Nat} {tm : T AV} {tmps : Array Value} (h : TRel ρ μ nt tm tmps) : TRel ρ μ' nt tm tmps :=
  ⟨h.1, fun k a ha => let ⟨v, hv, hr⟩ := h.2 k a ha; ⟨v, hv, hr.mono hm⟩⟩
theorem Pairs.mono {ρ : Nat → Int} {μ μ' : Mu} (hm : μ.le μ') : ∀ {l : List (AV × AV)} {es : List MapEntry}, Pairs ρ μ l es → Pairs ρ μ' l es
  | [], [], _ => trivial
  | (_, _) :: _, _ :: _, h => ⟨h.1.mono hm, h.2.1.mono hm, Pairs.mono hm h.2.2⟩
  | [], _ :: _, h => h.elim
  | (_, _) :: _, [], h => h.elim
theorem PairsS.mono {ρ : Nat → Int} {μ μ' : Mu} (hm : μ.le μ') : ∀ {l : List (Nat × AV × AV)} {es : List MapEntry}, PairsS ρ μ l es → PairsS ρ μ' l es
  | [], [], _ => trivial
  | (_, _, _) :: _, _ :: _, h => ⟨h.1, h.2.1.mono hm, h.2.2.1.mono hm, PairsS.mono hm h.2.2.2⟩
  | [], _ :: _, h => h.elim
  | (_, _, _) :: _, [], h => h.elim
theorem Pairs.length {ρ : Nat → Int} {μ : Mu} : ∀ {l : List (AV × AV)} {es : List MapEntry}, Pairs ρ μ l es → l.length = es.length
  | [], [], _ => rfl
  | (_, _) :: _, _ :: _, h => by simp [Pairs.length h.2.2]
  | [], _ :: _, h => h.elim
  | (_, _) :: _, [], h => h.elim
theorem Pairs.stamps {ρ : Nat → Int} {μ : Mu} : ∀ {l : List (AV × AV)} {es : List MapEntry} (n : Nat), Pairs ρ μ l es → (∀ (i : Nat) (e : MapEntry), es[i]? = some e → e.born = n + i) → PairsS ρ μ (stampL n l) es
  | [], [], _, _, _ => trivial
  | (_, _) :: _, e :: es, n, h, hb => ⟨by simpa using hb 0 e (by simp), h.1, h.2.1, Pairs.stamps (n + 1) h.2.2 fun i e' he => by have := hb (i + 1) e' (by simpa using he); omega⟩
  | [], _ :: _, _, h, _ => h.elim
  | (_, _) :: _, [], _, h, _ => h.elim
theorem BRel.mono {P : Program} {ρ : Nat → Int} {μ μ' : Mu} (hm : μ.le μ') {B : Blk} {l : Loc} {o : Obj} (h : BRel P ρ μ B l o) : BRel P ρ μ' B l o := by
  cases h with
  | cells L k l arr elem fz hc hs hl hf he =>
    exact .cells L k l arr elem fz (fun i a ha => let ⟨v, hv, hr⟩ := hc i a ha; ⟨v, hv, hr.mono hm⟩) hs hl hf he
  | map L l es clock h hb hc => exact .map L l es clock (h.mono hm) hb hc
  | mapD L l es clock h => exact .mapD L l es clock (h.mono hm)
  | iter m n seen l lm sa h hs hz => exact .iter m n seen l lm sa (hm.l _ _ h) hs hz
  | loop st pd fn nt tm res params as bd dfs ld l L h1 h2 h3 h4 h5 h5' h6 h7 h8 h9 h10 =>
    exact .loop st pd fn nt tm res params as bd dfs ld l L h1 h2 h3 (h4.mono hm) h5 h5' h6 h7 (hm.l _ _ h8) h9 h10
  | dfs taken l => exact .dfs taken l
  | tok l arr elem hs => exact .tok l arr elem hs

def Blk.ro : Blk → Prop
  | .cells _ .ro => True
  | _ => False
/- the first cell that may be written -/
def Blk.lo (l : Loc) : Blk → Option Nat
  | .cells _ .ro => none
  | .tok => some l.base
  | _ => some 0

/- the world at the start, and the cells that are not written from the start on -/
structure W0 extends World where
  z : Nat → Nat → Option Value

/- memory: G says which blocks there are (those of the machine's heap, and those that regions under way have made) -/
structure MRel (P : Program) (ρ : Nat → Int) (w0 : W0) (μ : Mu) (G : Key → Option Blk) (nx : Nat) (w : World) : Prop where
  blk : ∀ b B, G b = some B → ∃ l o, μ b = some l ∧ w.heap[l.c]? = some o ∧ BRel P ρ μ B l o
  sep : ∀ b b' B B' l l', G b = some B → G b' = some B' → μ b = some l → μ b' = some l' → b ≠ b' → l.c ≠ l'.c
  bnd : ∀ b l, μ b = some l → l.c < w.heap.size
  own : ∀ b B l, G b = some B → μ b = some l → B.ro ∨ w0.heap.size ≤ l.c
  glob : ∀ k : Key, k.toNat < P.globals.size → ∃ ext, μ k = some ⟨k.toNat, 0, ext⟩
  new : ∀ b l, μ b = some l → b.toNat < nx
  below : Below w0.heap.size w0.toWorld w
  fzw : ∀ c i v, μ.fz c i = some v → ∃ arr elem f, w.heap[c]? = some (.cells arr elem f) ∧ arr[i]? = some v
  fzf : ∀ b B l n, G b = some B → μ b = some l → B.lo l = some n → ∀ i, n ≤ i → μ.fz l.c i = none
  zle : ∀ c i v, w0.z c i = some v → μ.fz c i = some v
  fzo : ∀ c i v, μ.fz c i = some v → w0.heap.size ≤ c ∨ w0.z c i = some v
  rof : ∀ b L l, G b = some (.cells L .ro) → μ b = some l → w0.heap.size ≤ l.c ∨ ∀ arr e f i v, w.heap[l.c]? = some (.cells arr e f) → arr[i]? = some v → μ.fz l.c i = some v
  dr : w0.drawn ≤ w.drawn

/- the machine's heap is a part of G -/
def HSub (h : T Blk) (G : Key → Option Blk) : Prop := ∀ b B, T.get b h = some B → G b = some B

end Go.Sx
/-
  SX: how the relation of memories goes on over a new block, a store, a draw; rows of cells read and written. No condition.
-/
namespace Go.Sx
open Go.RowKit

/- the world after a step that touched at most block c -/
structure Touch (w w' : World) (c : Nat) : Prop where
  os : w'.os = w.os
  tape : w'.tape = w.tape
  output : w'.output = w.output
  size : w.heap.size ≤ w'.heap.size
  other : ∀ k, k ≠ c → k < w.heap.size → w'.heap[k]? = w.heap[k]?
  dr : w.drawn ≤ w'.drawn

theorem Touch.refl (w : World) (c : Nat) : Touch w w c := ⟨rfl, rfl, rfl, Nat.le_refl _, fun _ _ _ => rfl, Nat.le_refl _⟩
theorem Touch.trans {a b d : World} {c : Nat} (h : Touch a b c) (h' : Touch b d c) : Touch a d c :=
  ⟨h'.os.trans h.os, h'.tape.trans h.tape, h'.output.trans h.output, Nat.le_trans h.size h'.size,
    fun k hk hs => (h'.other k hk (Nat.lt_of_lt_of_le hs h.size)).trans (h.other k hk hs), Nat.le_trans h.dr h'.dr⟩
theorem Touch.below {a w w' : World} {B c : Nat} (h : Touch w w' c) (hb : Below B a w) (hB : B ≤ w.heap.size) (hc : B ≤ c) : Below B a w' :=
  hb.trans ⟨h.os, h.tape, h.output, h.size, fun k hk => h.other k (by omega) (by omega)⟩
theorem Touch.alloc (w : World) (o : Obj) : Touch w (w.alloc o) w.heap.size :=
  ⟨rfl, rfl, rfl, by simp, fun k _ hs => Below.heap_alloc w o k hs, Nat.le_refl _⟩
theorem Touch.drawn (w : World) (n c : Nat) (hn : w.drawn ≤ n) : Touch w { w with drawn := n } c := ⟨rfl, rfl, rfl, Nat.le_refl _, fun _ _ _ => rfl, hn⟩

def upd {α : Type} (f : Key → Option α) (k : Key) (x : Option α) : Key → Option α := fun b => if b.toNat = k.toNat then x else f b
theorem upd_same {α : Type} (f : Key → Option α) (k : Key) (x : Option α) : upd f k x k = x := by simp [upd]
theorem upd_ne {α : Type} (f : Key → Option α) {k b : Key} (x : Option α) (h : b ≠ k) : upd f k x b = f b := by
  have : b.toNat ≠ k.toNat := fun e => h (Key.toNat_inj e)
  simp [upd, this]

def Mu.put (μ : Mu) (k : Key) (l : Loc) : Mu := ⟨upd μ.loc k (some l), μ.fz⟩
theorem Mu.put_same (μ : Mu) (k : Key) (l : Loc) : (μ.put k l) k = some l := upd_same _ _ _
theorem Mu.put_ne (μ : Mu) {k b : Key} (l : Loc) (h : b ≠ k) : (μ.put k l) b = μ b := upd_ne _ _ h
theorem Mu.le_put {μ : Mu} {k : Key} {l : Loc} (hk : μ k = none ∨ μ k = some l) : μ.le (μ.put k l) := by
  refine ⟨fun b l' e => ?_, fun _ _ _ h => h⟩
  by_cases hb : b = k
  · subst hb
    rw [Mu.put_same]
    rcases hk with hk | hk
    · rw [hk] at e; cases e
    · rw [hk] at e; exact e
  · rw [Mu.put_ne _ _ hb]; exact e

section
variable {P : Program} {ρ : Nat → Int} {w0 : W0} {w w' : World} {μ : Mu} {G G' : Key → Option Blk} {nx : Nat}

theorem MRel.sub (h : MRel P ρ w0 μ G nx w) (hs : ∀ b B, G' b = some B → G b = some B) : MRel P ρ w0 μ G' nx w :=
  ⟨fun b B e => h.blk b B (hs b B e), fun b b' B B' l l' e e' => h.sep b b' B B' l l' (hs _ _ e) (hs _ _ e'), h.bnd, fun b B l e => h.own b B l (hs _ _ e), h.glob, h.new, h.below, h.fzw, fun b B l n e => h.fzf b B l n (hs _ _ e), h.zle, h.fzo, fun b L l e => h.rof b L l (hs _ _ e), h.dr⟩
theorem MRel.nx_le {nx' : Nat} (h : MRel P ρ w0 μ G nx w) (hn : nx ≤ nx') : MRel P ρ w0 μ G nx' w :=
  ⟨h.blk, h.sep, h.bnd, h.own, h.glob, fun b l e => Nat.lt_of_lt_of_le (h.new b l e) hn, h.below, h.fzw, h.fzf, h.zle, h.fzo, h.rof, h.dr⟩
theorem MRel.drawn (h : MRel P ρ w0 μ G nx w) (n : Nat) (hn : w.drawn ≤ n) : MRel P ρ w0 μ G nx { w with drawn := n } :=
  ⟨h.blk, h.sep, h.bnd, h.own, h.glob, h.new, h.below.trans ⟨rfl, rfl, rfl, Nat.le_refl _, fun _ _ => rfl⟩, h.fzw, h.fzf, h.zle, h.fzo, h.rof, Nat.le_trans h.dr hn⟩
/- whatever the number of draws -/
theorem MRel.drawn0 (h : MRel P ρ w0 μ G nx w) (n : Nat) : MRel P ρ { w0 with drawn := 0 } μ G nx { w with drawn := n } :=
  ⟨h.blk, h.sep, h.bnd, h.own, h.glob, h.new, ⟨h.below.os, h.below.tape, h.below.output, h.below.size, h.below.block⟩, h.fzw, h.fzf, h.zle, h.fzo, h.rof, Nat.zero_le _⟩
theorem MRel.fz_new (h : MRel P ρ w0 μ G nx w) (i : Nat) : μ.fz w.heap.size i = none := by
  cases e : μ.fz w.heap.size i with
  | none => rfl
  | some v =>
    obtain ⟨arr, elem, f, h1, _⟩ := h.fzw _ _ _ e
    simp at h1

/- the one law of change: key k stands for B at l, and only block l.c was touched -/
theorem MRel.put (h : MRel P ρ w0 μ G nx w) (k : Key) (B : Blk) (l : Loc) (o : Obj) {nx' : Nat}
    (hk : μ k = none ∨ μ k = some l) (hw : Touch w w' l.c) (ho : w'.heap[l.c]? = some o)
    (hB : BRel P ρ (μ.put k l) B l o) (hfree : ∀ b B' l', G b = some B' → μ b = some l' → b ≠ k → l'.c ≠ l.c)
    (hown : w0.heap.size ≤ l.c) (hn : nx ≤ nx') (hkn : k.toNat < nx') (hz : ∀ i, μ.fz l.c i = none) :
    μ.le (μ.put k l) ∧ MRel P ρ w0 (μ.put k l) (upd G k (some B)) nx' w' := by
  have hle : μ.le (μ.put k l) := Mu.le_put hk
  have hlc : l.c < w'.heap.size := by
    rcases Nat.lt_or_ge l.c w'.heap.size with h' | h'
    · exact h'
    · rw [Array.getElem?_eq_none h'] at ho; cases ho
  have hsz : w0.heap.size ≤ w.heap.size := h.below.size
  refine ⟨hle, ?_, ?_, ?_, ?_, ?_, ?_, hw.below h.below hsz hown, ?_, ?_, h.zle, h.fzo, ?_, Nat.le_trans h.dr hw.dr⟩
  · intro b B' e
    by_cases hb : b = k
    · subst hb
      rw [upd_same] at e
      cases e
      exact ⟨l, o, Mu.put_same _ _ _, ho, hB⟩
    · rw [upd_ne _ _ hb] at e
      obtain ⟨l', o', h1, h2, h3⟩ := h.blk b B' e
      refine ⟨l', o', by rw [Mu.put_ne _ _ hb]; exact h1, ?_, h3.mono hle⟩
      rw [hw.other l'.c (hfree b B' l' e h1 hb) (h.bnd b l' h1)]
      exact h2
  · intro b b' B1 B2 l1 l2 e1 e2 m1 m2 hne
    by_cases hb : b = k
    · subst hb
      rw [Mu.put_same] at m1; cases m1
      have hb' : b' ≠ b := fun e => hne e.symm
      rw [upd_ne _ _ hb'] at e2
      rw [Mu.put_ne _ _ hb'] at m2
      exact fun e => hfree b' B2 l2 e2 m2 hb' e.symm
    · rw [upd_ne _ _ hb] at e1
      rw [Mu.put_ne _ _ hb] at m1
      by_cases hb' : b' = k
      · subst hb'
        rw [Mu.put_same] at m2; cases m2
        exact hfree b B1 l1 e1 m1 hb
      · rw [upd_ne _ _ hb'] at e2
        rw [Mu.put_ne _ _ hb'] at m2
        exact h.sep b b' B1 B2 l1 l2 e1 e2 m1 m2 hne
  · intro b l' e
    by_cases hb : b = k
    · subst hb; rw [Mu.put_same] at e; cases e; exact hlc
    · rw [Mu.put_ne _ _ hb] at e; exact Nat.lt_of_lt_of_le (h.bnd b l' e) hw.size
  · intro b B' l' e m
    by_cases hb : b = k
    · subst hb; rw [Mu.put_same] at m; cases m; exact .inr hown
    · rw [upd_ne _ _ hb] at e; rw [Mu.put_ne _ _ hb] at m; exact h.own b B' l' e m
  · intro b hb
    obtain ⟨ext, he⟩ := h.glob b hb
    exact ⟨ext, hle.l _ _ he⟩
  · intro b l' e
    by_cases hb : b = k
    · subst hb; exact hkn
    · rw [Mu.put_ne _ _ hb] at e; exact Nat.lt_of_lt_of_le (h.new b l' e) hn
  · intro c i v e
    have e : μ.fz c i = some v := e
    obtain ⟨arr, elem, f, h1, h2⟩ := h.fzw c i v e
    have hc : c ≠ l.c := by intro hc; subst hc; rw [hz i] at e; cases e
    have hlt : c < w.heap.size := by
      rcases Nat.lt_or_ge c w.heap.size with h' | h'
      · exact h'
      · rw [Array.getElem?_eq_none h'] at h1; cases h1
    exact ⟨arr, elem, f, by rw [hw.other c hc hlt]; exact h1, h2⟩
  · intro b B' l' n e m hlo i hi
    show μ.fz l'.c i = none
    by_cases hb : b = k
    · subst hb; rw [Mu.put_same] at m; cases m; exact hz i
    · rw [upd_ne _ _ hb] at e; rw [Mu.put_ne _ _ hb] at m; exact h.fzf b B' l' n e m hlo i hi
  · intro b L l' e m
    by_cases hb : b = k
    · subst hb; rw [Mu.put_same] at m; cases m; exact .inl hown
    · rw [upd_ne _ _ hb] at e; rw [Mu.put_ne _ _ hb] at m
      rcases h.rof b L l' e m with h1 | h1
      · exact .inl h1
      · refine .inr fun arr ee f i v ha hv => h1 arr ee f i v ?_ hv
        rw [← hw.other l'.c (hfree b _ l' e m hb) (h.bnd b l' m)]; exact ha

/- a new block -/
theorem MRel.alloc (h : MRel P ρ w0 μ G nx w) (k : Key) (B : Blk) (o : Obj) (ext : Nat) {nx' : Nat} (hk : μ k = none)
    (hB : BRel P ρ (μ.put k ⟨w.heap.size, 0, ext⟩) B ⟨w.heap.size, 0, ext⟩ o) (hn : nx ≤ nx') (hkn : k.toNat < nx') :
    μ.le (μ.put k ⟨w.heap.size, 0, ext⟩) ∧ MRel P ρ w0 (μ.put k ⟨w.heap.size, 0, ext⟩) (upd G k (some B)) nx' (w.alloc o) :=
  h.put k B ⟨w.heap.size, 0, ext⟩ o (.inl hk) (Touch.alloc w o) (by show (w.heap.push o)[w.heap.size]? = some o; simp) hB
    (fun b B' l' _ m _ => Nat.ne_of_lt (h.bnd b l' m)) h.below.size hn hkn h.fz_new

theorem HSub.set {h : T Blk} (hs : HSub h G) (k : Key) (B : Option Blk) : HSub (T.set k B h) (upd G k B) := by
  intro b B' e
  by_cases hb : b = k
  · subst hb; rw [T.get_set_same] at e; rw [upd_same]; exact e
  · rw [T.get_set_ne _ _ _ _ hb] at e; rw [upd_ne _ _ hb]; exact hs b B' e

/- cells -/
theorem MRel.cells (h : MRel P ρ w0 μ G nx w) {b : Key} {L : List AV} {k : CK} (hb : G b = some (.cells L k)) :
    ∃ l arr elem fz, μ b = some l ∧ w.heap[l.c]? = some (.cells arr elem fz) ∧ (∀ i a, L[i]? = some a → ∃ v, arr[l.base + i]? = some v ∧ VRel ρ μ a v) ∧
      l.base + l.ext ≤ arr.size ∧ L.length ≤ l.ext ∧ (k ≠ .ro → fz = (0, 0)) ∧ (k ≠ .part → L.length = l.ext) := by
  obtain ⟨l, o, h1, h2, h3⟩ := h.blk b _ hb
  cases h3 with
  | cells L k l arr elem fz hc hs hl hf he => exact ⟨l, arr, elem, fz, h1, h2, hc, hs, hl, hf, he⟩
theorem MRel.lo0 (h : MRel P ρ w0 μ G nx w) {b : Key} {B : Blk} (hb : G b = some B) {l : Loc} (hl : μ b = some l) (hlo : B.lo l = some 0) (i : Nat) : μ.fz l.c i = none :=
  h.fzf b B l 0 hb hl hlo i (Nat.zero_le _)
end

theorem add_mk (c o n : Nat) : (⟨c, o, none⟩ : Addr).add n = ⟨c, o + n, none⟩ := by
  unfold Addr.add
  split
  · rename_i h; subst h; rfl
  · rfl

theorem cell_at {w : World} {c : Nat} {arr : Array Value} {elem : TypeId} {fz : Nat × Nat} (h : w.heap[c]? = some (.cells arr elem fz)) (o : Nat) :
    w.cell? ⟨c, o, none⟩ = arr[o]? := by
  simp [World.cell?, h]

theorem loadCellsFrom_run (P : Program) (w : World) (c o : Nat) (arr : Array Value) (elem : TypeId) (fz : Nat × Nat) (hc : w.heap[c]? = some (.cells arr elem fz)) :
    ∀ (n i : Nat) (acc : Array Value), o + i + n ≤ arr.size →
      (loadCellsFrom ⟨c, o, none⟩ i n acc).run P w = .ok (acc ++ ((arr.toList.drop (o + i)).take n).toArray) w
  | 0, i, acc, _ => by simp [loadCellsFrom]
  | n + 1, i, acc, h => by
    have hlt : o + i < arr.size := by omega
    have hcell : w.cell? ⟨c, o + i, none⟩ = some arr[o + i] := by rw [cell_at hc]; simp [hlt]
    simp only [loadCellsFrom, Sem.run_bind, run_load, add_mk, hcell, Result.andThen_ok]
    rw [loadCellsFrom_run P w c o arr elem fz hc n (i + 1) _ (by omega)]
    have hd : arr.toList.drop (o + i) = arr[o + i] :: arr.toList.drop (o + (i + 1)) := by
      rw [List.drop_eq_getElem_cons (by simpa using hlt)]
      simp [Nat.add_assoc]
    rw [hd]
    apply congrArg (fun x => Result.ok x w)
    apply Array.ext'
    simp

theorem loadCells_run (P : Program) (w : World) (c o : Nat) (arr : Array Value) (elem : TypeId) (fz : Nat × Nat) (hc : w.heap[c]? = some (.cells arr elem fz)) (n : Nat) (h : o + n ≤ arr.size) :
    (loadCells ⟨c, o, none⟩ n).run P w = .ok ((arr.toList.drop o).take n).toArray w := by
  have := loadCellsFrom_run P w c o arr elem fz hc n 0 #[] (by omega)
  simpa [loadCells] using this

/- storing a list of cells -/
def setRange (arr : Array Value) (o : Nat) : List Value → Array Value
  | [] => arr
  | v :: vs => setRange (arr.setIfInBounds o v) (o + 1) vs

theorem setRange_size : ∀ (vs : List Value) (arr : Array Value) (o : Nat), (setRange arr o vs).size = arr.size
  | [], _, _ => rfl
  | v :: vs, arr, o => by simp [setRange, setRange_size vs]
theorem setRange_get : ∀ (vs : List Value) (arr : Array Value) (o j : Nat), o + vs.length ≤ arr.size →
    (setRange arr o vs)[j]? = if o ≤ j ∧ j < o + vs.length then vs[j - o]? else arr[j]?
  | [], arr, o, j, _ => by
    have : ¬ (o ≤ j ∧ j < o + ([] : List Value).length) := by simp
    rw [if_neg this]; rfl
  | v :: vs, arr, o, j, h => by
    simp only [List.length_cons] at h
    rw [setRange, setRange_get vs _ (o + 1) j (by simp; omega)]
    simp only [List.length_cons]
    by_cases hj : o = j
    · subst hj
      rw [if_neg (by omega), if_pos (by omega)]
      have : o < arr.size := by omega
      simp [this]
    · by_cases h1 : o + 1 ≤ j ∧ j < o + 1 + vs.length
      · rw [if_pos h1, if_pos (by omega)]
        have : j - o = (j - (o + 1)) + 1 := by omega
        rw [this]; simp
      · rw [if_neg h1, if_neg (by omega), Array.getElem?_setIfInBounds_ne hj]

theorem storeCells_run (P : Program) (c o : Nat) (elem : TypeId) : ∀ (vs : List Value) (i : Nat) (w : World) (arr : Array Value),
    w.heap[c]? = some (.cells arr elem (0, 0)) → o + i + vs.length ≤ arr.size → (∀ v ∈ vs, v.oneCell' = true) →
    ∃ w', (storeCells ⟨c, o, none⟩ vs i).run P w = .ok () w' ∧ Touch w w' c ∧ w'.heap.size = w.heap.size ∧ w'.heap[c]? = some (.cells (setRange arr (o + i) vs) elem (0, 0))
  | [], i, w, arr, hc, _, _ => ⟨w, rfl, Touch.refl w c, rfl, hc⟩
  | v :: vs, i, w, arr, hc, hs, hv => by
    simp only [List.length_cons] at hs
    have hlt : o + i < arr.size := by omega
    have hcell : w.cell? ⟨c, o + i, none⟩ = some arr[o + i] := by rw [cell_at hc]; simp [hlt]
    have hfz : w.frozen? ⟨c, o + i, none⟩ = false := by simp [World.frozen?, hc]
    have hcs : c < w.heap.size := by
      rcases Nat.lt_or_ge c w.heap.size with h' | h'
      · exact h'
      · rw [Array.getElem?_eq_none h'] at hc; cases hc
    have hc' : (w.setCell ⟨c, o + i, none⟩ v).heap[c]? = some (.cells (arr.setIfInBounds (o + i) v) elem (0, 0)) := by
      simp [World.setCell, Array.getElem?_modify, hc]
    obtain ⟨w', h1, h2, h3, h4⟩ := storeCells_run P c o elem vs (i + 1) (w.setCell ⟨c, o + i, none⟩ v) _ hc' (by simp; omega) (fun u hu => hv u (by simp [hu]))
    refine ⟨w', ?_, ?_, ?_, ?_⟩
    · simp only [storeCells, Sem.run_bind, add_mk, run_store P w _ v _ (hv v (by simp)), hcell, hfz, Bool.false_eq_true, if_false, Result.andThen_ok]
      exact h1
    · have ht : Touch w (w.setCell ⟨c, o + i, none⟩ v) c := ⟨rfl, rfl, rfl, by simp, fun k hk _ => Below.heap_setCell w ⟨c, o + i, none⟩ v k hk, Nat.le_refl _⟩
      exact ht.trans h2
    · rw [h3]; simp
    · rw [h4, setRange, Nat.add_assoc]

end Go.Sx
