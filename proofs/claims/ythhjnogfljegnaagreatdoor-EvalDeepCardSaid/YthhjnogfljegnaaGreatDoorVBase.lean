/-
 SV: looking up blocks made one behind the other. No condition.
-/
import Derived.Test.YthhjnogfljegnaaGreatDoorMLogic
set_option linter.unusedSimpArgs false
set_option linter.unusedVariables false
set_option linter.unusedSectionVars false
namespace Go.Sx
open Go
theorem ne_nat {a b : Key} (h : a.toNat ≠ b.toNat) : a ≠ b := fun e => h (by rw [e])
theorem gsn {a b : Key} (h : a.toNat ≠ b.toNat) (v : Option Blk) (t : T Blk) : T.get a (T.set b v t) = T.get a t := T.get_set_ne _ _ _ _ (ne_nat h)
variable (n : Key) (v : Option Blk) (t : T Blk)
@[simp] theorem gs_0_1 : T.get n (T.set n.succ v t) = T.get n t := gsn (by simp; try omega) v t
@[simp] theorem gs_0_2 : T.get n (T.set n.succ.succ v t) = T.get n t := gsn (by simp; try omega) v t
@[simp] theorem gs_0_3 : T.get n (T.set n.succ.succ.succ v t) = T.get n t := gsn (by simp; try omega) v t
@[simp] theorem gs_0_4 : T.get n (T.set n.succ.succ.succ.succ v t) = T.get n t := gsn (by simp; try omega) v t
@[simp] theorem gs_0_5 : T.get n (T.set n.succ.succ.succ.succ.succ v t) = T.get n t := gsn (by simp; try omega) v t
@[simp] theorem gs_0_6 : T.get n (T.set n.succ.succ.succ.succ.succ.succ v t) = T.get n t := gsn (by simp; try omega) v t
@[simp] theorem gs_0_7 : T.get n (T.set n.succ.succ.succ.succ.succ.succ.succ v t) = T.get n t := gsn (by simp; try omega) v t
@[simp] theorem gs_1_0 : T.get n.succ (T.set n v t) = T.get n.succ t := gsn (by simp; try omega) v t
@[simp] theorem gs_1_2 : T.get n.succ (T.set n.succ.succ v t) = T.get n.succ t := gsn (by simp; try omega) v t
@[simp] theorem gs_1_3 : T.get n.succ (T.set n.succ.succ.succ v t) = T.get n.succ t := gsn (by simp; try omega) v t
@[simp] theorem gs_1_4 : T.get n.succ (T.set n.succ.succ.succ.succ v t) = T.get n.succ t := gsn (by simp; try omega) v t
@[simp] theorem gs_1_5 : T.get n.succ (T.set n.succ.succ.succ.succ.succ v t) = T.get n.succ t := gsn (by simp; try omega) v t
@[simp] theorem gs_1_6 : T.get n.succ (T.set n.succ.succ.succ.succ.succ.succ v t) = T.get n.succ t := gsn (by simp; try omega) v t
@[simp] theorem gs_1_7 : T.get n.succ (T.set n.succ.succ.succ.succ.succ.succ.succ v t) = T.get n.succ t := gsn (by simp; try omega) v t
@[simp] theorem gs_2_0 : T.get n.succ.succ (T.set n v t) = T.get n.succ.succ t := gsn (by simp; try omega) v t
@[simp] theorem gs_2_1 : T.get n.succ.succ (T.set n.succ v t) = T.get n.succ.succ t := gsn (by simp; try omega) v t
@[simp] theorem gs_2_3 : T.get n.succ.succ (T.set n.succ.succ.succ v t) = T.get n.succ.succ t := gsn (by simp; try omega) v t
@[simp] theorem gs_2_4 : T.get n.succ.succ (T.set n.succ.succ.succ.succ v t) = T.get n.succ.succ t := gsn (by simp; try omega) v t
@[simp] theorem gs_2_5 : T.get n.succ.succ (T.set n.succ.succ.succ.succ.succ v t) = T.get n.succ.succ t := gsn (by simp; try omega) v t
@[simp] theorem gs_2_6 : T.get n.succ.succ (T.set n.succ.succ.succ.succ.succ.succ v t) = T.get n.succ.succ t := gsn (by simp; try omega) v t
@[simp] theorem gs_2_7 : T.get n.succ.succ (T.set n.succ.succ.succ.succ.succ.succ.succ v t) = T.get n.succ.succ t := gsn (by simp; try omega) v t
@[simp] theorem gs_3_0 : T.get n.succ.succ.succ (T.set n v t) = T.get n.succ.succ.succ t := gsn (by simp; try omega) v t
@[simp] theorem gs_3_1 : T.get n.succ.succ.succ (T.set n.succ v t) = T.get n.succ.succ.succ t := gsn (by simp; try omega) v t
@[simp] theorem gs_3_2 : T.get n.succ.succ.succ (T.set n.succ.succ v t) = T.get n.succ.succ.succ t := gsn (by simp; try omega) v t
@[simp] theorem gs_3_4 : T.get n.succ.succ.succ (T.set n.succ.succ.succ.succ v t) = T.get n.succ.succ.succ t := gsn (by simp; try omega) v t
@[simp] theorem gs_3_5 : T.get n.succ.succ.succ (T.set n.succ.succ.succ.succ.succ v t) = T.get n.succ.succ.succ t := gsn (by simp; try omega) v t
@[simp] theorem gs_3_6 : T.get n.succ.succ.succ (T.set n.succ.succ.succ.succ.succ.succ v t) = T.get n.succ.succ.succ t := gsn (by simp; try omega) v t
@[simp] theorem gs_3_7 : T.get n.succ.succ.succ (T.set n.succ.succ.succ.succ.succ.succ.succ v t) = T.get n.succ.succ.succ t := gsn (by simp; try omega) v t
@[simp] theorem gs_4_0 : T.get n.succ.succ.succ.succ (T.set n v t) = T.get n.succ.succ.succ.succ t := gsn (by simp; try omega) v t
@[simp] theorem gs_4_1 : T.get n.succ.succ.succ.succ (T.set n.succ v t) = T.get n.succ.succ.succ.succ t := gsn (by simp; try omega) v t
@[simp] theorem gs_4_2 : T.get n.succ.succ.succ.succ (T.set n.succ.succ v t) = T.get n.succ.succ.succ.succ t := gsn (by simp; try omega) v t
@[simp] theorem gs_4_3 : T.get n.succ.succ.succ.succ (T.set n.succ.succ.succ v t) = T.get n.succ.succ.succ.succ t := gsn (by simp; try omega) v t
@[simp] theorem gs_4_5 : T.get n.succ.succ.succ.succ (T.set n.succ.succ.succ.succ.succ v t) = T.get n.succ.succ.succ.succ t := gsn (by simp; try omega) v t
@[simp] theorem gs_4_6 : T.get n.succ.succ.succ.succ (T.set n.succ.succ.succ.succ.succ.succ v t) = T.get n.succ.succ.succ.succ t := gsn (by simp; try omega) v t
@[simp] theorem gs_4_7 : T.get n.succ.succ.succ.succ (T.set n.succ.succ.succ.succ.succ.succ.succ v t) = T.get n.succ.succ.succ.succ t := gsn (by simp; try omega) v t
@[simp] theorem gs_5_0 : T.get n.succ.succ.succ.succ.succ (T.set n v t) = T.get n.succ.succ.succ.succ.succ t := gsn (by simp; try omega) v t
@[simp] theorem gs_5_1 : T.get n.succ.succ.succ.succ.succ (T.set n.succ v t) = T.get n.succ.succ.succ.succ.succ t := gsn (by simp; try omega) v t
@[simp] theorem gs_5_2 : T.get n.succ.succ.succ.succ.succ (T.set n.succ.succ v t) = T.get n.succ.succ.succ.succ.succ t := gsn (by simp; try omega) v t
@[simp] theorem gs_5_3 : T.get n.succ.succ.succ.succ.succ (T.set n.succ.succ.succ v t) = T.get n.succ.succ.succ.succ.succ t := gsn (by simp; try omega) v t
@[simp] theorem gs_5_4 : T.get n.succ.succ.succ.succ.succ (T.set n.succ.succ.succ.succ v t) = T.get n.succ.succ.succ.succ.succ t := gsn (by simp; try omega) v t
@[simp] theorem gs_5_6 : T.get n.succ.succ.succ.succ.succ (T.set n.succ.succ.succ.succ.succ.succ v t) = T.get n.succ.succ.succ.succ.succ t := gsn (by simp; try omega) v t
@[simp] theorem gs_5_7 : T.get n.succ.succ.succ.succ.succ (T.set n.succ.succ.succ.succ.succ.succ.succ v t) = T.get n.succ.succ.succ.succ.succ t := gsn (by simp; try omega) v t
@[simp] theorem gs_6_0 : T.get n.succ.succ.succ.succ.succ.succ (T.set n v t) = T.get n.succ.succ.succ.succ.succ.succ t := gsn (by simp; try omega) v t
@[simp] theorem gs_6_1 : T.get n.succ.succ.succ.succ.succ.succ (T.set n.succ v t) = T.get n.succ.succ.succ.succ.succ.succ t := gsn (by simp; try omega) v t
@[simp] theorem gs_6_2 : T.get n.succ.succ.succ.succ.succ.succ (T.set n.succ.succ v t) = T.get n.succ.succ.succ.succ.succ.succ t := gsn (by simp; try omega) v t
@[simp] theorem gs_6_3 : T.get n.succ.succ.succ.succ.succ.succ (T.set n.succ.succ.succ v t) = T.get n.succ.succ.succ.succ.succ.succ t := gsn (by simp; try omega) v t
@[simp] theorem gs_6_4 : T.get n.succ.succ.succ.succ.succ.succ (T.set n.succ.succ.succ.succ v t) = T.get n.succ.succ.succ.succ.succ.succ t := gsn (by simp; try omega) v t
@[simp] theorem gs_6_5 : T.get n.succ.succ.succ.succ.succ.succ (T.set n.succ.succ.succ.succ.succ v t) = T.get n.succ.succ.succ.succ.succ.succ t := gsn (by simp; try omega) v t
@[simp] theorem gs_6_7 : T.get n.succ.succ.succ.succ.succ.succ (T.set n.succ.succ.succ.succ.succ.succ.succ v t) = T.get n.succ.succ.succ.succ.succ.succ t := gsn (by simp; try omega) v t
@[simp] theorem gs_7_0 : T.get n.succ.succ.succ.succ.succ.succ.succ (T.set n v t) = T.get n.succ.succ.succ.succ.succ.succ.succ t := gsn (by simp; try omega) v t
@[simp] theorem gs_7_1 : T.get n.succ.succ.succ.succ.succ.succ.succ (T.set n.succ v t) = T.get n.succ.succ.succ.succ.succ.succ.succ t := gsn (by simp; try omega) v t
@[simp] theorem gs_7_2 : T.get n.succ.succ.succ.succ.succ.succ.succ (T.set n.succ.succ v t) = T.get n.succ.succ.succ.succ.succ.succ.succ t := gsn (by simp; try omega) v t
@[simp] theorem gs_7_3 : T.get n.succ.succ.succ.succ.succ.succ.succ (T.set n.succ.succ.succ v t) = T.get n.succ.succ.succ.succ.succ.succ.succ t := gsn (by simp; try omega) v t
@[simp] theorem gs_7_4 : T.get n.succ.succ.succ.succ.succ.succ.succ (T.set n.succ.succ.succ.succ v t) = T.get n.succ.succ.succ.succ.succ.succ.succ t := gsn (by simp; try omega) v t
@[simp] theorem gs_7_5 : T.get n.succ.succ.succ.succ.succ.succ.succ (T.set n.succ.succ.succ.succ.succ v t) = T.get n.succ.succ.succ.succ.succ.succ.succ t := gsn (by simp; try omega) v t
@[simp] theorem gs_7_6 : T.get n.succ.succ.succ.succ.succ.succ.succ (T.set n.succ.succ.succ.succ.succ.succ v t) = T.get n.succ.succ.succ.succ.succ.succ.succ t := gsn (by simp; try omega) v t
@[simp] theorem natOf_two (k : IntKind) : natOf (.int k (.lit 2)) = some 2 := rfl
@[simp] theorem natOf_three (k : IntKind) : natOf (.int k (.lit 3)) = some 3 := rfl
theorem keyBeq_refl : ∀ (k : Key), Key.beq k k = true
 | .z => rfl
 | .o k => by rw [Key.beq]; exact keyBeq_refl k
 | .e k => by rw [Key.beq]; exact keyBeq_refl k
theorem sfBeq_refl (f : SF) : SF.beq f f = true := by cases f <;> simp [SF.beq, keyBeq_refl]
mutual
def AV.lits : AV → Bool
 | .int _ (.lit _) => true
 | .int _ _ => false
 | .fn _ a c => AV.litsL a && AV.litsL c
 | .iface _ v => AV.lits v
 | .agg l => AV.litsL l
 | .tuple l => AV.litsL l
 | .sl l _ _ _ => AV.litsL l
 | .cref l => AV.litsL l
 | _ => true
def AV.litsL : List AV → Bool
 | [] => true
 | v :: l => AV.lits v && AV.litsL l
end
mutual
theorem beq_refl : ∀ (v : AV), AV.lits v = true → AV.beq v v = true
 | .bool b, _ => by simp [AV.beq]
 | .int k (.lit n), _ => by cases k <;> simp [AV.beq, SI.beq]
 | .int k (.var n), h => by simp [AV.lits] at h
 | .int k (.bin o k' a b), h => by simp [AV.lits] at h
 | .str n c, _ => by simp [AV.beq]
 | .ptr b o, _ => by simp [AV.beq, keyBeq_refl]
 | .nilp, _ => by simp [AV.beq]
 | .slice b o l s, _ => by simp [AV.beq, keyBeq_refl]
 | .nils, _ => by simp [AV.beq]
 | .map b, _ => by simp [AV.beq, keyBeq_refl]
 | .nilm, _ => by simp [AV.beq]
 | .fn f a c, h => by simp [AV.lits] at h; simp [AV.beq, beqs_refl a h.1, beqs_refl c h.2]
 | .yld l, _ => by simp [AV.beq, keyBeq_refl]
 | .nilf, _ => by simp [AV.beq]
 | .iface t v, h => by simp [AV.lits] at h; simp [AV.beq, beq_refl v h]
 | .nili, _ => by simp [AV.beq]
 | .agg l, h => by simp [AV.lits] at h; simp [AV.beq, beqs_refl l h]
 | .tuple l, h => by simp [AV.lits] at h; simp [AV.beq, beqs_refl l h]
 | .sl l n z f, h => by simp [AV.lits] at h; simp [AV.beq, sfBeq_refl, beqs_refl l h]
 | .cref l, h => by simp [AV.lits] at h; simp [AV.beq, beqs_refl l h]
theorem beqs_refl : ∀ (l : List AV), AV.litsL l = true → AV.beqs l l = true
 | [], _ => by simp [AV.beqs]
 | v :: l, h => by simp [AV.litsL] at h; simp [AV.beqs, beq_refl v h.1, beqs_refl l h.2]
end
theorem litsL_of : ∀ {l : List AV}, (∀ x ∈ l, AV.lits x = true) → AV.litsL l = true
 | [], _ => by simp [AV.litsL]
 | v :: l, h => by simp [AV.litsL, h v (by simp), litsL_of (l := l) fun x hx => h x (by simp [hx])]
theorem litsL_mem : ∀ {l : List AV}, AV.litsL l = true → ∀ x ∈ l, AV.lits x = true
 | [], _, x, hx => by simp at hx
 | v :: l, h, x, hx => by
  simp [AV.litsL] at h
  rcases List.mem_cons.1 hx with rfl | hx
  ·exact h.1
  ·exact litsL_mem h.2 x hx
end Go.Sx
/-
 SV: values of the language as trees, and cells that stand for them. No condition.
-/
namespace Go.Sx
open Go
inductive V where
 | mk (k n : Int) (a b : Nat) (kids : List V)
def V.k : V → Int | .mk k _ _ _ _ => k
def V.n : V → Int | .mk _ n _ _ _ => n
def V.a : V → Nat | .mk _ _ a _ _ => a
def V.b : V → Nat | .mk _ _ _ b _ => b
def V.kids : V → List V | .mk _ _ _ _ l => l
@[simp] theorem mk_k (k n : Int) (a b : Nat) (l : List V) : (V.mk k n a b l).k = k := rfl
@[simp] theorem mk_n (k n : Int) (a b : Nat) (l : List V) : (V.mk k n a b l).n = n := rfl
@[simp] theorem mk_a (k n : Int) (a b : Nat) (l : List V) : (V.mk k n a b l).a = a := rfl
@[simp] theorem mk_b (k n : Int) (a b : Nat) (l : List V) : (V.mk k n a b l).b = b := rfl
@[simp] theorem mk_kids (k n : Int) (a b : Nat) (l : List V) : (V.mk k n a b l).kids = l := rfl
theorem V.eta (v : V) : V.mk v.k v.n v.a v.b v.kids = v := by cases v; rfl
mutual
def V.size : V → Nat
 | .mk _ _ _ _ l => 1 + V.sizes l
def V.sizes : List V → Nat
 | [] => 0
 | v :: l => V.size v + V.sizes l
end
inductive IsV : List AV → V → Prop
 | leaf (k n : Int) (a b : Nat) : IsV [I k, I n, .str a b, .nils] (.mk k n a b [])
 | node (k n : Int) (a b : Nat) (cs : List AV) (vs : List V) (hl : vs.length ≤ 4000) (hc : cs.length = vs.length * 4)
   (hk : ∀ (i : Nat) (h : i < vs.length), IsV ((cs.drop (i * 4)).take 4) vs[i]) : IsV [I k, I n, .str a b, .sl cs vs.length 4 .any] (.mk k n a b vs)
structure IsVs (cs : List AV) (vs : List V) : Prop where
 hc : cs.length = vs.length * 4
 hk : ∀ (i : Nat) (h : i < vs.length), IsV ((cs.drop (i * 4)).take 4) vs[i]
def IsK (c : AV) (vs : List V) : Prop := (c = .nils ∧ vs = []) ∨ ∃ cs, c = .sl cs vs.length 4 .any ∧ vs.length ≤ 4000 ∧ IsVs cs vs
theorem IsV.cells {l : List AV} {v : V} (h : IsV l v) : ∃ c, l = [I v.k, I v.n, .str v.a v.b, c] ∧ IsK c v.kids := by
 cases h with
 | leaf k n a b => exact ⟨_, rfl, .inl ⟨rfl, rfl⟩⟩
 | node k n a b cs vs hl hc hk => exact ⟨_, rfl, .inr ⟨cs, rfl, hl, hc, hk⟩⟩
theorem IsV.of {k n : Int} {a b : Nat} {c : AV} {vs : List V} (h : IsK c vs) : IsV [I k, I n, .str a b, c] (.mk k n a b vs) := by
 rcases h with ⟨rfl, rfl⟩ | ⟨cs, rfl, hl, h⟩
 ·exact .leaf k n a b
 ·exact .node k n a b cs vs hl h.hc h.hk
theorem IsV.ofV {v : V} {c : AV} (h : IsK c v.kids) : IsV [I v.k, I v.n, .str v.a v.b, c] v := by
 have := IsV.of (k := v.k) (n := v.n) (a := v.a) (b := v.b) h
 rwa [V.eta] at this
theorem IsV.lits {l : List AV} {v : V} (h : IsV l v) : AV.litsL l = true := by
 induction h with
 | leaf k n a b => simp [AV.litsL, AV.lits]
 | node k n a b cs vs hl hc hk ih =>
  simp [AV.litsL, AV.lits]
  refine litsL_of fun x hx => ?_
  obtain ⟨i, hi, rfl⟩ := List.getElem_of_mem hx
  have hi4 : i / 4 < vs.length := by omega
  refine litsL_mem (ih (i / 4) hi4) _ ?_
  have : ((cs.drop (i / 4 * 4)).take 4)[i % 4]? = some cs[i] := by
   rw [List.getElem?_take_of_lt (by omega), List.getElem?_drop, show i / 4 * 4 + i % 4 = i by omega]
   exact List.getElem?_eq_getElem hi
  exact List.mem_of_getElem? this
theorem IsK.beq {c : AV} {vs : List V} (h : IsK c vs) : AV.beq c c = true := by
 have := (IsV.of (k := 0) (n := 0) (a := 0) (b := 0) h).lits
 simp [AV.litsL, AV.lits] at this
 exact beq_refl c this
@[simp] theorem beq_I (n : Int) : AV.beq (I n) (I n) = true := beq_refl _ rfl
theorem IsVs.all {P : AV → Prop} {cs : List AV} {vs : List V} (h : IsVs cs vs) (hP : ∀ l v, IsV l v → ∀ x ∈ l, P x) : ∀ x ∈ cs, P x := by
 intro x hx
 obtain ⟨i, hi, rfl⟩ := List.getElem_of_mem hx
 have hc := h.hc
 have hi4 : i / 4 < vs.length := by omega
 refine hP _ _ (h.hk (i / 4) hi4) _ ?_
 have : ((cs.drop (i / 4 * 4)).take 4)[i % 4]? = some cs[i] := by
  rw [List.getElem?_take_of_lt (by omega), List.getElem?_drop, show i / 4 * 4 + i % 4 = i by omega]
  exact List.getElem?_eq_getElem hi
 exact List.mem_of_getElem? this
theorem IsVs.nil : IsVs [] [] := ⟨rfl, fun i h => absurd h (Nat.not_lt_zero i)⟩
theorem IsV.length {l : List AV} {v : V} (h : IsV l v) : l.length = 4 := by
 obtain ⟨c, rfl, _⟩ := h.cells; rfl
theorem IsVs.append {cs ds : List AV} {vs us : List V} (h1 : IsVs cs vs) (h2 : IsVs ds us) : IsVs (cs ++ ds) (vs ++ us) := by
 refine ⟨by simp [h1.hc, h2.hc, Nat.add_mul], fun i h => ?_⟩
 by_cases hi : i < vs.length
 ·rw [List.getElem_append_left hi]
  have e : ((cs ++ ds).drop (i * 4)).take 4 = (cs.drop (i * 4)).take 4 := by
   rw [List.drop_append_of_le_length (by rw [h1.hc]; omega), List.take_append_of_le_length (by rw [List.length_drop, h1.hc]; omega)]
  rw [e]
  exact h1.hk i hi
 ·rw [List.getElem_append_right (by omega)]
  have hlt : i - vs.length < us.length := by simp at h; omega
  have e : ((cs ++ ds).drop (i * 4)).take 4 = (ds.drop ((i - vs.length) * 4)).take 4 := by
   rw [List.drop_append, List.drop_eq_nil_of_le (by rw [h1.hc]; omega), List.nil_append]
   congr 2
   rw [h1.hc]; omega
  rw [e]
  exact h2.hk _ hlt
theorem IsVs.one {cs : List AV} {v : V} (h : IsV cs v) : IsVs cs [v] := by
 refine ⟨by simp [h.length], fun i hi => ?_⟩
 have : i = 0 := by simp at hi; omega
 subst this
 simpa [List.take_of_length_le, h.length] using h
theorem IsVs.drop {cs : List AV} {vs : List V} (h : IsVs cs vs) (n : Nat) : IsVs (cs.drop (n * 4)) (vs.drop n) := by
 refine ⟨by rw [List.length_drop, List.length_drop, h.hc]; omega, fun i hi => ?_⟩
 have hi2 : n + i < vs.length := by simp at hi; omega
 have := h.hk (n + i) hi2
 rw [List.drop_drop, List.getElem_drop, show n * 4 + i * 4 = (n + i) * 4 by omega]
 exact this
theorem IsVs.take {cs : List AV} {vs : List V} (h : IsVs cs vs) (n : Nat) : IsVs (cs.take (n * 4)) (vs.take n) := by
 refine ⟨by rw [List.length_take, List.length_take, h.hc]; omega, fun i hi => ?_⟩
 have hi2 : i < n ∧ i < vs.length := by simp at hi; omega
 have := h.hk i hi2.2
 rw [List.getElem_take, List.drop_take, List.take_take, Nat.min_eq_left (by omega)]
 exact this
theorem IsVs.cons {c : List AV} {cs : List AV} {v : V} {vs : List V} (h1 : IsV c v) (h2 : IsVs cs vs) : IsVs (c ++ cs) (v :: vs) := (IsVs.one h1).append h2
theorem IsVs.tail {c : List AV} {cs : List AV} {v : V} {vs : List V} (hl : c.length = 4) (h : IsVs (c ++ cs) (v :: vs)) : IsV c v ∧ IsVs cs vs := by
 have h1 := h.hk 0 (by simp)
 have h2 := h.drop 1
 simp [List.take_append_of_le_length, hl, List.drop_append_of_le_length] at h1 h2
 exact ⟨h1, h2⟩
theorem IsVs.at {cs : List AV} {vs : List V} (h : IsVs cs vs) {i : Nat} (hi : i < vs.length) : ∃ c, (cs.drop (i * 4)).take 4 = [I vs[i].k, I vs[i].n, .str vs[i].a vs[i].b, c] ∧ IsK c vs[i].kids := (h.hk i hi).cells
end Go.Sx
/-
 SV: expressions, and what they come to. No condition.
-/
namespace Go.Sx
open Go
abbrev S := Nat × Nat
inductive E where
 | mk (k : Int) (name : S) (n : Int) (names : List S) (binds : List (List S)) (kids : List E) (at_ : Int)
def E.k : E → Int | .mk k _ _ _ _ _ _ => k
def E.name : E → S | .mk _ s _ _ _ _ _ => s
def E.n : E → Int | .mk _ _ n _ _ _ _ => n
def E.names : E → List S | .mk _ _ _ l _ _ _ => l
def E.binds : E → List (List S) | .mk _ _ _ _ l _ _ => l
def E.kids : E → List E | .mk _ _ _ _ _ l _ => l
def E.at_ : E → Int | .mk _ _ _ _ _ _ a => a
structure Br where
 fn : S
 at_ : Int
 arm : Int
structure St where
 cf : Int
 cb : Int
 fl : Int
 calls : Int
 brs : List Br
structure Lim where
 fuel : Int
 room : Int
 seed : Int
 att : Int
inductive Res where
 | ok (v : V) (st : St)
 | stop (c : Int) (st : St)
inductive ResL where
 | ok (l : List V) (st : St)
 | stop (c : Int) (st : St)
abbrev Sc := List (S × V)
abbrev Rec := S → Sc → E → St → Res
def numV (n : Int) : V := .mk 0 n 0 0 []
def boolV (b : Bool) : V := .mk 1 (if b then 1 else 0) 0 0 []
def numR (n : Int) (st : St) : Res := .ok (numV n) st
def boolR (b : Bool) (st : St) : Res := .ok (boolV b) st
def cmpInt (a b : Int) : Int := if a < b then -1 else if b < a then 1 else 0
def cmpS (a b : S) : Int := if ltS a.1 a.2 b.1 b.2 then -1 else if ltS b.1 b.2 a.1 a.2 then 1 else 0
mutual
def V.cmp : V → V → Int
 | .mk k n a b l, .mk k' n' a' b' l' =>
  if cmpInt k k' ≠ 0 then cmpInt k k' else if cmpInt n n' ≠ 0 then cmpInt n n' else if cmpS (a, b) (a', b') ≠ 0 then cmpS (a, b) (a', b') else V.cmps l l'
def V.cmps : List V → List V → Int
 | [], [] => 0
 | [], _ :: _ => -1
 | _ :: _, [] => 1
 | v :: l, u :: m => if V.cmp v u ≠ 0 then V.cmp v u else V.cmps l m
end
section
variable (rec_ : Rec) (L : Lim)
def allF (fn : S) (s : Sc) : List E → St → ResL
 | [], st => .ok [] st
 | e :: l, st => match rec_ fn s e st with
  | .stop c st => .stop c st
  | .ok v st => match allF fn s l st with
   | .stop c st => .stop c st
   | .ok r st => .ok (v :: r) st
def joinR (k : Int) (name : S) : ResL → Res
 | .stop c st => .stop c st
 | .ok l st => .ok (.mk k 0 name.1 name.2 l) st
def truthF (fn : S) (s : Sc) (e : E) (st : St) (k : Bool → St → Res) : Res :=
 match rec_ fn s e st with
 | .stop c st => .stop c st
 | .ok v st => if v.k = 1 then k (v.n == 1) st else .stop 9 st
def lookS (name : S) : Sc → Option V
 | [] => none
 | x :: l => if x.1 = name then some x.2 else lookS name l
def arityF (name : S) : Option Nat :=
 if name = (4, 1702521203) then some 1 -- size
 else if name = (2, 29793) then some 2 -- at
 else if name = (4, 1752397168) then some 2 -- push
 else if name = (4, 1701536116) then some 2 -- take
 else if name = (4, 1886351972) then some 2 -- drop
 else if name = (3, 7628147) then some 3 -- set
 else if name = (3, 7889261) then some 2 -- max
 else if name = (3, 7235949) then some 2 -- min
 else if name = (4, 1885957222) then some 1 -- flip
 else none
def builtF (name : S) (l : List V) (st : St) : Res :=
 match l with
 | [x] => if name = (4, 1702521203) then (if x.k = 2 then numR x.kids.length st else .stop 9 st) else .stop 99 st
 | [x, y] =>
  if name = (2, 29793) then
   (if x.k ≠ 2 then .stop 9 st else if y.k ≠ 0 then .stop 9 st else match (if y.n < 0 then none else x.kids[y.n.toNat]?) with
    | none => .stop 13 st
    | some v => .ok v st)
  else if name = (4, 1752397168) then (if x.k = 2 then .ok (.mk 2 0 0 0 (x.kids ++ [y])) st else .stop 9 st)
  else if name = (4, 1701536116) then (if x.k ≠ 2 then .stop 9 st else if y.k ≠ 0 then .stop 9 st else .ok (.mk 2 0 0 0 (x.kids.take y.n.toNat)) st)
  else if name = (4, 1886351972) then (if x.k ≠ 2 then .stop 9 st else if y.k ≠ 0 then .stop 9 st else .ok (.mk 2 0 0 0 (x.kids.drop y.n.toNat)) st)
  else if name = (3, 7889261) then (if x.k ≠ 0 then .stop 9 st else if y.k ≠ 0 then .stop 9 st else numR (max x.n y.n) st)
  else if name = (3, 7235949) then (if x.k ≠ 0 then .stop 9 st else if y.k ≠ 0 then .stop 9 st else numR (min x.n y.n) st)
  else .stop 99 st
 | [x, y, z] => if name = (3, 7628147) then
   (if x.k ≠ 2 then .stop 9 st else if y.k ≠ 0 then .stop 9 st else match (if y.n < 0 then none else x.kids[y.n.toNat]?) with
    | none => .stop 13 st
    | some _ => .ok (.mk 2 0 0 0 (x.kids.set y.n.toNat z)) st) else .stop 99 st
 | _ => .stop 99 st
structure Fun where
 name : S
 params : List S
 body : E
structure Md where
 funs : List (S × Fun)
 ctors : List (S × Int)
variable (M : Md)
def findA {α : Type} (name : S) : List (S × α) → Option α
 | [] => none
 | x :: l => if name = x.1 then some x.2 else findA name l
def bindS : List S → List V → Sc → Sc
 | p :: ps, x :: xs, s => bindS ps xs ((p, x) :: s)
 | _, _, s => s
def callF (f : Fun) (l : List V) (st : St) : Res :=
 if 256 ≤ st.calls then .stop 15 st else
 match rec_ f.name (bindS f.params l []) f.body { st with calls := st.calls + 1 } with
 | .stop c st => .stop c st
 | .ok v st => .ok v { st with calls := st.calls - 1 }
def applyF (fn : S) (s : Sc) (e : E) (st : St) : Res :=
 match arityF e.name with
 | some n => if e.kids.length = n then (match allF rec_ fn s e.kids st with
  | .stop c st => .stop c st
  | .ok l st => builtF e.name l st) else .stop 9 st
 | none => match findA e.name M.funs with
  | none => .stop 6 st
  | some f => if e.kids.length = f.params.length then (match allF rec_ fn s e.kids st with
   | .stop c st => .stop c st
   | .ok l st => callF rec_ f l st) else .stop 9 st
def armF (name : S) : List S → Nat → Option Nat
 | [], _ => none
 | x :: l, i => if x = name then some i else armF name l (i + 1)
def matchF (fn : S) (s : Sc) (e : E) (st : St) : Res :=
 match e.kids with
 | [] => .stop 9 st
 | k0 :: ks => if e.names.length = ks.length ∧ e.binds.length = ks.length then
   match rec_ fn s k0 st with
   | .stop c st => .stop c st
   | .ok v st => if v.k ≠ 3 then .stop 9 st else match armF (v.a, v.b) e.names 0 with
    | none => .stop 14 st
    | some i => match e.binds[i]?, ks[i]? with
     | some b, some k => if b.length = v.kids.length then rec_ fn (bindS b v.kids s) k { st with brs := st.brs ++ [⟨fn, e.at_, i⟩] } else .stop 9 st
     | _, _ => .stop 9 st
  else .stop 9 st
def opF (fn : S) (s : Sc) (e : E) (st : St) : Res :=
 if e.name = (3, 7630702) then (match e.kids with -- not
  | [a] => truthF rec_ fn s a st fun t st => boolR (!t) st
  | _ => .stop 9 st)
 else if e.name = (3, 6581857) then (match e.kids with -- and
  | [a, b] => truthF rec_ fn s a st fun t st => if t then truthF rec_ fn s b st boolR else boolR false st
  | _ => .stop 9 st)
 else if e.name = (2, 29295) then (match e.kids with -- or
  | [a, b] => truthF rec_ fn s a st fun t st => if t then boolR true st else truthF rec_ fn s b st boolR
  | _ => .stop 9 st)
 else if e.name = (1, 43) ∨ e.name = (1, 45) ∨ e.name = (1, 42) ∨ e.name = (1, 60) ∨ e.name = (2, 15676) ∨ e.name = (2, 15677) ∨ e.name = (2, 15649) then (match e.kids with
  | [a, b] => match rec_ fn s a st with
   | .stop c st => .stop c st
   | .ok x st => match rec_ fn s b st with
    | .stop c st => .stop c st
    | .ok y st =>
     if e.name = (2, 15677) then boolR (x.cmp y == 0) st
     else if e.name = (2, 15649) then boolR (!(x.cmp y == 0)) st
     else if x.k = 0 ∧ y.k = 0 then
      (if e.name = (1, 43) then numR (wrapF .i64 (x.n + y.n)) st
      else if e.name = (1, 45) then numR (wrapF .i64 (x.n - y.n)) st
      else if e.name = (1, 42) then numR (wrapF .i64 (x.n * y.n)) st
      else if e.name = (1, 60) then boolR (decide (x.n < y.n)) st
      else boolR (!(decide (y.n < x.n))) st)
     else .stop 9 st
  | _ => .stop 9 st)
 else .stop 9 st
def valueF (fn : S) (s : Sc) (e : E) (st : St) : Res :=
 if e.k = 0 then numR e.n st
 else if e.k = 1 then (if e.n = 0 ∨ e.n = 1 then boolR (e.n == 1) st else .stop 9 st)
 else if e.k = 2 then (match lookS e.name s with
  | some x => .ok x st
  | none => .stop 6 st)
 else if e.k = 3 then applyF rec_ M fn s e st
 else if e.k = 4 then (match findA e.name M.ctors with
  | none => .stop 6 st
  | some n => if (e.kids.length : Int) = n then joinR 3 e.name (allF rec_ fn s e.kids st) else .stop 9 st)
 else if e.k = 5 then joinR 2 (0, 0) (allF rec_ fn s e.kids st)
 else if e.k = 6 then (match e.kids with
  | [a, b, c] => truthF rec_ fn s a st fun t st => rec_ fn s (if t then b else c) { st with brs := st.brs ++ [⟨fn, e.at_, if t then 0 else 1⟩] }
  | _ => .stop 9 st)
 else if e.k = 7 then (match e.kids with
  | [a, b] => match rec_ fn s a st with
   | .stop c st => .stop c st
   | .ok v st => rec_ fn ((e.name, v) :: s) b st
  | _ => .stop 9 st)
 else if e.k = 8 then matchF rec_ fn s e st
 else if e.k = 9 then opF rec_ fn s e st
 else .stop 9 st
def evalF (fn : S) (s : Sc) (e : E) (st : St) : Res :=
 if L.fuel ≤ st.cf then .stop 15 st else
 match valueF rec_ M fn s e { st with cf := st.cf + 1 } with
 | .stop c st => .stop c st
 | .ok v st => if L.room < v.size ∨ (v.k = 2 ∧ 256 < v.kids.length) then .stop 16 { st with cb := max st.cb v.size } else .ok v { st with cb := max st.cb v.size }
end
def ev (L : Lim) (M : Md) : Nat → Rec
 | 0 => fun _ _ _ st => .stop 98 st
 | n + 1 => evalF (ev L M n) L M
end Go.Sx
