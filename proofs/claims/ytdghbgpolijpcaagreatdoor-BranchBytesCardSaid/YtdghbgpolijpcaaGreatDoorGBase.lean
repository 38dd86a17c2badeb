/-
  SV: looking up blocks made one behind the other. No condition.
-/
import Derived.Test.YtdghbgpolijpcaaGreatDoorMLogic
set_option linter.unusedSimpArgs false
set_option linter.unusedVariables false
set_option linter.unusedSectionVars false
namespace Go.Sx
open Go
theorem ne_nat {a b : Key} (h : a.toNat ≠ b.toNat) : a ≠ b := fun e => h (by rw [e])
theorem gsn {a b : Key} (h : a.toNat ≠ b.toNat) (v : Option Blk) (t : T Blk) : T.get a (T.set b v t) = T.get a t := T.get_set_ne _ _ _ _ (ne_nat h)
variable (n : Key) (v : Option Blk) (t : T Blk)
@[simp] theorem gs_0_1 : T.get n (T.set n.succ v t) = T.get n t := gsn (by simp; try omega) v t
@[simp] theorem gs_0_2 : T.get n (T.set n.succ.succ v t) = T.get n t := gsn (by simp; try omega) v t
@[simp] theorem gs_0_3 : T.get n (T.set n.succ.succ.succ v t) = T.get n t := gsn (by simp; try omega) v t
@[simp] theorem gs_0_4 : T.get n (T.set n.succ.succ.succ.succ v t) = T.get n t := gsn (by simp; try omega) v t
@[simp] theorem gs_0_5 : T.get n (T.set n.succ.succ.succ.succ.succ v t) = T.get n t := gsn (by simp; try omega) v t
@[simp] theorem gs_0_6 : T.get n (T.set n.succ.succ.succ.succ.succ.succ v t) = T.get n t := gsn (by simp; try omega) v t
@[simp] theorem gs_0_7 : T.get n (T.set n.succ.succ.succ.succ.succ.succ.succ v t) = T.get n t := gsn (by simp; try omega) v t
@[simp] theorem gs_1_0 : T.get n.succ (T.set n v t) = T.get n.succ t := gsn (by simp; try omega) v t
@[simp] theorem gs_1_2 : T.get n.succ (T.set n.succ.succ v t) = T.get n.succ t := gsn (by simp; try omega) v t
@[simp] theorem gs_1_3 : T.get n.succ (T.set n.succ.succ.succ v t) = T.get n.succ t := gsn (by simp; try omega) v t
@[simp] theorem gs_1_4 : T.get n.succ (T.set n.succ.succ.succ.succ v t) = T.get n.succ t := gsn (by simp; try omega) v t
@[simp] theorem gs_1_5 : T.get n.succ (T.set n.succ.succ.succ.succ.succ v t) = T.get n.succ t := gsn (by simp; try omega) v t
@[simp] theorem gs_1_6 : T.get n.succ (T.set n.succ.succ.succ.succ.succ.succ v t) = T.get n.succ t := gsn (by simp; try omega) v t
@[simp] theorem gs_1_7 : T.get n.succ (T.set n.succ.succ.succ.succ.succ.succ.succ v t) = T.get n.succ t := gsn (by simp; try omega) v t
@[simp] theorem gs_2_0 : T.get n.succ.succ (T.set n v t) = T.get n.succ.succ t := gsn (by simp; try omega) v t
@[simp] theorem gs_2_1 : T.get n.succ.succ (T.set n.succ v t) = T.get n.succ.succ t := gsn (by simp; try omega) v t
@[simp] theorem gs_2_3 : T.get n.succ.succ (T.set n.succ.succ.succ v t) = T.get n.succ.succ t := gsn (by simp; try omega) v t
@[simp] theorem gs_2_4 : T.get n.succ.succ (T.set n.succ.succ.succ.succ v t) = T.get n.succ.succ t := gsn (by simp; try omega) v t
@[simp] theorem gs_2_5 : T.get n.succ.succ (T.set n.succ.succ.succ.succ.succ v t) = T.get n.succ.succ t := gsn (by simp; try omega) v t
@[simp] theorem gs_2_6 : T.get n.succ.succ (T.set n.succ.succ.succ.succ.succ.succ v t) = T.get n.succ.succ t := gsn (by simp; try omega) v t
@[simp] theorem gs_2_7 : T.get n.succ.succ (T.set n.succ.succ.succ.succ.succ.succ.succ v t) = T.get n.succ.succ t := gsn (by simp; try omega) v t
@[simp] theorem gs_3_0 : T.get n.succ.succ.succ (T.set n v t) = T.get n.succ.succ.succ t := gsn (by simp; try omega) v t
@[simp] theorem gs_3_1 : T.get n.succ.succ.succ (T.set n.succ v t) = T.get n.succ.succ.succ t := gsn (by simp; try omega) v t
@[simp] theorem gs_3_2 : T.get n.succ.succ.succ (T.set n.succ.succ v t) = T.get n.succ.succ.succ t := gsn (by simp; try omega) v t
@[simp] theorem gs_3_4 : T.get n.succ.succ.succ (T.set n.succ.succ.succ.succ v t) = T.get n.succ.succ.succ t := gsn (by simp; try omega) v t
@[simp] theorem gs_3_5 : T.get n.succ.succ.succ (T.set n.succ.succ.succ.succ.succ v t) = T.get n.succ.succ.succ t := gsn (by simp; try omega) v t
@[simp] theorem gs_3_6 : T.get n.succ.succ.succ (T.set n.succ.succ.succ.succ.succ.succ v t) = T.get n.succ.succ.succ t := gsn (by simp; try omega) v t
@[simp] theorem gs_3_7 : T.get n.succ.succ.succ (T.set n.succ.succ.succ.succ.succ.succ.succ v t) = T.get n.succ.succ.succ t := gsn (by simp; try omega) v t
@[simp] theorem gs_4_0 : T.get n.succ.succ.succ.succ (T.set n v t) = T.get n.succ.succ.succ.succ t := gsn (by simp; try omega) v t
@[simp] theorem gs_4_1 : T.get n.succ.succ.succ.succ (T.set n.succ v t) = T.get n.succ.succ.succ.succ t := gsn (by simp; try omega) v t
@[simp] theorem gs_4_2 : T.get n.succ.succ.succ.succ (T.set n.succ.succ v t) = T.get n.succ.succ.succ.succ t := gsn (by simp; try omega) v t
@[simp] theorem gs_4_3 : T.get n.succ.succ.succ.succ (T.set n.succ.succ.succ v t) = T.get n.succ.succ.succ.succ t := gsn (by simp; try omega) v t
@[simp] theorem gs_4_5 : T.get n.succ.succ.succ.succ (T.set n.succ.succ.succ.succ.succ v t) = T.get n.succ.succ.succ.succ t := gsn (by simp; try omega) v t
@[simp] theorem gs_4_6 : T.get n.succ.succ.succ.succ (T.set n.succ.succ.succ.succ.succ.succ v t) = T.get n.succ.succ.succ.succ t := gsn (by simp; try omega) v t
@[simp] theorem gs_4_7 : T.get n.succ.succ.succ.succ (T.set n.succ.succ.succ.succ.succ.succ.succ v t) = T.get n.succ.succ.succ.succ t := gsn (by simp; try omega) v t
@[simp] theorem gs_5_0 : T.get n.succ.succ.succ.succ.succ (T.set n v t) = T.get n.succ.succ.succ.succ.succ t := gsn (by simp; try omega) v t
@[simp] theorem gs_5_1 : T.get n.succ.succ.succ.succ.succ (T.set n.succ v t) = T.get n.succ.succ.succ.succ.succ t := gsn (by simp; try omega) v t
@[simp] theorem gs_5_2 : T.get n.succ.succ.succ.succ.succ (T.set n.succ.succ v t) = T.get n.succ.succ.succ.succ.succ t := gsn (by simp; try omega) v t
@[simp] theorem gs_5_3 : T.get n.succ.succ.succ.succ.succ (T.set n.succ.succ.succ v t) = T.get n.succ.succ.succ.succ.succ t := gsn (by simp; try omega) v t
@[simp] theorem gs_5_4 : T.get n.succ.succ.succ.succ.succ (T.set n.succ.succ.succ.succ v t) = T.get n.succ.succ.succ.succ.succ t := gsn (by simp; try omega) v t
@[simp] theorem gs_5_6 : T.get n.succ.succ.succ.succ.succ (T.set n.succ.succ.succ.succ.succ.succ v t) = T.get n.succ.succ.succ.succ.succ t := gsn (by simp; try omega) v t
@[simp] theorem gs_5_7 : T.get n.succ.succ.succ.succ.succ (T.set n.succ.succ.succ.succ.succ.succ.succ v t) = T.get n.succ.succ.succ.succ.succ t := gsn (by simp; try omega) v t
@[simp] theorem gs_6_0 : T.get n.succ.succ.succ.succ.succ.succ (T.set n v t) = T.get n.succ.succ.succ.succ.succ.succ t := gsn (by simp; try omega) v t
@[simp] theorem gs_6_1 : T.get n.succ.succ.succ.succ.succ.succ (T.set n.succ v t) = T.get n.succ.succ.succ.succ.succ.succ t := gsn (by simp; try omega) v t
@[simp] theorem gs_6_2 : T.get n.succ.succ.succ.succ.succ.succ (T.set n.succ.succ v t) = T.get n.succ.succ.succ.succ.succ.succ t := gsn (by simp; try omega) v t
@[simp] theorem gs_6_3 : T.get n.succ.succ.succ.succ.succ.succ (T.set n.succ.succ.succ v t) = T.get n.succ.succ.succ.succ.succ.succ t := gsn (by simp; try omega) v t
@[simp] theorem gs_6_4 : T.get n.succ.succ.succ.succ.succ.succ (T.set n.succ.succ.succ.succ v t) = T.get n.succ.succ.succ.succ.succ.succ t := gsn (by simp; try omega) v t
@[simp] theorem gs_6_5 : T.get n.succ.succ.succ.succ.succ.succ (T.set n.succ.succ.succ.succ.succ v t) = T.get n.succ.succ.succ.succ.succ.succ t := gsn (by simp; try omega) v t
@[simp] theorem gs_6_7 : T.get n.succ.succ.succ.succ.succ.succ (T.set n.succ.succ.succ.succ.succ.succ.succ v t) = T.get n.succ.succ.succ.succ.succ.succ t := gsn (by simp; try omega) v t
@[simp] theorem gs_7_0 : T.get n.succ.succ.succ.succ.succ.succ.succ (T.set n v t) = T.get n.succ.succ.succ.succ.succ.succ.succ t := gsn (by simp; try omega) v t
@[simp] theorem gs_7_1 : T.get n.succ.succ.succ.succ.succ.succ.succ (T.set n.succ v t) = T.get n.succ.succ.succ.succ.succ.succ.succ t := gsn (by simp; try omega) v t
@[simp] theorem gs_7_2 : T.get n.succ.succ.succ.succ.succ.succ.succ (T.set n.succ.succ v t) = T.get n.succ.succ.succ.succ.succ.succ.succ t := gsn (by simp; try omega) v t
@[simp] theorem gs_7_3 : T.get n.succ.succ.succ.succ.succ.succ.succ (T.set n.succ.succ.succ v t) = T.get n.succ.succ.succ.succ.succ.succ.succ t := gsn (by simp; try omega) v t
@[simp] theorem gs_7_4 : T.get n.succ.succ.succ.succ.succ.succ.succ (T.set n.succ.succ.succ.succ v t) = T.get n.succ.succ.succ.succ.succ.succ.succ t := gsn (by simp; try omega) v t
@[simp] theorem gs_7_5 : T.get n.succ.succ.succ.succ.succ.succ.succ (T.set n.succ.succ.succ.succ.succ v t) = T.get n.succ.succ.succ.succ.succ.succ.succ t := gsn (by simp; try omega) v t
@[simp] theorem gs_7_6 : T.get n.succ.succ.succ.succ.succ.succ.succ (T.set n.succ.succ.succ.succ.succ.succ v t) = T.get n.succ.succ.succ.succ.succ.succ.succ t := gsn (by simp; try omega) v t
@[simp] theorem natOf_two (k : IntKind) : natOf (.int k (.lit 2)) = some 2 := rfl
@[simp] theorem natOf_three (k : IntKind) : natOf (.int k (.lit 3)) = some 3 := rfl
theorem eqI_refl (n : Int) : eqI n n = true := by rw [eqI_eq]; simp
theorem beqBin_refl : ∀ (o : BinOp), beqBin o o = true ∨ beqBin o o = false := fun o => by cases beqBin o o <;> simp
theorem beqKind_refl (k : IntKind) : beqKind k k = true := by cases k <;> rfl
theorem keyBeq_refl : ∀ (k : Key), Key.beq k k = true
  | .z => rfl
  | .o k => by rw [Key.beq]; exact keyBeq_refl k
  | .e k => by rw [Key.beq]; exact keyBeq_refl k
theorem natBeq_refl (n : Nat) : Nat.beq n n = true := by simp
theorem sfBeq_refl (f : SF) : SF.beq f f = true := by cases f <;> simp [SF.beq, keyBeq_refl]
/- integers that are known -/
mutual
def AV.lits : AV → Bool
  | .int _ (.lit _) => true
  | .int _ _ => false
  | .fn _ a c => AV.litsL a && AV.litsL c
  | .iface _ v => AV.lits v
  | .agg l => AV.litsL l
  | .tuple l => AV.litsL l
  | .sl l _ _ _ => AV.litsL l
  | .cref l => AV.litsL l
  | _ => true
def AV.litsL : List AV → Bool
  | [] => true
  | v :: l => AV.lits v && AV.litsL l
end
mutual
theorem beq_refl : ∀ (v : AV), AV.lits v = true → AV.beq v v = true
  | .bool b, _ => by simp [AV.beq]
  | .int k (.lit n), _ => by cases k <;> simp [AV.beq, SI.beq]
  | .int k (.var n), h => by simp [AV.lits] at h
  | .int k (.bin o k' a b), h => by simp [AV.lits] at h
  | .str n c, _ => by simp [AV.beq]
  | .ptr b o, _ => by simp [AV.beq, keyBeq_refl]
  | .nilp, _ => by simp [AV.beq]
  | .slice b o l s, _ => by simp [AV.beq, keyBeq_refl]
  | .nils, _ => by simp [AV.beq]
  | .map b, _ => by simp [AV.beq, keyBeq_refl]
  | .nilm, _ => by simp [AV.beq]
  | .fn f a c, h => by simp [AV.lits] at h; simp [AV.beq, beqs_refl a h.1, beqs_refl c h.2]
  | .yld l, _ => by simp [AV.beq, keyBeq_refl]
  | .nilf, _ => by simp [AV.beq]
  | .iface t v, h => by simp [AV.lits] at h; simp [AV.beq, beq_refl v h]
  | .nili, _ => by simp [AV.beq]
  | .agg l, h => by simp [AV.lits] at h; simp [AV.beq, beqs_refl l h]
  | .tuple l, h => by simp [AV.lits] at h; simp [AV.beq, beqs_refl l h]
  | .sl l n z f, h => by simp [AV.lits] at h; simp [AV.beq, sfBeq_refl, beqs_refl l h]
  | .cref l, h => by simp [AV.lits] at h; simp [AV.beq, beqs_refl l h]
theorem beqs_refl : ∀ (l : List AV), AV.litsL l = true → AV.beqs l l = true
  | [], _ => by simp [AV.beqs]
  | v :: l, h => by simp [AV.litsL] at h; simp [AV.beqs, beq_refl v h.1, beqs_refl l h.2]
end
theorem litsL_of : ∀ {l : List AV}, (∀ x ∈ l, AV.lits x = true) → AV.litsL l = true
  | [], _ => by simp [AV.litsL]
  | v :: l, h => by simp [AV.litsL, h v (by simp), litsL_of (l := l) fun x hx => h x (by simp [hx])]
theorem litsL_mem : ∀ {l : List AV}, AV.litsL l = true → ∀ x ∈ l, AV.lits x = true
  | [], _, x, hx => by simp at hx
  | v :: l, h, x, hx => by
    simp [AV.litsL] at h
    rcases List.mem_cons.1 hx with rfl | hx
    · exact h.1
    · exact litsL_mem h.2 x hx
end Go.Sx
/-
  SG: what serves any program: functions of a machine, rows of flat cells, rows that grow. No condition.
-/
namespace Go.Sx
open Go

structure Fn (C : Cfg) (f : Nat) (p : PFn) : Prop where
  get : getFn C f = some p
  off : ∀ l h nx, C.sum f l h nx = none
  rawR : C.rawR f = false
theorem Fn.call {C : Cfg} {f : Nat} {p : PFn} (S : Fn C f p) {l : List AV} {h : T Blk} {nx : Key} {R : Out → T Blk → Key → Prop} (hw : wpC C p.body (BodyP p.res R) (paramsT l (K 0) .nil) h nx) : CallA C f l h nx R :=
  CallA.of (S.off _ _ _) S.get S.rawR hw
theorem Fn.callW {C : Cfg} {f : Nat} {p : PFn} (S : Fn C f p) {l : List AV} {h : T Blk} {nx : Key} {R : Out → T Blk → Key → Prop} (hw : W C p.body (BodyP p.res R) (paramsT l (K 0) .nil) h nx) : CallA C f l h nx R :=
  CallA.ofW (S.off _ _ _) S.get S.rawR hw

abbrev S := Nat × Nat
abbrev SA (s : S) : AV := .str s.1 s.2

/- values that stay as they are when they are made fast -/
def Stb (c : AV) : Prop := ∀ n h, frzA n c h = (c, h)
theorem stb_sl (l : List AV) (n z : Nat) : Stb (.sl l n z .any) := fun k h => by cases k <;> rfl
theorem stb_nils : Stb .nils := fun k h => by cases k <;> rfl
theorem stb_int (k : IntKind) (n : SI) : Stb (.int k n) := fun k h => by cases k <;> rfl
theorem stb_str (a b : Nat) : Stb (.str a b) := fun k h => by cases k <;> rfl
theorem stb_bool (b : Bool) : Stb (.bool b) := fun k h => by cases k <;> rfl
theorem stb_ptr (b : Key) (o : Nat) : Stb (.ptr b o) := fun k h => by cases k <;> rfl
theorem stb_cref (l : List AV) : Stb (.cref l) := fun k h => by cases k <;> rfl
theorem frzLA_stb {n : Nat} : ∀ {l : List AV} {h : T Blk}, (∀ x ∈ l, Stb x) → frzLA (frzA n) l h = (l, h)
  | [], _, _ => rfl
  | v :: l, h, hs => by
    have h1 := hs v (by simp) n h
    have h2 := frzLA_stb (n := n) (l := l) (h := h) fun x hx => hs x (by simp [hx])
    simp only [frzLA, h1, h2]
theorem frz_part {n : Nat} {b : Key} {len sz : Nat} {l : List AV} {H : T Blk} (hg : T.get b H = some (.cells l .part)) (hl : l.length = len * sz) (hs : ∀ x ∈ l, Stb x) : frzA (n + 1) (.slice b 0 len sz) H = (.sl l len sz .any, T.set b none H) := by
  simp only [frzA, frzSA, hg, List.drop_zero]
  rw [if_pos (by omega), List.take_of_length_le (by omega), frzLA_stb hs]
theorem frz_fix {n : Nat} {b : Key} {len sz : Nat} {l : List AV} {H : T Blk} (hg : T.get b H = some (.cells l .fix)) (hl : l.length = len * sz) (hs : ∀ x ∈ l, Stb x) : frzA (n + 1) (.slice b 0 len sz) H = (.sl l len sz .any, T.set b (some (.cells l .ro)) H) := by
  simp only [frzA, frzSA, hg, List.drop_zero]
  rw [if_pos (by omega), List.take_of_length_le (by omega), frzLA_stb hs]

/- a call that only makes memory of its own -/
def Pur (C : Cfg) (f : Nat) (l : List AV) (P : Out → Prop) : Prop := ∀ h nx, CallA C f l h nx (fun o h' nx' => P o ∧ Ext h nx h' nx')
theorem Pur.mono {C : Cfg} {f : Nat} {l : List AV} {P Q : Out → Prop} (hp : Pur C f l P) (hq : ∀ o, P o → Q o) : Pur C f l Q :=
  fun h nx => (hp h nx).mono fun o _ _ ⟨a, b⟩ => ⟨hq o a, b⟩
theorem E0 (h : T Blk) (nx : Key) (B : Blk) : Ext h nx (T.set nx (some B) h) nx.succ := by
  have s1 := Key.toNat_succ nx
  exact ⟨by omega, fun b hb => by rw [get_lt hb]⟩
theorem Ext.put {h h' : T Blk} {nx nx' k : Key} {B : Option Blk} (e : Ext h nx h' nx') (hk : nx.toNat ≤ k.toNat) : Ext h nx (T.set k B h') nx' :=
  ⟨e.n, fun b hb => by rw [get_lt (by omega)]; exact e.g b hb⟩
theorem Ext.up {h h' : T Blk} {nx nx' n2 : Key} (e : Ext h nx h' nx') (hn : nx'.toNat ≤ n2.toNat) : Ext h nx h' n2 := ⟨by have := e.n; omega, e.g⟩

/- ---------- rows ---------- -/
section
variable {α : Type}
def rowsA (enc : α → List AV) (l : List α) : List AV := l.flatMap enc
structure Flat (z : Nat) (enc : α → List AV) : Prop where
  len : ∀ x, (enc x).length = z
  stb : ∀ x, ∀ y ∈ enc x, Stb y
  cell : ∀ x, ∀ y ∈ enc x, AV.isCell y = true
  lits : ∀ x, AV.litsL (enc x) = true
variable {z : Nat} {enc : α → List AV}
@[simp] theorem rowsA_nil (enc : α → List AV) : rowsA enc [] = [] := rfl
theorem rowsA_cons (enc : α → List AV) (x : α) (l : List α) : rowsA enc (x :: l) = enc x ++ rowsA enc l := rfl
theorem rowsA_app (enc : α → List AV) (l m : List α) : rowsA enc (l ++ m) = rowsA enc l ++ rowsA enc m := by simp [rowsA]
theorem rowsA_one (enc : α → List AV) (x : α) : rowsA enc [x] = enc x := by simp [rowsA]
theorem Flat.rows (F : Flat z enc) : ∀ (l : List α), (rowsA enc l).length = l.length * z
  | [] => by simp
  | x :: l => by rw [rowsA_cons, List.length_append, F.len, F.rows l, List.length_cons, Nat.add_mul, Nat.one_mul, Nat.add_comm]
theorem Flat.drop (F : Flat z enc) : ∀ (l : List α) (i : Nat), (rowsA enc l).drop (i * z) = rowsA enc (l.drop i)
  | l, 0 => by simp
  | [], i + 1 => by simp
  | x :: l, i + 1 => by
    have hx : (enc x).length = z := F.len x
    have hz : z ≤ (i + 1) * z := Nat.le_mul_of_pos_left _ (Nat.succ_pos _)
    have he : (i + 1) * z - z = i * z := by rw [Nat.add_mul, Nat.one_mul]; omega
    rw [rowsA_cons, List.drop_append, List.drop_eq_nil_of_le (by omega), List.nil_append, hx, he, F.drop l i]
    simp
theorem Flat.take (F : Flat z enc) : ∀ (l : List α) (i : Nat), (rowsA enc l).take (i * z) = rowsA enc (l.take i)
  | l, 0 => by simp
  | [], i + 1 => by simp
  | x :: l, i + 1 => by
    have hx : (enc x).length = z := F.len x
    have hz : z ≤ (i + 1) * z := Nat.le_mul_of_pos_left _ (Nat.succ_pos _)
    have he : (i + 1) * z - z = i * z := by rw [Nat.add_mul, Nat.one_mul]; omega
    rw [rowsA_cons, List.take_append, List.take_of_length_le (by omega), hx, he, F.take l i]
    simp [rowsA_cons]
theorem Flat.at (F : Flat z enc) {l : List α} {i : Nat} (hi : i < l.length) : ((rowsA enc l).drop (i * z)).take z = enc l[i] := by
  rw [F.drop, List.drop_eq_getElem_cons hi, rowsA_cons, List.take_append_of_le_length (by rw [F.len]; exact Nat.le_refl _), List.take_of_length_le (by rw [F.len]; exact Nat.le_refl _)]
theorem Flat.stbs (F : Flat z enc) (l : List α) : ∀ y ∈ rowsA enc l, Stb y := by
  intro y hy
  obtain ⟨x, _, hx⟩ := List.mem_flatMap.1 hy
  exact F.stb x y hx
theorem Flat.cells (F : Flat z enc) (l : List α) : ∀ y ∈ rowsA enc l, AV.isCell y = true := by
  intro y hy
  obtain ⟨x, _, hx⟩ := List.mem_flatMap.1 hy
  exact F.cell x y hx
theorem Flat.allc (F : Flat z enc) (l : List α) : (rowsA enc l).all AV.isCell = true := List.all_eq_true.2 (F.cells l)
theorem Flat.litsR (F : Flat z enc) (l : List α) : AV.litsL (rowsA enc l) = true := by
  refine litsL_of fun y hy => ?_
  obtain ⟨x, _, hx⟩ := List.mem_flatMap.1 hy
  exact litsL_mem (F.lits x) y hx

/- a slice that is only read -/
def IsR (z : Nat) (enc : α → List AV) (c : AV) (l : List α) : Prop := (c = .nils ∧ l = []) ∨ c = .sl (rowsA enc l) l.length z .any
theorem IsR.stb {c : AV} {l : List α} (h : IsR z enc c l) : Stb c := by
  rcases h with ⟨rfl, _⟩ | rfl
  · exact stb_nils
  · exact stb_sl _ _ _
theorem IsR.cell {c : AV} {l : List α} (h : IsR z enc c l) : c.isCell = true ∧ c.cells = [c] := by
  rcases h with ⟨rfl, _⟩ | rfl <;> exact ⟨rfl, rfl⟩
end

/- ---------- rows that are appended to, all of whose memory is n0 or later ---------- -/
def OwnC (c : AV) (b : Key) : Prop := (∃ len sz, c = .slice b 0 len sz) ∨ ∃ l len sz, c = .sl l len sz (.tok b)
structure App (c : AV) (l : List AV) (len sz : Nat) (h : T Blk) (nx n0 : Key) : Prop where
  is : (c = .nils ∧ l = [] ∧ len = 0) ∨ (∃ b : Key, c = .slice b 0 len sz ∧ T.get b h = some (.cells l .part) ∧ n0.toNat ≤ b.toNat ∧ b.toNat < nx.toNat ∧ l.length = len * sz) ∨
    (∃ t : Key, c = .sl l len sz (.tok t) ∧ T.get t h = some .tok ∧ n0.toNat ≤ t.toNat ∧ t.toNat < nx.toNat)
section
variable {c : AV} {l new : List AV} {len sz m : Nat} {h h' : T Blk} {nx nx' n0 : Key}
theorem App.nil (sz : Nat) : App .nils [] 0 sz h nx n0 := ⟨.inl ⟨rfl, rfl, rfl⟩⟩
theorem App.addN (ha : App c l len sz h nx n0) (h0 : n0.toNat ≤ nx.toNat) (hn : new.length = m * sz) (hl : len + m ≤ 1048576) (hc : new.all AV.isCell = true) :
    ∃ c' h' nx', appendTo sz c new m h nx = .val c' h' nx' ∧ App c' (l ++ new) (len + m) sz h' nx' n0 ∧ nx.toNat ≤ nx'.toNat ∧ (∀ b : Key, b.toNat < n0.toNat → T.get b h' = T.get b h) ∧ ∀ b : Key, b.toNat < nx.toNat → (∀ B, T.get b h = some B → B ≠ .tok ∧ ∀ l, B ≠ .cells l .part) → T.get b h' = T.get b h := by
  have s1 := Key.toNat_succ nx
  by_cases hm : m = 0
  · subst hm
    have : new = [] := List.eq_nil_of_length_eq_zero (by omega)
    subst this
    rcases id ha.is with ⟨rfl, rfl, rfl⟩ | ⟨b, rfl, hb, hlo, hlt, hll⟩ | ⟨t, rfl, ht, hlo, hlt⟩
    · exact ⟨.nils, h, nx, by simp, by simpa using ha, Nat.le_refl _, fun _ _ => rfl, fun _ _ _ => rfl⟩
    · exact ⟨.slice b 0 len sz, h, nx, by have hl' : len ≤ 1048576 := hl; simp [hb, hl'], by simpa using ha, Nat.le_refl _, fun _ _ => rfl, fun _ _ _ => rfl⟩
    · exact ⟨.sl l len sz (.tok t), h, nx, by simp, by simpa using ha, Nat.le_refl _, fun _ _ => rfl, fun _ _ _ => rfl⟩
  · rcases id ha.is with ⟨rfl, rfl, rfl⟩ | ⟨b, rfl, hb, hlo, hlt, hll⟩ | ⟨t, rfl, ht, hlo, hlt⟩
    · have hm2 : m ≤ 1048576 := by omega
      exact ⟨.slice nx 0 (0 + m) sz, T.set nx (some (.cells new .part)) h, nx.succ, by simp [hm, hm2], ⟨.inr (.inl ⟨nx, rfl, by simp, by omega, by omega, by simpa using hn⟩)⟩, by omega, fun b hb => get_lt (by omega), fun b hb _ => get_lt hb⟩
    · refine ⟨.sl (l ++ new) (len + m) sz (.tok nx), T.set nx (some .tok) (T.set b none h), nx.succ, ?_, ⟨.inr (.inr ⟨nx, rfl, by simp, by omega, by omega⟩)⟩, by omega, fun x hx => ?_, fun x hx hk => ?_⟩
      · simp [hl, hc, hb, hll, hm]
      · rw [get_lt (by omega), get_lt (by omega)]
      · rw [get_lt hx, T.get_set_ne]
        rintro rfl
        exact (hk _ hb).2 l rfl
    · refine ⟨.sl (l ++ new) (len + m) sz (.tok nx), T.set nx (some .tok) (T.set t none h), nx.succ, ?_, ⟨.inr (.inr ⟨nx, rfl, by simp, by omega, by omega⟩)⟩, by omega, fun x hx => ?_, fun x hx hk => ?_⟩
      · simp [hl, hc, ht, hm]
      · rw [get_lt (by omega), get_lt (by omega)]
      · rw [get_lt hx, T.get_set_ne]
        rintro rfl
        exact (hk _ ht).1 rfl
theorem App.keep (ha : App c l len sz h nx n0) (hn : nx.toNat ≤ nx'.toNat) (hg : ∀ b : Key, b.toNat < nx.toNat → (T.get b h = some .tok ∨ ∃ l, T.get b h = some (.cells l .part)) → T.get b h' = T.get b h) : App c l len sz h' nx' n0 := by
  refine ⟨?_⟩
  rcases ha.is with ⟨rfl, rfl, rfl⟩ | ⟨b, rfl, hb, hlo, hlt, hll⟩ | ⟨t, rfl, ht, hlo, hlt⟩
  · exact .inl ⟨rfl, rfl, rfl⟩
  · exact .inr (.inl ⟨b, rfl, by rw [hg b hlt (.inr ⟨_, hb⟩)]; exact hb, hlo, by omega, hll⟩)
  · exact .inr (.inr ⟨t, rfl, by rw [hg t hlt (.inl ht)]; exact ht, hlo, by omega⟩)
theorem App.ext (ha : App c l len sz h nx n0) (e : Ext h nx h' nx') : App c l len sz h' nx' n0 := ha.keep e.n fun b hb _ => e.g b hb
theorem App.cell (ha : App c l len sz h nx n0) : c.isCell = true ∧ c.cells = [c] := by
  rcases ha.is with ⟨rfl, rfl, rfl⟩ | ⟨b, rfl, _⟩ | ⟨t, rfl, _⟩ <;> exact ⟨rfl, rfl⟩
/- what a store of such a row into another block leaves -/
theorem App.set {k : Key} {B : Option Blk} (ha : App c l len sz h nx n0) (hk : ∀ B, T.get k h = some B → B ≠ .tok ∧ ∀ l, B ≠ .cells l .part) : App c l len sz (T.set k B h) nx n0 :=
  ha.keep (Nat.le_refl _) fun b _ hx => T.get_set_ne _ _ _ _ fun e => by
    subst e
    rcases hx with hx | ⟨l, hx⟩
    · exact (hk _ hx).1 rfl
    · exact (hk _ hx).2 _ rfl
theorem App.lenO (ha : App c l len sz h nx n0) (orc : Orc) {tm : T AV} {k : Key} (hk : T.get k tm = some c) : lightOp orc (.lenL (.t k)) tm h = some (I len) := by
  rcases ha.is with ⟨rfl, rfl, rfl⟩ | ⟨b, rfl, _⟩ | ⟨t, rfl, _⟩ <;> simp [hk]
theorem App.fast (ha : App c l len sz h nx n0) (hs : ∀ y ∈ l, Stb y) (n : Nat) :
    ((frzA (n + 1) c h).1 = .nils ∧ l = [] ∧ len = 0 ∨ (frzA (n + 1) c h).1 = .sl l len sz .any) ∧ ∀ b : Key, b.toNat < n0.toNat → T.get b (frzA (n + 1) c h).2 = T.get b h := by
  rcases ha.is with ⟨rfl, rfl, rfl⟩ | ⟨b, rfl, hb, hlo, hlt, hll⟩ | ⟨t, rfl, ht, hlo, hlt⟩
  · exact ⟨.inl ⟨rfl, rfl, rfl⟩, fun _ _ => rfl⟩
  · rw [frz_part hb hll hs]
    exact ⟨.inr rfl, fun x hx => get_lt (by omega)⟩
  · exact ⟨.inr rfl, fun _ _ => rfl⟩
/- as a row of flat parts -/
theorem App.fastR {α : Type} {enc : α → List AV} (F : Flat sz enc) {us : List α} (ha : App c (rowsA enc us) us.length sz h nx n0) (n : Nat) :
    IsR sz enc (frzA (n + 1) c h).1 us ∧ ∀ b : Key, b.toNat < n0.toNat → T.get b (frzA (n + 1) c h).2 = T.get b h := by
  obtain ⟨h1, h2⟩ := ha.fast (F.stbs us) n
  refine ⟨?_, h2⟩
  rcases h1 with ⟨e, _, e3⟩ | e
  · exact .inl ⟨e, List.eq_nil_of_length_eq_zero e3⟩
  · exact .inr e
theorem App.add1 {α : Type} {enc : α → List AV} (F : Flat sz enc) {us : List α} (ha : App c (rowsA enc us) us.length sz h nx n0) (h0 : n0.toNat ≤ nx.toNat) (hl : us.length + 1 ≤ 1048576) (x : α) :
    ∃ c' h' nx', appendTo sz c (enc x) 1 h nx = .val c' h' nx' ∧ App c' (rowsA enc (us ++ [x])) (us ++ [x]).length sz h' nx' n0 ∧ nx.toNat ≤ nx'.toNat ∧ (∀ b : Key, b.toNat < n0.toNat → T.get b h' = T.get b h) ∧ ∀ b : Key, b.toNat < nx.toNat → (∀ B, T.get b h = some B → B ≠ .tok ∧ ∀ l, B ≠ .cells l .part) → T.get b h' = T.get b h := by
  obtain ⟨c', h', nx', a, b, c, d, e⟩ := ha.addN (new := enc x) (m := 1) h0 (by rw [F.len, Nat.one_mul]) hl (List.all_eq_true.2 (F.cell x))
  exact ⟨c', h', nx', a, by rw [rowsA_app, rowsA_one, List.length_append]; exact b, c, d, e⟩
end
end Go.Sx
