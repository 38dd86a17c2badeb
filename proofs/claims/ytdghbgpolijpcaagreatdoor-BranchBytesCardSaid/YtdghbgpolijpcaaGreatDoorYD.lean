/-
  SB: the program's Decode. No condition.
-/
import Derived.Test.YtdghbgpolijpcaaGreatDoorYC
set_option linter.unusedSimpArgs false
set_option linter.unusedVariables false
set_option linter.unusedSectionVars false
namespace Tb
open Go.Sx Go
def tN : Option ((Nat × Nat) × List Nat) → Nat × Nat
  | some (p, _) => p
  | none => (0, 0)
theorem tV_eq (o : Option ((Nat × Nat) × List Nat)) : tV o = .str (tN o).1 (tN o).2 := by
  cases o with
  | none => rfl
  | some p => rfl
def s1O (st : Option (List Nat)) : Option (List Nat) := (tO st).map (·.2)
def s2O (st : Option (List Nat)) : Option (List Nat) := (uO (s1O st)).map (·.2)
def s3O (st : Option (List Nat)) : Option (List Nat) := (uO (s2O st)).map (·.2)
def xO (st : Option (List Nat)) : Br := ⟨(tN (tO st)).1, (tN (tO st)).2, bk (uV (uO (s1O st))), bk (uV (uO (s2O st)))⟩
theorem s3O_none : s3O none = none := rfl
theorem rdT_tO (bs : List Nat) : rdT bs = tO (some bs) := by
  have e : uO (some bs) = rdU bs := rfl
  unfold rdT tO lO
  rw [e]
  cases rdU bs with
  | none => rfl
  | some p =>
    obtain ⟨n, r⟩ := p
    by_cases h : n ≤ r.length
    · simp only [if_pos h]
    · simp only [if_neg h]
theorem rdB_O (q : List Nat) : rdB q = (s3O (some q)).map fun r => (xO (some q), r) := by
  unfold rdB
  rw [rdT_tO]
  unfold s3O s2O xO
  cases h1 : tO (some q) with
  | none =>
    have : s1O (some q) = none := by unfold s1O; rw [h1]; rfl
    rw [this]; rfl
  | some p =>
    obtain ⟨⟨a, b⟩, r⟩ := p
    have e1 : s1O (some q) = some r := by unfold s1O; rw [h1]; rfl
    rw [e1]
    simp only
    have e2 : uO (some r) = rdU r := rfl
    rw [e2]
    cases h2 : rdU r with
    | none => simp [uO]
    | some p =>
      obtain ⟨n, r2⟩ := p
      simp only [Option.map_some]
      have e3 : uO (some r2) = rdU r2 := rfl
      unfold s2O
      rw [e1, e2, h2]
      simp only [Option.map_some, e3]
      cases h3 : rdU r2 with
      | none => simp
      | some p => obtain ⟨m, r3⟩ := p; simp [tN, uV]
theorem rdF_len : ∀ (bs : List Nat) (i a m : Nat) (r : List Nat), rdF i a bs = some (m, r) → r.length ≤ bs.length
  | [], i, a, m, r, h => by simp [rdF] at h
  | b :: bs, i, a, m, r, h => by
    rw [rdF] at h
    split at h
    · cases h
    · split at h
      · simp only [Option.some.injEq, Prod.mk.injEq] at h
        rw [← h.2]; simp
      · have := rdF_len bs _ _ m r h
        simp; omega
theorem LB.u {st : Option (List Nat)} (h : LB st) : LB ((uO st).map (·.2)) := by
  intro bs hb
  cases st with
  | none => cases hb
  | some q =>
    have hq := h q rfl
    cases hu : uO (some q) with
    | none => rw [hu] at hb; cases hb
    | some p =>
      obtain ⟨m, r⟩ := p
      rw [hu] at hb
      have hb2 : r = bs := by simpa using hb
      subst hb2
      have := rdF_len q 0 0 m r hu
      omega
theorem LB.t {st : Option (List Nat)} (h : LB st) : LB (s1O st) := by
  intro bs hb
  have hh := h.u
  unfold s1O tO lO at hb
  cases hu : uO st with
  | none => rw [hu] at hb; cases hb
  | some p =>
    obtain ⟨m, r⟩ := p
    rw [hu] at hb hh
    have hr := hh r rfl
    by_cases hm : m ≤ r.length
    · simp [hm] at hb
      rw [← hb, List.length_drop]; omega
    · simp [hm] at hb
theorem setB (us : List Br) (j : Nat) (hj : j < us.length) (x : Br) : List.take (j * 3) (rowsA eB us) ++ eB x ++ List.drop (j * 3 + 3) (rowsA eB us) = rowsA eB (us.set j x) := by
  have e : us.set j x = us.take j ++ x :: us.drop (j + 1) := List.set_eq_take_append_cons_drop.trans (by rw [if_pos hj])
  have e2 : j * 3 + 3 = (j + 1) * 3 := by omega
  rw [e, rowsA_app, rowsA_cons, flatB.take, e2, flatB.drop, List.append_assoc]
theorem yb {all : List Nat} {us : List Br} (h : rowsA eY all = rowsA eB us) (hu : us ≠ []) : False := by
  cases us with
  | nil => exact hu rfl
  | cons x us =>
    cases all with
    | nil => simp [rowsA_cons, eB] at h
    | cons y all => rw [rowsA_cons, rowsA_cons] at h; simp [eB, eY] at h
theorem RS.put {r lb : Key} {bs : List Nat} {e : Int} {h : T Blk} {nx n0 : Key} {us : List Br} {B : Option Blk} (R : RS r bs e h nx n0) (hg : T.get lb h = some (.cells (rowsA eB us) .fix)) (hu : us ≠ []) (hne : lb ≠ r) : RS r bs e (T.set lb B h) nx n0 := by
  obtain ⟨r1, r2, b, off, all, k, a1, a2, a3, a4, a5, a6, a7, a8⟩ := R
  have hb : b ≠ lb := by
    rintro rfl
    rw [hg] at a2
    simp only [Option.some.injEq, Blk.cells.injEq] at a2
    exact yb a2.1.symm hu
  exact ⟨r1, r2, b, off, all, k, by rw [T.get_set_ne _ _ _ _ (Ne.symm hne)]; exact a1, by rw [T.get_set_ne _ _ _ _ hb]; exact a2, a3, a4, a5, a6, a7, a8⟩
theorem RO.put {r lb : Key} {st : Option (List Nat)} {h : T Blk} {nx n0 : Key} {us : List Br} {B : Option Blk} (R : RO r st h nx n0) (hg : T.get lb h = some (.cells (rowsA eB us) .fix)) (hu : us ≠ []) (hne : lb ≠ r) : RO r st (T.set lb B h) nx n0 := by
  cases st with
  | none => obtain ⟨bs, e, he, R⟩ := R; exact ⟨bs, e, he, R.put hg hu hne⟩
  | some bs => exact ⟨R.1.put hg hu hne, R.2⟩
variable {C : Cfg}
def DecInv (r lb : Key) (n : Nat) (X : Option (List Br × List Nat)) (h : T Blk) (nx n0 : Key) (k : Nat) (tm' : T AV) (h' : T Blk) (nx' : Key) : Prop :=
  ∃ (j : Nat) (us : List Br) (st : Option (List Nat)), k = n - j ∧ j ≤ n ∧ T.get (K 4) tm' = some (.ptr r 0) ∧ T.get (K 6) tm' = some (.slice lb 0 n 3) ∧ T.get (K 23) tm' = some (I n) ∧ T.get (K 24) tm' = some (I j) ∧
    us.length = n ∧ T.get lb h' = some (.cells (rowsA eB us) .fix) ∧ RO r st h' nx' n0 ∧ LB st ∧ lb ≠ r ∧ lb.toNat < nx'.toNat ∧ n0.toNat ≤ lb.toNat ∧
    (match st with | some q => X = (rdN (n - j) q).map (fun p => (us.take j ++ p.1, p.2)) | none => X = none) ∧ nx.toNat ≤ nx'.toNat ∧ ∀ b : Key, b.toNat < n0.toNat → T.get b h' = T.get b h
variable (S : StdX C)
include S
theorem dec_step {r lb : Key} {n : Nat} {X : Option (List Br × List Nat)} {h : T Blk} {nx n0 : Key} (hn : n ≤ 65536) {k : Nat} {tm1 : T AV} {h1 : T Blk} {nx1 : Key} (hI : DecInv r lb n X h nx n0 k tm1 h1 nx1) {j : Nat} (hk : T.get (K 24) tm1 = some (I j)) (hj : j < n) {Q : Post}
    (hQ : ∀ tm' h' nx', (∃ m, m < k ∧ DecInv r lb n X h nx n0 m tm' h' nx') → Q .norm tm' h' nx') : wpC C ((PCode.block 1 ((PCode.ops branch_Decode_r8).seq (.ops branch_Decode_r9))).seq (.ops branch_Decode_r10)) Q tm1 h1 nx1 := by
  obtain ⟨j', us, st, rfl, hj', f4, f6, f23, f24, hus, hlb, R, hB, hne, hlt, hlo, hm, hnx, hf⟩ := hI
  have : j = j' := by
    rw [hk] at f24
    simp at f24; omega
  subst this
  have q1 := S.q n_wire_Reader_Text (by decide)
  have q2 := S.q n_wire_Reader_Int (by decide)
  have hr := flatB.rows us
  have hR0 := R.hi
  simp
  simp [branch_Decode_r8, hk]
  simp [branch_Decode_r9, f4, f6, q1]
  refine (xtext S R hB).mono ?_
  rintro o h2 nx2 ⟨rfl, R2, k2⟩
  have B2 : LB (s1O st) := hB.t
  simp [f4, q2, tV_eq]
  refine (xint S (st := s1O st) R2 B2).mono ?_
  rintro o h3 nx3 ⟨rfl, R3, k3⟩
  have B3 : LB (s2O st) := B2.u
  simp [f4, q2]
  refine (xint S (st := s2O st) R3 B3).mono ?_
  rintro o h4 nx4 ⟨rfl, R4, k4⟩
  have B4 : LB (s3O st) := B3.u
  have n2 := k2.1
  have n3 := k3.1
  have n4 := k4.1
  have g4 : T.get lb h4 = some (.cells (rowsA eB us) .fix) := by
    rw [k4.2 lb (by omega) hne, k3.2 lb (by omega) hne, k2.2 lb (by omega) hne]; exact hlb
  have h3 : j * 3 + 3 ≤ (rowsA eB us).length := by omega
  have hset := setB us j (by omega) (xO st)
  simp [g4, hj, h3]
  have hcells : List.take (j * 3) (rowsA eB us) ++ AV.str (tN (tO st)).fst (tN (tO st)).snd :: AV.int IntKind.i64 (SI.lit (bk (uV (uO (s1O st))))) :: AV.int IntKind.i64 (SI.lit (bk (uV (uO (s2O st))))) :: List.drop (j * 3 + 3) (rowsA eB us) = rowsA eB (us.set j (xO st)) := by
    rw [← hset, List.append_assoc]; rfl
  rw [hcells]
  simp [branch_Decode_r10, hk]
  refine hQ _ _ _ ⟨n - (j + 1), by omega, ?_⟩
  unfold DecInv
  refine ⟨j + 1, us.set j (xO st), s3O st, rfl, by omega, ?_, ?_, ?_, ?_, by rw [List.length_set]; exact hus, by rw [T.get_set_same], ?_, B4, hne, by omega, hlo, ?_, by omega, fun b hb => ?_⟩
  · simp [f4]
  · simp [f6]
  · simp [f23]
  · simp; rw [wrap_id (by omega) (by omega)]
  · -- the reader's block is another one
    have R5 : RO r (s3O st) h4 nx4 n0 := R4
    exact R5.put g4 (fun e => by rw [e] at hus; simp at hus; omega) hne
  · cases st with
    | none => exact hm
    | some q =>
      have hm : X = Option.map (fun p => (List.take j us ++ p.fst, p.snd)) (rdN (n - j) q) := hm
      obtain ⟨m, hm1⟩ : ∃ m, n - j = m + 1 := ⟨n - j - 1, by omega⟩
      have hm2 : n - (j + 1) = m := by omega
      rw [hm1, rdN, rdB_O] at hm
      rw [hm2]
      have htk : (us.set j (xO (some q))).take (j + 1) = us.take j ++ [xO (some q)] := by
        rw [List.take_succ_eq_append_getElem (by rw [List.length_set]; omega), List.getElem_set_self, List.take_set_of_le (Nat.le_refl _)]
      rw [htk]
      cases h5 : s3O (some q) with
      | none => rw [h5] at hm; exact hm
      | some q3 =>
        rw [h5] at hm
        simp only [Option.map_some] at hm
        show X = Option.map (fun p => (us.take j ++ [xO (some q)] ++ p.1, p.2)) (rdN m q3)
        rw [hm]
        cases rdN m q3 with
        | none => rfl
        | some p => obtain ⟨l, r⟩ := p; simp
  · rw [get_lt (by omega), k4.2 b (by omega) (ne_nat (by omega)), k3.2 b (by omega) (ne_nat (by omega)), k2.2 b (by omega) (ne_nat (by omega))]
    exact hf b hb
end Tb
/-
  SB: the program's Decode. No condition.
-/
namespace Tb
open Go.Sx Go
variable {C : Cfg}
theorem rep_rows (n : Nat) : (List.replicate n [AV.str 0 0, I 0, I 0]).flatten = rowsA eB (List.replicate n ⟨0, 0, 0, 0⟩) := by
  induction n with
  | zero => rfl
  | succ n ih => rw [List.replicate_succ, List.replicate_succ, List.flatten_cons, rowsA_cons, ih]; rfl
def rX (st : Option (List Nat)) (n : Nat) : Option (List Br × List Nat) := match st with
  | some q => rdN n q
  | none => none
def fX : Option (List Br × List Nat) → Option (List Br)
  | some (l, []) => some l
  | _ => none
def DecR (bs : List Nat) (h : T Blk) (nx : Key) (o : Out) (h' : T Blk) (nx' : Key) : Prop :=
  (match decL bs with | some l => ∃ c', o = .ret (.tuple [c', I 0]) ∧ IsL c' l | none => o = .ret (.tuple [.nils, I 2])) ∧ Ext h nx h' nx'
theorem Rd.lenO {c : AV} {bs : List Nat} {h : T Blk} {nx : Key} (hc : Rd c bs h nx) (orc : Orc) {tm : T AV} {k : Key} {h' : T Blk} (hk : T.get k tm = some c) : lightOp orc (.lenL (.t k)) tm h' = some (I bs.length) := by
  rcases hc with ⟨rfl, rfl⟩ | ⟨fl, rfl⟩ | ⟨b, k', rfl, _, _⟩ <;> simp [hk]
theorem dec_r3 {c : AV} {bs : List Nat} {z : Int} {h0 h : T Blk} {nx0 nx : Key} {tm : T AV} {Q : Post} (hc : Rd c bs h0 nx0) (f0 : T.get (K 0) tm = some c) (f5 : T.get (K 5) tm = some (I z))
    (hQ : ∀ tm' : T AV, T.get (K 0) tm' = some c → T.get (K 4) tm' = T.get (K 4) tm → T.get (K 5) tm' = some (I z) → T.get (K 19) tm' = some (.bool (decide (z < 0 ∨ (bs.length : Int) < z))) → Q .norm tm' h nx) : wpC C (.ops branch_Decode_r3) Q tm h nx := by
  by_cases h0 : z < 0
  · simp [branch_Decode_r3, f5, h0]
    exact hQ _ (by simp [f0]) (by simp) (by simp [f5]) (by simp [h0])
  · rcases hc with ⟨rfl, rfl⟩ | ⟨fl, rfl⟩ | ⟨b, k', rfl, _, _⟩
    all_goals
      simp [branch_Decode_r3, f0, f5, h0]
      exact hQ _ (by simp [f0]) (by simp) (by simp [f5]) (by simp [h0])
variable (S : StdX C)
include S
theorem decode_ok {c : AV} {bs : List Nat} {h : T Blk} {nx : Key} (hc : Rd c bs h nx) (hb : ∀ b ∈ bs, b < 256) (hl : bs.length ≤ 65536) : CallA C n_branch_Decode [c] h nx (DecR bs h nx) := by
  have q1 := S.q n_wire_Reader_Int (by decide)
  have q2 := S.q n_wire_Reader_End (by decide)
  have q3 := S.raw1
  refine S.dec.call ?_
  simp [branch_Decode]
  simp [branch_Decode_r0]
  simp [branch_Decode_r1, q3]
  refine (read_ok S.rd hc (by omega)).mono ?_
  rintro o h1 nx1 ⟨r, rfl, R1, e1⟩
  simp
  have R1' : RO r (some bs) h1 nx1 nx := ⟨R1, hb⟩
  have B1 : LB (some bs) := fun x hx => by cases hx; omega
  simp [branch_Decode_r2, q1]
  refine (xint S R1' B1).mono ?_
  rintro o h2 nx2 ⟨rfl, R2, k2⟩
  have hR2 := R2.hi
  have B2 := B1.u
  have n1 := e1.n
  have n2 := k2.1
  have f2 : ∀ b : Key, b.toNat < nx.toNat → T.get b h2 = T.get b h := fun b hb => by rw [k2.2 b (by omega) (ne_nat (by omega)), e1.g b hb]
  simp
  refine wpO_of (dec_r3 hc (by simp) (by simp; rfl) ?_)
  intro tm3 g0 g4 g5 g19
  simp at g4
  obtain ⟨st, hst⟩ : ∃ st, st = (uO (some bs)).map (·.2) := ⟨_, rfl⟩
  obtain ⟨z, hz⟩ : ∃ z, z = bk (uV (uO (some bs))) := ⟨_, rfl⟩
  rw [← hst] at R2 B2
  rw [← hz] at g5 g19
  by_cases hcz : z < 0 ∨ (bs.length : Int) < z
  · have hd : decL bs = none := by
      unfold decL
      have e : uO (some bs) = rdU bs := rfl
      rw [e] at hz
      cases hu : rdU bs with
      | none => rfl
      | some p =>
        obtain ⟨n, r1⟩ := p
        rw [hu] at hz
        have hz : z = bk n := hz
        rw [hz] at hcz
        simp only
        rw [if_pos hcz]
    rw [decide_eq_true hcz] at g19
    simp [g19]
    simp [branch_Decode_r4]
    refine ⟨by rw [hd], by omega, f2⟩
  · rw [decide_eq_false hcz] at g19
    obtain ⟨n, hn⟩ : ∃ n : Nat, z = n := ⟨z.toNat, by omega⟩
    subst hn
    have hnl : n ≤ bs.length := by omega
    have hn64 : n ≤ 65536 := by omega
    have s2 := Key.toNat_succ nx2
    simp [g19]
    simp [branch_Decode_r5, g5, hn64]
    rw [rep_rows]
    simp [branch_Decode_r6]
    obtain ⟨X, hX⟩ : ∃ X : Option (List Br × List Nat), X = rX st n := ⟨_, rfl⟩
    have hdec : decL bs = fX X := by
      unfold decL
      have e : uO (some bs) = rdU bs := rfl
      rw [e] at hz hst
      cases hu : rdU bs with
      | none =>
        rw [hu] at hst
        rw [hX, hst]; rfl
      | some p =>
        obtain ⟨v, r1⟩ := p
        rw [hu] at hz hst
        have hz : (n : Int) = bk v := hz
        rw [hX, hst]
        simp only [Option.map_some]
        rw [← hz, if_neg hcz, Int.toNat_natCast]
        rfl
    refine W.loopM (n := n) (DecInv r nx2 n X h nx nx) ?_ ?_
    · refine ⟨0, List.replicate n ⟨0, 0, 0, 0⟩, st, by simp, by omega, ?_, ?_, ?_, ?_, by simp, by rw [T.get_set_same], R2.ext (E0 h2 nx2 _), B2, ne_nat (by omega), by omega, by omega, ?_, by omega, fun b hb => by rw [get_lt (by omega)]; exact f2 b hb⟩
      · simp [g4]
      · simp
      · simp
      · simp
      · rw [hX]
        cases st with
        | none => rfl
        | some q => simp [rX]
    rintro k tm1 h5 nx5 hI
    obtain ⟨j, us, st', rfl, hj', f4, f6, f23, f24, hus, hlb, R, hB, hne, hlt, hlo, hm, hnx, hf⟩ := id hI
    refine W.of ?_
    simp [branch_Decode_l0]
    simp [branch_Decode_r7, f23, f24]
    refine ⟨fun hjn => ?_, fun hge => ?_⟩
    · have hI' : DecInv r nx2 n X h nx nx (n - j) (T.set (K 25) (some (.bool (decide (j < n)))) tm1) h5 nx5 :=
        ⟨j, us, st', rfl, hj', by simp [f4], by simp [f6], by simp [f23], by simp [f24], hus, hlb, R, hB, hne, hlt, hlo, hm, hnx, hf⟩
      have key := fun Q hQ => dec_step S hn64 hI' (j := j) (by simp [f24]) hjn (Q := Q) hQ
      simp at key
      refine key _ ?_
      intro tm' h' nx' m hm hD
      simp
      exact ⟨m, hm, hD⟩
    · have hjn : j = n := by omega
      subst hjn
      have hex : ∀ h6 : T Blk, ∀ nx6 : Key, h6 = h5 → nx6 = nx5 → Ext h nx h6 nx6 := by
        rintro h6 nx6 rfl rfl
        exact ⟨by omega, hf⟩
      cases st' with
      | none =>
        have hd : decL bs = none := by rw [hdec, hm]; rfl
        obtain ⟨q, e, he, Re⟩ := R
        simp [branch_Decode_r11, f4, q2]
        refine (end_ok S.rend Re).mono ?_
        rintro o h6 nx6 ⟨rfl, e6, e6'⟩
        have he' : (e == 0) = false := by simpa using he
        simp [he, he']
        simp [branch_Decode_r12]
        exact ⟨by rw [hd], hex _ _ e6 e6'⟩
      | some q =>
        have hm : X = some (us, q) := by
          have h1 : X = Option.map (fun p => (List.take j us ++ p.fst, p.snd)) (rdN (j - j) q) := hm
          rw [h1, Nat.sub_self, rdN]
          simp only [Option.map_some, List.append_nil]
          rw [List.take_of_length_le (by omega)]
        simp [branch_Decode_r11, f4, q2]
        refine (end_ok S.rend R.1).mono ?_
        rintro o h6 nx6 ⟨rfl, rfl, rfl⟩
        by_cases hq : q = []
        · subst hq
          have hd : decL bs = some us := by rw [hdec, hm]; rfl
          have hz := frz_fix (n := 7) (b := nx2) (len := j) (sz := 3) (l := rowsA eB us) (H := h6) hlb (by rw [flatB.rows, hus]) (flatB.stbs us)
          simp
          simp [branch_Decode_r13, f6, hz]
          refine ⟨?_, by omega, fun b hb => ?_⟩
          · rw [hd]
            exact ⟨_, rfl, .inr (by rw [hus])⟩
          · rw [get_lt (by omega)]; exact hf b hb
        · have hd : decL bs = none := by
            rw [hdec, hm]
            cases q with
            | nil => exact absurd rfl hq
            | cons a q => rfl
          simp [hq]
          simp [branch_Decode_r12]
          exact ⟨by rw [hd], hex _ _ rfl rfl⟩
end Tb
/-
  SB: the law of bytes: the tests. No condition.
-/
namespace Tb
open Go.Sx Go
variable {C : Cfg}
/- a row of bytes that the law tries -/
def Try (d : AV) (h : T Blk) (nx : Key) : Prop := ∃ m : List Nat, Rd d m h nx ∧ (∀ b ∈ m, b < 256) ∧ m.length ≤ 65536
theorem Try.ext {d : AV} {h h' : T Blk} {nx nx' : Key} (t : Try d h nx) (e : Ext h nx h' nx') : Try d h' nx' := by
  obtain ⟨m, a, b, c⟩ := t
  exact ⟨m, a.ext e, b, c⟩
theorem Rd.beq {d : AV} {m : List Nat} {h : T Blk} {nx : Key} (hd : Rd d m h nx) : d.beq d = true := by
  rcases hd with ⟨rfl, rfl⟩ | ⟨fl, rfl⟩ | ⟨b, k', rfl, _, _⟩
  · rfl
  · exact beq_refl _ (by simp [AV.lits, flatY.litsR])
  · exact beq_refl _ rfl
def TryInv (lb : Key) (d0 d1 d2 d3 : AV) (h : T Blk) (nx : Key) (k : Nat) (tm' : T AV) (h' : T Blk) (nx' : Key) : Prop :=
  ∃ i : Nat, k = 4 - i ∧ i ≤ 4 ∧ T.get (K 16) tm' = some (.slice lb 0 4 1) ∧ T.get (K 17) tm' = some (I i) ∧ Ext h nx h' nx'
variable (S : StdX C)
include S
theorem encX {c : AV} {l : List Br} (hc : IsL c l) (hin : ∀ x ∈ l, In x) (hl : (encL l).length ≤ 100000) : Pur C n_branch_Encode [c] (fun o => ∃ c', o = .ret c' ∧ IsR 1 eY c' (encL l)) := encode_ok S.w.w hc hin hl
theorem sameX {c d : AV} {l m : List Nat} {h : T Blk} {nx : Key} (hc : IsR 1 eY c l) (hd : Rd d m h nx) (hl : l.length ≤ 1000000) :
    CallA C n_ref01_SameBytes [c, d] h nx (fun o h' nx' => o = .ret (.bool (decide (l = m))) ∧ Ext h nx h' nx') := sameY_ok S.same hc hd hl
theorem try_some {lb : Key} {ds : List AV} {d c : AV} {m : List Nat} {l : List Br} {i : Nat} {h : T Blk} {nx : Key} {tm : T AV} {Q : Post} (hds : ds.length = 4) (hi : i < 4) (hdi : ds[i]? = some d) (hlb : T.get lb h = some (.cells ds .fix)) (hlt : lb.toNat < nx.toNat) (f16 : T.get (K 16) tm = some (.slice lb 0 4 1)) (f17 : T.get (K 17) tm = some (I i))
    (hd : Rd d m h nx) (hm : m.length ≤ 65536) (hc : IsL c l) (hin : ∀ x ∈ l, In x) (he : encL l = m) (f18 : T.get (K 18) tm = some c) (f19 : T.get (K 19) tm = some (I 0))
    (hQ : ∀ tm' h' nx', T.get (K 16) tm' = some (.slice lb 0 4 1) → T.get (K 17) tm' = some (I i) → T.get (K 119) tm' = some (.bool false) → Ext h nx h' nx' → Q .norm tm' h' nx') :
    wpC C (.staged law13_BranchBytes_r17 ⟨[k95, k96, k97, k98, k99, k100, k101, k102, k103, k104, k105, k106, k107, k108, k109, k110, k111, k112, k113, k114, k115, k116, k117, k118, k119], []⟩) Q tm h nx := by
  have q1 := S.q n_branch_Encode (by decide)
  have q2 := S.raw2
  have cs : ∀ n h, frzA n c h = (c, h) := IsR.stb hc
  have hi' : i < ds.length := by omega
  simp [law13_BranchBytes_r17, f16, f17, f18, f19, hi, hlb, hdi, q1, cs]
  refine (encX S hc hin (by rw [he]; omega) h nx).mono ?_
  rintro o h1 nx1 ⟨⟨ce, rfl, hR⟩, e1⟩
  have hlb1 : T.get lb h1 = some (.cells ds .fix) := by rw [e1.g lb hlt]; exact hlb
  simp [f16, f17, hlb1, hi, hdi, q2]
  refine ⟨hd.beq, ?_⟩
  refine (sameX S hR (hd.ext e1) (by rw [he]; omega)).mono ?_
  rintro o h2 nx2 ⟨rfl, e2⟩
  simp [he]
  refine hQ _ _ _ ?_ ?_ ?_ (e1.trans e2)
  · simp [f16]
  · simp [f17]
  · simp
theorem try_none {lb : Key} {i : Nat} {h : T Blk} {nx : Key} {tm : T AV} {Q : Post} (f16 : T.get (K 16) tm = some (.slice lb 0 4 1)) (f17 : T.get (K 17) tm = some (I i))
    (f18 : T.get (K 18) tm = some .nils) (f19 : T.get (K 19) tm = some (I 2))
    (hQ : ∀ tm', T.get (K 16) tm' = some (.slice lb 0 4 1) → T.get (K 17) tm' = some (I i) → T.get (K 119) tm' = some (.bool false) → Q .norm tm' h nx) :
    wpC C (.staged law13_BranchBytes_r17 ⟨[k95, k96, k97, k98, k99, k100, k101, k102, k103, k104, k105, k106, k107, k108, k109, k110, k111, k112, k113, k114, k115, k116, k117, k118, k119], []⟩) Q tm h nx := by
  simp [law13_BranchBytes_r17, f16, f17, f18, f19]
  trace_state
  refine hQ _ ?_ ?_ ?_
  · simp [f16]
  · simp [f17]
  · simp
end Tb
/-
  SB: the law of bytes: the loop. No condition.
-/
namespace Tb
open Go.Sx Go
variable {C : Cfg} (S : StdX C)
include S
theorem try_loop {lb : Key} {ds : List AV} {h : T Blk} {nx : Key} {tm : T AV} (hds : ds.length = 4) (hlb : T.get lb h = some (.cells ds .fix)) (hlt : lb.toNat < nx.toNat) (hT : ∀ (i : Nat) (d : AV), ds[i]? = some d → Try d h nx) (f16 : T.get (K 16) tm = some (.slice lb 0 4 1)) (f17 : T.get (K 17) tm = some (I 0)) :
    W C (.loop law13_BranchBytes_l0) (fun e tm' h' nx' => e = .exit 0 ∧ Ext h nx h' nx') tm h nx := by
  have q1 := S.raw3
  refine W.loopM (n := 4) (TryInv lb .nils .nils .nils .nils h nx) ?_ ?_
  · exact ⟨0, rfl, by omega, f16, f17, Ext.refl _ _⟩
  rintro k tm1 h1 nx1 ⟨i, rfl, hi, f16, f17, e1⟩
  refine W.of ?_
  simp [law13_BranchBytes_l0]
  by_cases hi4 : i < 4
  · have hi4' : (i : Int) < 4 := by omega
    have hids : i < ds.length := by omega
    have hdi : ds[i]? = some ds[i] := List.getElem?_eq_getElem hids
    obtain ⟨m, hd, hb, hm⟩ := (hT i _ hdi).ext e1
    generalize hdd : ds[i] = d at hdi hd
    have hlb1 : T.get lb h1 = some (.cells ds .fix) := by rw [e1.g lb hlt]; exact hlb
    have n1 := e1.n
    simp [law13_BranchBytes_r15, f17, hi4']
    simp [law13_BranchBytes_r16, f16, f17, hi4, hlb1, hdi, hdd, q1]
    refine (decode_ok S hd hb hm).mono ?_
    rintro o h2 nx2 ⟨ho, e2⟩
    have nxt : ∀ tm2 h3 nx3, T.get (K 16) tm2 = some (.slice lb 0 4 1) → T.get (K 17) tm2 = some (I i) → Ext h nx h3 nx3 → ∀ Q : Post, (∀ tm3, (∃ m, m < 4 - i ∧ TryInv lb .nils .nils .nils .nils h nx m tm3 h3 nx3) → Q .norm tm3 h3 nx3) → wpO C Q law13_BranchBytes_r19 tm2 h3 nx3 := by
      intro tm2 h3 nx3 g16 g17 e3 Q hQ
      simp [law13_BranchBytes_r19, g17]
      refine hQ _ ⟨4 - (i + 1), by omega, i + 1, rfl, by omega, ?_, ?_, e3⟩
      · simp [g16]
      · simp; rw [wrap_id (by omega) (by omega)]
    cases hdl : decL m with
    | some l =>
      rw [hdl] at ho
      obtain ⟨c', rfl, hc⟩ := ho
      obtain ⟨he, hin⟩ := enc_dec hb hdl
      simp
      have key := fun Q hQ => try_some S (lb := lb) (ds := ds) (d := d) (c := c') (m := m) (l := l) (i := i) (h := h2) (nx := nx2) (tm := T.set (K 19) (some (I 0))
      (T.set (K 18) (some c')
        (T.set (K 94) (some (I 0))
          (T.set (K 93) (some c')
            (T.set (K 87) (some (AV.tuple [c', I 0]))
              (T.set (K 92) (some (AV.tuple [c', I 0]))
                (T.set (K 91) (some d)
                  (T.set (K 90) (some (AV.ptr lb i))
                    (T.set (K 89) (some (I ↑i))
                      (T.set (K 88) (some (AV.slice lb 0 4 1))
                        (T.set (K 84) (some (AV.bool true)) (T.set (K 83) (some (I ↑i)) tm1)))))))))))) hds hi4 hdi (by rw [e2.g lb (by omega)]; exact hlb1) (by have := e2.n; omega) (by simp [f16]) (by simp [f17]) (hd.ext e2) hm hc hin he (by simp) (by simp) (Q := Q) hQ
      simp at key
      refine key _ ?_
      intro tm2 h3 nx3 g16 g17 g119 e3
      simp [g119]
      refine nxt tm2 h3 nx3 g16 g17 (e1.trans (e2.trans e3)) _ ?_
      rintro tm3 ⟨m, h1, h2⟩
      simp
      exact ⟨m, h1, h2⟩
    | none =>
      rw [hdl] at ho
      subst ho
      simp
      have key := fun Q hQ => try_none S (lb := lb) (i := i) (h := h2) (nx := nx2) (tm := T.set (K 19) (some (I 2))
      (T.set (K 18) (some AV.nils)
        (T.set (K 94) (some (I 2))
          (T.set (K 93) (some AV.nils)
            (T.set (K 87) (some (AV.tuple [AV.nils, I 2]))
              (T.set (K 92) (some (AV.tuple [AV.nils, I 2]))
                (T.set (K 91) (some d)
                  (T.set (K 90) (some (AV.ptr lb i))
                    (T.set (K 89) (some (I ↑i))
                      (T.set (K 88) (some (AV.slice lb 0 4 1))
                        (T.set (K 84) (some (AV.bool true)) (T.set (K 83) (some (I ↑i)) tm1)))))))))))) (by simp [f16]) (by simp [f17]) (by simp) (by simp) (Q := Q) hQ
      simp at key
      refine key _ ?_
      intro tm2 g16 g17 g119
      simp [g119]
      refine nxt tm2 h2 nx2 g16 g17 (e1.trans e2) _ ?_
      rintro tm3 ⟨m, h1, h2⟩
      simp
      exact ⟨m, h1, h2⟩
  · have hi4' : ¬ (i : Int) < 4 := by omega
    simp [law13_BranchBytes_r15, f17, hi4']
    exact e1
end Tb
