/-
  SB: the law of bytes: what its lists are like. No condition.
-/
import Derived.Test.YtdghbgpolijpcaaGreatDoorYD
set_option linter.unusedSimpArgs false
set_option linter.unusedVariables false
set_option linter.unusedSectionVars false
namespace Tb
open Go.Sx Go
theorem vuF_byte : ∀ (k n : Nat), n < 128 ^ (k + 1) → ∀ b ∈ vuF k n, b < 256
  | 0, n, h, b, hb => by simp [vuF] at hb; omega
  | k + 1, n, h, b, hb => by
    rw [vuF] at hb
    split at hb
    · simp at hb; omega
    · simp only [List.mem_cons] at hb
      rcases hb with rfl | hb
      · omega
      · refine vuF_byte k (n / 128) ?_ b hb
        rw [Nat.pow_succ] at h
        omega
theorem vu_byte {n : Nat} (h : n < 18446744073709551616) : ∀ b ∈ vu n, b < 256 := by
  refine vuF_byte 10 n ?_
  have : (128 : Nat) ^ (10 + 1) = 151115727451828646838272 := by decide
  omega
theorem sb_byte : ∀ (n c b : Nat), b ∈ sb n c → b < 256
  | 0, c, b, h => by simp [sb] at h
  | n + 1, c, b, h => by
    rw [sb] at h
    rcases List.mem_cons.1 h with rfl | h
    · omega
    · exact sb_byte n _ b h
theorem encB_byte {x : Br} (h : In x) : ∀ b ∈ encB x, b < 256 := by
  intro b hb
  unfold encB at hb
  simp only [List.mem_append] at hb
  rcases hb with ((hb | hb) | hb) | hb
  · exact vu_byte h.a b hb
  · exact sb_byte _ _ b hb
  · exact vu_byte (zz_lt h.n.1 h.n.2) b hb
  · exact vu_byte (zz_lt h.m.1 h.m.2) b hb
theorem encL_byte {l : List Br} (h : ∀ x ∈ l, In x) (hl : l.length < 1000000) : ∀ b ∈ encL l, b < 256 := by
  intro b hb
  unfold encL at hb
  rcases List.mem_append.1 hb with hb | hb
  · exact vu_byte (zz_lt (by omega) (by omega)) b hb
  · obtain ⟨x, hx, hb⟩ := List.mem_flatMap.1 hb
    exact encB_byte (h x hx) b hb
theorem vuF_len : ∀ k n, (vuF k n).length ≤ k + 1 := by
  intro k
  induction k with
  | zero => intro n; simp [vuF]
  | succ k ih =>
    intro n; rw [vuF]; split
    · simp
    · have := ih (n / 128); rw [List.length_cons]; omega
theorem vu_len (n : Nat) : (vu n).length ≤ 11 := vuF_len 10 n
theorem encB_len (x : Br) : (encB x).length ≤ 33 + x.a := by
  have h1 := vu_len x.a
  have h2 := vu_len (zz x.n)
  have h3 := vu_len (zz x.m)
  unfold encB
  simp only [List.length_append, sb_len]
  omega
theorem flat_le {l : List Br} (h : ∀ x ∈ l, x.a ≤ 1) : (l.flatMap encB).length ≤ 34 * l.length := by
  induction l with
  | nil => simp
  | cons x l ih =>
    have h1 := encB_len x
    have h2 := h x (by simp)
    have h3 := ih fun y hy => h y (by simp [hy])
    rw [List.flatMap_cons, List.length_append, List.length_cons]; omega
theorem mk_in (n : Int) : In (mk n) ∧ (mk n).a ≤ 1 := by
  have h1 := mk_ok n
  unfold mk at *
  obtain ⟨q, hq⟩ : ∃ q, q = (arF n 120).toNat := ⟨_, rfl⟩
  rw [← hq] at h1 ⊢
  have ha : (mkB q).a ≤ 1 := by unfold mkB; simp only; split <;> omega
  refine ⟨⟨h1, by omega, ?_, ?_⟩, ha⟩
  · unfold mkB; simp only; omega
  · unfold mkB; simp only; omega
theorem lst_in (l : List Int) : ∀ x ∈ lst l, In x := by
  intro x hx
  obtain ⟨n, _, rfl⟩ := List.mem_map.1 hx
  exact (mk_in n).1
theorem lst_enc (l : List Int) : (encL (lst l)).length ≤ 500 ∧ 0 < (encL (lst l)).length := by
  have h1 := lst_len l
  have h2 : ((lst l).flatMap encB).length ≤ 34 * (lst l).length := flat_le fun x hx => by
    obtain ⟨n, _, rfl⟩ := List.mem_map.1 hx
    exact (mk_in n).2
  have h3 := vu_len (zz (lst l).length)
  have h4 := vu_pos (zz (lst l).length)
  unfold encL
  rw [List.length_append]
  omega
end Tb
/-
  SB: the law of bytes: the walk. No condition.
-/
namespace Tb
open Go.Sx Go
variable {C : Cfg} (S : StdX C)
include S
/- rows 1 to 5 -/
theorem by_a {c : AV} {l : List Int} {h : T Blk} {nx : Key} {tm : T AV} (hc : IsR 1 eI c l) (hl : inR l) (f0 : T.get (K 0) tm = some c) {Q : Post} {P : PCode}
    (hQ : ∀ tm' h' nx' ca cb r, IsL ca (lst l) → IsR 1 eY cb (encL (lst l)) → (∀ i : Nat, i < 8 → T.get (K i) tm' = T.get (K i) tm) → T.get (K 9) tm' = some ca → T.get (K 10) tm' = some cb → T.get (K 12) tm' = some (.ptr r 0) →
      RS r (vu (encL (lst l)).length ++ encL (lst l)) 0 h' nx' nx → Ext h nx h' nx' → wpC C P Q tm' h' nx') :
    wpC C ((PCode.ops law13_BranchBytes_r1).seq ((PCode.ops law13_BranchBytes_r2).seq ((PCode.ops law13_BranchBytes_r3).seq ((PCode.ops law13_BranchBytes_r4).seq ((PCode.ops law13_BranchBytes_r5).seq P))))) Q tm h nx := by
  have q1 := S.q n_ref13_List (by decide)
  have q2 := S.q n_branch_Encode (by decide)
  have q3 := S.q n_wire_Writer_Raw (by decide)
  have q4 := S.q n_wire_Writer_Done (by decide)
  have q5 := S.raw1
  have cs : ∀ n h, frzA n c h = (c, h) := IsR.stb hc
  obtain ⟨hb1, hb2⟩ := lst_enc l
  simp
  simp [law13_BranchBytes_r1, f0, q1, cs]
  refine (list_ok S.w.w.b hc hl _ _).mono ?_
  rintro o h1 nx1 ⟨⟨ca, rfl, ia⟩, e1⟩
  have as : ∀ n h, frzA n ca h = (ca, h) := IsR.stb ia
  simp
  simp [law13_BranchBytes_r2, q2, as]
  refine (encX S ia (lst_in l) (by omega) _ _).mono ?_
  rintro o h2 nx2 ⟨⟨cb, rfl, ib⟩, e2⟩
  have bs : ∀ n h, frzA n cb h = (cb, h) := IsR.stb ib
  simp
  simp [law13_BranchBytes_r3]
  have s2 := Key.toNat_succ nx2
  have W0 : WS nx2 .nils [] (T.set nx2 (some (.cells [.nils] .fix)) h2) nx2.succ nx2 := ⟨Nat.le_refl _, by omega, by omega, by rw [T.get_set_same], App.nil 1⟩
  simp [law13_BranchBytes_r4, q3, bs]
  refine (wRaw_ok S.w.w.wraw S.w.w.wuint (S.q _ (by decide)) W0 ib (by omega) (by simp)).mono ?_
  rintro o h3 nx3 ⟨rfl, cw, W3, n3, g3, k3⟩
  simp
  simp [law13_BranchBytes_r5, q4]
  have hvl := vu_len (encL (lst l)).length
  refine (wDone_ok S.w.w.wdone W3 (by simp only [List.length_append, List.length_nil]; omega)).mono ?_
  rintro o h4 nx4 ⟨⟨cd, rfl, id4⟩, e4⟩
  simp [q5]
  refine (read_ok S.rd (Rd.of id4) (by simp only [List.length_append, List.length_nil]; omega)).mono ?_
  rintro o h5 nx5 ⟨r, rfl, R5, e5⟩
  simp
  have m1 := e1.n
  have m2 := e2.n
  have m4 := e4.n
  have m5 := e5.n
  have R6 : RS r (vu (encL (lst l)).length ++ encL (lst l)) 0 h5 nx5 nx := by
    obtain ⟨r1, r2, b, off, all, k, a1, a2, a3, a4, a5, a6, a7, a8⟩ := R5
    exact ⟨by omega, r2, b, off, all, k, by simpa using a1, a2, a3, by simpa using a4, a5, by omega, a7, a8⟩
  refine hQ _ _ _ ca cb r ia ib ?_ ?_ ?_ ?_ R6 ⟨by omega, fun b hb => ?_⟩
  · intro i hi
    have : i = 0 ∨ i = 1 ∨ i = 2 ∨ i = 3 ∨ i = 4 ∨ i = 5 ∨ i = 6 ∨ i = 7 := by omega
    rcases this with rfl | rfl | rfl | rfl | rfl | rfl | rfl | rfl <;> simp
  · simp
  · simp
  · simp
  · rw [e5.g b (by omega), e4.g b (by omega), g3 b (by omega), get_lt (by omega), e2.g b (by omega), e1.g b hb]
end Tb
/-
  SB: the law of bytes: the walk. No condition.
-/
namespace Tb
open Go.Sx Go
variable {C : Cfg} (S : StdX C)
include S
/- row 6 -/
theorem by_b {ca cb : AV} {bs : List Nat} {us : List Br} {r : Key} {h : T Blk} {nx : Key} {tm : T AV} (ia : IsL ca us) (hbs : bs = encL us) (hin : ∀ x ∈ us, In x) (hl : bs.length ≤ 1000) (hp : 0 < bs.length) (hcb : cb = .sl (rowsA eY bs) bs.length 1 .any) (f9 : T.get (K 9) tm = some ca) (f10 : T.get (K 10) tm = some cb) (f12 : T.get (K 12) tm = some (.ptr r 0)) {Q : Post}
    (hQ : ∀ tm' h' nx', (∀ i : Nat, i < 28 → T.get (K i) tm' = T.get (K i) tm) → T.get (K 41) tm' = some (.bool false) → Ext h nx h' nx' → Q .norm tm' h' nx') :
    wpC C (.ops law13_BranchBytes_r6) Q tm h nx := by
  have q1 := S.q n_ref13_Encode (by decide)
  have q2 := S.raw2
  have as : ∀ n h, frzA n ca h = (ca, h) := IsR.stb ia
  have hne : ((bs.length : Int) == 0) = false := by simp; intro e; rw [e] at hp; simp at hp
  have hne2 : ¬ bs = [] := fun e => by rw [e] at hp; simp at hp
  have hep : ∀ orc, eqV orc .ptr (.ptr r 0) .nilp = some false := fun orc => by rw [eqV]
  simp [law13_BranchBytes_r6, f9, f10, f12, q1, as, hep]
  refine (rEncode_ok S.w ia hin (by rw [← hbs]; omega) _ _).mono ?_
  rintro o h1 nx1 ⟨⟨ce, rfl, ie⟩, e1⟩
  rw [← hbs] at ie
  simp [f10, q2]
  refine (sameX S (.inr hcb) (Rd.of ie) (by omega)).mono ?_
  rintro o h2 nx2 ⟨rfl, e2⟩
  simp [f10, hcb, hne2]
  refine hQ _ _ _ ?_ ?_ (e1.trans e2)
  · intro i hi
    have e : ∀ j : Nat, 28 ≤ j → ∀ (v : Option AV) (t : T AV), T.get (K i) (T.set (K j) v t) = T.get (K i) t := fun j hj v t => by rw [get_set_K, if_neg (by omega)]
    simp [e]
  · simp [hne2]
/- rows 8 and 9 -/
theorem by_c {ca : AV} {bs : List Nat} {us : List Br} {r : Key} {h : T Blk} {nx n0 : Key} {tm : T AV} (ia : IsL ca us) (hbs : bs = encL us) (hin : ∀ x ∈ us, In x) (hul : us.length ≤ 4000) (hl : bs.length ≤ 1000) (R : RS r (vu bs.length ++ bs) 0 h nx n0) (f9 : T.get (K 9) tm = some ca) (f12 : T.get (K 12) tm = some (.ptr r 0)) {Q : Post} {P T1 : PCode}
    (hQ : ∀ tm' h' nx', (∀ i : Nat, i < 13 → T.get (K i) tm' = T.get (K i) tm) → T.get (K 55) tm' = some (.bool false) → nx.toNat ≤ nx'.toNat → (∀ b : Key, b.toNat < n0.toNat → T.get b h' = T.get b h) → wpC C T1 (seqPost (wpC C P Q) Q) tm' h' nx') :
    wpC C ((PCode.ops law13_BranchBytes_r8).seq (((PCode.ops law13_BranchBytes_r9).seq T1).seq P)) Q tm h nx := by
  have q1 := S.q n_wire_Reader_Raw (by decide)
  have q2 := S.raw3
  have q3 := S.q n_ref13_Same (by decide)
  have as : ∀ n h, frzA n ca h = (ca, h) := IsR.stb ia
  have hbb : ∀ b ∈ bs, b < 256 := by rw [hbs]; exact encL_byte hin (by omega)
  have hvl := vu_len bs.length
  have hdec : decL bs = some us := by rw [hbs]; exact dec_enc hin (by omega)
  have hn0 := R.1
  have hrn := R.2.1
  have R1 : RO r (some (vu bs.length ++ bs)) h nx n0 := ⟨R, fun b hb => by
    rcases List.mem_append.1 hb with hb | hb
    · exact vu_byte (by omega) b hb
    · exact hbb b hb⟩
  have hLB : LB (some (vu bs.length ++ bs)) := fun x hx => by cases hx; rw [List.length_append]; omega
  have hlO : lO (some (vu bs.length ++ bs)) = some (bs.length, bs) := by
    unfold lO uO
    simp only
    rw [rdU_vu (by omega)]
    simp
  simp
  simp [law13_BranchBytes_r8, f12, q1]
  refine (getRaw_ok S R1 hLB hlO (by omega)).mono ?_
  rintro o h1 nx1 ⟨⟨cr, rfl, ir⟩, k1⟩
  rw [List.take_of_length_le (Nat.le_refl _)] at ir
  simp [q2]
  refine (decode_ok S (Rd.of ir) hbb (by omega)).mono ?_
  rintro o h2 nx2 ⟨ho, e2⟩
  rw [hdec] at ho
  obtain ⟨cd, rfl, id2⟩ := ho
  have ds : ∀ n h, frzA n cd h = (cd, h) := IsR.stb id2
  simp
  simp [law13_BranchBytes_r9, f9, q3, as, ds]
  refine (same_ok S.w.w.b ia id2 (by omega) _ _).mono ?_
  rintro o h3 nx3 ⟨rfl, e3⟩
  simp
  have m1 := k1.1
  have m2 := e2.n
  have m3 := e3.n
  refine hQ _ _ _ ?_ ?_ (by omega) ?_
  · intro i hi
    have e : ∀ j : Nat, 13 ≤ j → ∀ (v : Option AV) (t : T AV), T.get (K i) (T.set (K j) v t) = T.get (K i) t := fun j hj v t => by rw [get_set_K, if_neg (by omega)]
    simp [e]
  · simp
  · intro b hb
    rw [e3.g b (by omega), e2.g b (by omega), k1.2 b (by omega) (ne_nat (by omega))]
end Tb
/-
  SB: the law of bytes: the walk. No condition.
-/
namespace Tb
open Go.Sx Go
theorem setY (bs : List Nat) (j : Nat) (hj : j < bs.length) (x : Nat) : List.take j (rowsA eY bs) ++ (AV.int .u8 (.lit (x : Int))) :: List.drop (j + 1) (rowsA eY bs) = rowsA eY (bs.set j x) := by
  have e : bs.set j x = bs.take j ++ x :: bs.drop (j + 1) := List.set_eq_take_append_cons_drop.trans (by rw [if_pos hj])
  have e1 := flatY.take bs j
  have e2 := flatY.drop bs (j + 1)
  rw [Nat.mul_one] at e1 e2
  rw [e, rowsA_app, rowsA_cons, e1, e2]; rfl
variable {C : Cfg} (S : StdX C)
include S
/- rows 11 and 12 -/
theorem by_d {cb : AV} {bs : List Nat} {a2 : Int} {by' : Nat} {h : T Blk} {nx : Key} {tm : T AV} (hl : bs.length ≤ 1000) (hp : 0 < bs.length) (hcb : cb = .sl (rowsA eY bs) bs.length 1 .any) (h1 : -9223372036854775808 ≤ a2) (h2 : a2 < 9223372036854775808) (f10 : T.get (K 10) tm = some cb) (f2 : T.get (K 2) tm = some (I a2)) (f3 : T.get (K 3) tm = some (.int .u8 (.lit (by' : Int)))) {Q : Post} {P : PCode}
    (hQ : ∀ tm' h' nx' q j, (∀ i : Nat, i < 13 → T.get (K i) tm' = T.get (K i) tm) → T.get (K 15) tm' = some (.slice q 0 bs.length 1) → T.get q h' = some (.cells (rowsA eY (bs.set j by')) .part) → nx.toNat ≤ q.toNat → q.toNat < nx'.toNat → Ext h nx h' nx' → wpC C P Q tm' h' nx') :
    wpC C ((PCode.ops law13_BranchBytes_r11).seq ((PCode.ops law13_BranchBytes_r12).seq P)) Q tm h nx := by
  have q1 := S.q n_ref01_Few (by decide)
  have q2 := S.q n_ref01_Around (by decide)
  subst hcb
  simp
  simp [law13_BranchBytes_r11, f10, q1]
  refine (few_ok S.few (.inr rfl) bs.length (by omega) h nx).mono ?_
  rintro o h3 nx3 ⟨⟨cx, rfl, hx⟩, e3⟩
  rw [List.take_of_length_le (Nat.le_refl _)] at hx
  rcases hx with ⟨_, e⟩ | ⟨q, rfl, hq, hq1, hq2⟩
  · rw [e] at hp; simp at hp
  obtain ⟨hj1, hj2⟩ := arF_low (n := a2) (m := (bs.length : Int)) h1 h2 (by omega)
  obtain ⟨j, hj⟩ : ∃ j : Nat, arF a2 (bs.length : Int) = j := ⟨(arF a2 (bs.length : Int)).toNat, by omega⟩
  have hjl : j < bs.length := by omega
  have hr := flatY.rows bs
  have hjr : j + 1 ≤ (rowsA eY bs).length := by omega
  have hst := setY bs j hjl by'
  simp
  simp [law13_BranchBytes_r12, f2, f3, q2]
  refine (around_ok S.w.w.b a2 (bs.length : Int) (by omega) _ _).mono ?_
  rintro o h4 nx4 ⟨rfl, e4⟩
  have hq4 : T.get q h4 = some (.cells (rowsA eY bs) .part) := by rw [e4.g q hq2]; exact hq
  have m3 := e3.n
  have m4 := e4.n
  simp [f3, hj, hjl, hq4, hjr, hst]
  refine hQ _ _ _ q j ?_ ?_ ?_ hq1 (by omega) ⟨by omega, fun b hb => ?_⟩
  · intro i hi
    have e : ∀ j : Nat, 13 ≤ j → ∀ (v : Option AV) (t : T AV), T.get (K i) (T.set (K j) v t) = T.get (K i) t := fun j hj v t => by rw [get_set_K, if_neg (by omega)]
    simp [e]
  · simp
  · rw [T.get_set_same]
  · rw [get_lt (by omega), e4.g b (by omega), e3.g b hb]
end Tb
/-
  SB: the law of bytes: the walk. No condition.
-/
namespace Tb
open Go.Sx Go
theorem App.rd {c : AV} {m : List Nat} {h : T Blk} {nx n0 : Key} (ha : App c (rowsA eY m) m.length 1 h nx n0) : Rd c m h nx := by
  rcases ha.is with ⟨a1, a2, a3⟩ | ⟨b, a1, a2, a3, a4, a5⟩ | ⟨t, a1, a2, a3, a4⟩
  · exact .inl ⟨a1, List.eq_nil_of_length_eq_zero a3⟩
  · exact .inr (.inr ⟨b, _, a1, a2, a4⟩)
  · exact .inr (.inl ⟨_, a1⟩)
theorem FewR.rd {c : AV} {m : List Nat} {h : T Blk} {nx n0 : Key} (hf : FewR c m h nx n0) : Rd c m h nx := by
  rcases hf with ⟨a, b⟩ | ⟨q, a, b, c, d⟩
  · exact .inl ⟨a, b⟩
  · exact .inr (.inr ⟨q, .part, a, b, d⟩)
variable {C : Cfg} (S : StdX C)
include S
/- row 13 -/
theorem by_e {cb d : AV} {bs ys raw : List Nat} {by' : Nat} {q : Key} {h : T Blk} {nx : Key} {tm : T AV} (hl : bs.length ≤ 1000) (hp : 0 < bs.length) (hcb : cb = .sl (rowsA eY bs) bs.length 1 .any) (hd : IsR 1 eY d raw) (hrb : ∀ b ∈ raw, b < 256) (hbb : ∀ b ∈ bs, b < 256) (hyb : ∀ b ∈ ys, b < 256) (hys : ys.length = bs.length) (hby : by' < 256) (hq : T.get q h = some (.cells (rowsA eY ys) .part)) (f1 : T.get (K 1) tm = some d) (f10 : T.get (K 10) tm = some cb) (f15 : T.get (K 15) tm = some (.slice q 0 bs.length 1)) (f3 : T.get (K 3) tm = some (.int .u8 (.lit (by' : Int)))) (hqn : q.toNat < nx.toNat) {Q : Post}
    (hQ : ∀ tm' h' nx' lb ds, T.get (K 16) tm' = some (.slice lb 0 4 1) → ds.length = 4 → T.get lb h' = some (.cells ds .fix) → lb.toNat < nx'.toNat → (∀ (i : Nat) (d : AV), ds[i]? = some d → Try d h' nx') → Ext h nx h' nx' → Q .norm tm' h' nx') :
    wpC C (.staged law13_BranchBytes_r13 ⟨[k67, k68, k69, k70, k71, k72, k73, k74, k75, k76, k77, k78, k79, k80, k81, k82, k16], []⟩) Q tm h nx := by
  have q1 := S.q n_ref01_Few (by decide)
  have ds : ∀ n h, frzA n d h = (d, h) := IsR.stb hd
  subst hcb
  have hw : wrapF .i64 ((bs.length : Int) - 1) = ((bs.length - 1 : Nat) : Int) := by
    rw [show (bs.length : Int) - 1 = ((bs.length - 1 : Nat) : Int) by omega]; exact wrap_id (by omega) (by omega)
  have hr := flatY.rows bs
  obtain ⟨p, hpp⟩ : ∃ p, p = bs.length - 1 := ⟨_, rfl⟩
  rw [← hpp] at hw
  have hple : p ≤ bs.length := by omega
  have hpr : p ≤ (rowsA eY bs).length := by omega
  have htk : List.take p (rowsA eY bs) = rowsA eY (bs.take p) := by have := flatY.take bs p; rwa [Nat.mul_one] at this
  simp [law13_BranchBytes_r13, f1, f3, f10, f15, q1, ds, hw, hple, hpr, htk]
  have s1 := Key.toNat_succ nx
  refine (few_ok S.few hd 40 (by omega) h nx.succ).mono ?_
  rintro o h1 nx1 ⟨⟨c0, rfl, F0⟩, e1⟩
  have m1 := e1.n
  simp [q1]
  refine (few_ok S.few (.inr rfl) bs.length (by omega) h1 nx1).mono ?_
  rintro o h2 nx2 ⟨⟨c3, rfl, F3⟩, e2⟩
  have m2 := e2.n
  rw [List.take_of_length_le (Nat.le_refl _)] at F3
  rcases F3 with ⟨_, e⟩ | ⟨q3, rfl, hq3, hq4, hq5⟩
  · rw [e] at hp; simp at hp
  have hA : App (.slice q3 0 bs.length 1) (rowsA eY bs) bs.length 1 (T.set nx (some (.cells [.int .u8 (.lit (by' : Int))] .fix)) h2) nx2 nx1 :=
    ⟨.inr (.inl ⟨q3, rfl, by rw [T.get_set_ne _ _ _ _ (ne_nat (by omega))]; exact hq3, hq4, hq5, by omega⟩)⟩
  have hr1 : rowsA eY [by'] = [.int .u8 (.lit (by' : Int))] := rowsA_one _ _
  obtain ⟨c4, h4, nx4, g, A4, x1, x2, x3⟩ := hA.addN (new := rowsA eY [by']) (m := 1) (by omega) (by rw [flatY.rows]; rfl) (by omega) (flatY.allc _)
  rw [← rowsA_app] at A4
  rw [hr1] at g
  have A5 : App c4 (rowsA eY (bs ++ [by'])) (bs ++ [by']).length 1 h4 nx4 nx1 := by rw [List.length_append, List.length_singleton]; exact A4
  have hz : ∀ H, frzLA (frzA 8) [AV.int .u8 (.lit (by' : Int))] H = ([AV.int .u8 (.lit (by' : Int))], H) := fun H => frzLA_stb (by intro z hz; simp at hz; subst hz; exact stb_int _ _)
  have hc4 := A5.cell.2
  have hc0 : c0.cells = [c0] := by
    rcases F0 with ⟨rfl, _⟩ | ⟨q0, rfl, _⟩ <;> rfl
  simp [-appendTo, hz, g, hc0, hc4]
  have s4 := Key.toNat_succ nx4
  have E : Ext h nx (T.set nx4 (some (.cells [c0, .slice q 0 bs.length 1, .sl (rowsA eY (List.take p bs)) p 1 .any, c4] .fix)) h4) nx4.succ := by
    refine ⟨by omega, fun b hb => ?_⟩
    rw [get_lt (by omega), x2 b (by omega), get_lt hb, e2.g b (by omega), e1.g b (by omega)]
  have E1 : Ext h1 nx1 h4 nx4 → Ext h1 nx1 h4 nx4 := id
  refine hQ _ _ _ nx4 [c0, .slice q 0 bs.length 1, .sl (rowsA eY (List.take p bs)) p 1 .any, c4] (by simp) rfl (by rw [T.get_set_same]) (by omega) ?_ E
  have t0 : Try c0 (T.set nx4 (some (.cells [c0, .slice q 0 bs.length 1, .sl (rowsA eY (List.take p bs)) p 1 .any, c4] .fix)) h4) nx4.succ := by
    refine ⟨raw.take 40, ?_, fun b hb => hrb b (List.mem_of_mem_take hb), by rw [List.length_take]; omega⟩
    rcases F0 with ⟨a, b⟩ | ⟨q0, a, b, c, d⟩
    · exact .inl ⟨a, b⟩
    · refine .inr (.inr ⟨q0, .part, a, ?_, by omega⟩)
      rw [get_lt (by omega), x2 q0 (by omega), T.get_set_ne _ _ _ _ (ne_nat (by omega)), e2.g q0 d]
      exact b
  have t1 : Try (.slice q 0 bs.length 1) (T.set nx4 (some (.cells [c0, .slice q 0 bs.length 1, .sl (rowsA eY (List.take p bs)) p 1 .any, c4] .fix)) h4) nx4.succ :=
    ⟨ys, .inr (.inr ⟨q, .part, by rw [hys], by rw [E.g q hqn]; exact hq, by omega⟩), hyb, by omega⟩
  have t2 : Try (.sl (rowsA eY (List.take p bs)) p 1 .any) (T.set nx4 (some (.cells [c0, .slice q 0 bs.length 1, .sl (rowsA eY (List.take p bs)) p 1 .any, c4] .fix)) h4) nx4.succ :=
    ⟨bs.take p, .inr (.inl ⟨_, by rw [List.length_take, Nat.min_eq_left hple]⟩), fun b hb => hbb b (List.mem_of_mem_take hb), by rw [List.length_take]; omega⟩
  have t3 : Try c4 (T.set nx4 (some (.cells [c0, .slice q 0 bs.length 1, .sl (rowsA eY (List.take p bs)) p 1 .any, c4] .fix)) h4) nx4.succ := by
    refine ⟨bs ++ [by'], (Tb.App.rd A5).ext (E0 h4 nx4 _), fun b hb => ?_, by rw [List.length_append, List.length_singleton]; omega⟩
    rcases List.mem_append.1 hb with hb | hb
    · exact hbb b hb
    · simp at hb; omega
  intro i d' hi
  have : i = 0 ∨ i = 1 ∨ i = 2 ∨ i = 3 ∨ 4 ≤ i := by omega
  rcases this with rfl | rfl | rfl | rfl | h5
  · simp at hi; subst hi; exact t0
  · simp at hi; subst hi; exact t1
  · simp at hi; subst hi; exact t2
  · simp at hi; subst hi; exact t3
  · rw [List.getElem?_eq_none (by simpa using h5)] at hi; cases hi
end Tb
/-
  SB: the law of bytes. No condition.
-/
namespace Tb
open Go.Sx Go
variable {C : Cfg} (S : StdX C)
include S
omit S in
theorem by_0 {P : PCode} {Q : Post} {tm : T AV} {h : T Blk} {nx : Key} (hQ : wpC C P Q (T.set (K 8) (some (.bool false)) tm) h nx) : wpC C ((PCode.ops law13_BranchBytes_r0).seq P) Q tm h nx := by
  simp [law13_BranchBytes_r0]
  exact hQ
omit S in
theorem by_if {A T1 P : PCode} {Q : Post} {tm : T AV} {h : T Blk} {nx : Key} (hQ : wpC C A (seqPost (wpC C T1 (seqPost (wpC C P Q) Q)) (seqPost (wpC C P Q) Q)) tm h nx) : wpC C ((A.seq T1).seq P) Q tm h nx := by
  simpa using hQ
omit S in
theorem by_cond {k : Key} {A P : PCode} {Q : Post} {tm : T AV} {h : T Blk} {nx : Key} (hk : T.get k tm = some (.bool false)) (hQ : wpC C P Q tm h nx) : wpC C (.cond (.t k) A .skip) (seqPost (wpC C P Q) Q) tm h nx := by
  simp [hk]
  exact hQ
omit S in
theorem by_st {l : List SItem} {d : SD} {P : PCode} {Q : Post} {tm : T AV} {h : T Blk} {nx : Key} (hQ : wpC C (.staged l d) (seqPost (wpC C P Q) Q) tm h nx) : wpC C ((PCode.staged l d).seq P) Q tm h nx := by
  simpa using hQ
theorem by_end (hlive : Pur C n_law13_lives [] (· = .ret (.bool true))) {lb : Key} {ds : List AV} {h0 h : T Blk} {nx0 nx : Key} {tm : T AV} (hds : ds.length = 4) (hlb : T.get lb h = some (.cells ds .fix)) (hlt : lb.toNat < nx.toNat) (hT : ∀ (i : Nat) (d : AV), ds[i]? = some d → Try d h nx) (f16 : T.get (K 16) tm = some (.slice lb 0 4 1)) (e0 : Ext h0 nx0 h nx) :
    wpC C (((PCode.ops law13_BranchBytes_r14).seq (PCode.block 0 law13_BranchBytes_l0.loop)).seq ((PCode.ops law13_BranchBytes_r20).seq PCode.ret)) (BodyP [RV.tmp (K 8)] fun o h' nx' => o = Out.ret (AV.bool true) ∧ Ext h0 nx0 h' nx') tm h nx := by
  have q1 := S.q n_law13_lives (by decide)
  simp
  simp [law13_BranchBytes_r14]
  refine (try_loop S hds hlb hlt hT ?_ ?_).mono ?_
  · simp [f16]
  · simp
  rintro e tm2 h4 nx4 ⟨rfl, e4⟩
  simp
  simp [law13_BranchBytes_r20, q1]
  refine (hlive _ _).mono ?_
  rintro o h5 nx5 ⟨rfl, e5⟩
  simp
  exact e0.trans (e4.trans e5)
theorem bytes_ok (hlive : Pur C n_law13_lives [] (· = .ret (.bool true))) {c d : AV} {l : List Int} {raw : List Nat} {a2 : Int} {by' : Nat} (hc : IsR 1 eI c l) (hl : inR l) (hd : IsR 1 eY d raw) (hrb : ∀ b ∈ raw, b < 256) (h1 : -9223372036854775808 ≤ a2) (h2 : a2 < 9223372036854775808) (hby : by' < 256) :
    Pur C n_law13_BranchBytes [c, d, I a2, .int .u8 (.lit (by' : Int))] (· = .ret (.bool true)) := by
  intro h nx
  obtain ⟨hb1, hb2⟩ := lst_enc l
  have hin := lst_in l
  have hll := lst_len l
  have hbb := encL_byte hin (by omega)
  refine S.law.call ?_
  refine by_0 ?_
  refine by_a S (c := c) (l := l) hc hl (by simp) ?_
  intro tm1 h1' nx1 ca cb r ia ib hs f9 f10 f12 R e1
  have g1 : T.get (K 1) tm1 = some d := by rw [hs 1 (by omega)]; simp
  have g2 : T.get (K 2) tm1 = some (I a2) := by rw [hs 2 (by omega)]; simp
  have g3 : T.get (K 3) tm1 = some (.int .u8 (.lit (by' : Int))) := by rw [hs 3 (by omega)]; simp
  obtain ⟨bs, hbs⟩ : ∃ bs, bs = encL (lst l) := ⟨_, rfl⟩
  rw [← hbs] at ib R hb1 hb2 hbb
  have hcb : cb = .sl (rowsA eY bs) bs.length 1 .any := by
    rcases ib with ⟨_, e⟩ | e
    · rw [e] at hb2; simp at hb2
    · exact e
  refine by_if ?_
  refine by_b S ia hbs hin (by omega) hb2 hcb f9 f10 f12 ?_
  intro tm2 h2' nx2 hs2 f41 e2
  refine by_cond f41 ?_
  refine by_c S ia hbs hin (by omega) (by omega) (R.ext e2) (by rw [hs2 9 (by omega)]; exact f9) (by rw [hs2 12 (by omega)]; exact f12) ?_
  intro tm3 h3 nx3 hs3 f55 n3 e3
  have m1 := e1.n
  have m2 := e2.n
  refine by_cond f55 ?_
  refine by_d S (by omega) hb2 hcb h1 h2 (by rw [hs3 10 (by omega), hs2 10 (by omega)]; exact f10) (by rw [hs3 2 (by omega), hs2 2 (by omega)]; exact g2) (by rw [hs3 3 (by omega), hs2 3 (by omega)]; exact g3) ?_
  intro tm4 h4 nx4 q j hs4 f15 hq hq1 hq2 e4
  have m4 := e4.n
  refine by_st ?_
  refine by_e S (by omega) hb2 hcb hd hrb hbb (ys := bs.set j by') (fun b hb => ?_) (by rw [List.length_set]) hby hq (by rw [hs4 1 (by omega), hs3 1 (by omega), hs2 1 (by omega)]; exact g1) (by rw [hs4 10 (by omega), hs3 10 (by omega), hs2 10 (by omega)]; exact f10) f15 (by rw [hs4 3 (by omega), hs3 3 (by omega), hs2 3 (by omega)]; exact g3) hq2 ?_
  · rcases List.mem_or_eq_of_mem_set hb with hb | rfl
    · exact hbb b hb
    · exact hby
  intro tm5 h5 nx5 lb ds f16 hds hlb hlt hT e5
  refine by_end S hlive hds hlb hlt hT f16 ?_
  have m5 := e5.n
  exact ⟨by omega, fun b hb => by rw [e5.g b (by omega), e4.g b (by omega), e3 b hb, e2.g b (by omega), e1.g b hb]⟩
end Tb
