/-
  SB: lists of branches made from numbers. No condition.
-/
import Derived.Test.YtdghbgpolijpcaaGreatDoorBF
set_option linter.unusedSimpArgs false
set_option linter.unusedVariables false
set_option linter.unusedSectionVars false
namespace Tb
open Go.Sx Go
def eI (n : Int) : List AV := [I n]
theorem flatI : Flat 1 eI where
  len _ := rfl
  stb x y hy := by simp [eI] at hy; subst hy; exact stb_int _ _
  cell x y hy := by simp [eI] at hy; subst hy; rfl
  lits x := rfl
def inR (l : List Int) : Prop := ∀ n ∈ l, -9223372036854775808 ≤ n ∧ n < 9223372036854775808
def mkB (q : Nat) : Br := ⟨if q % 3 = 0 then 0 else 1, if q % 3 = 0 then 0 else if q % 3 = 1 then 102 else 103, (q : Int) / 3 % 5 - 1, (q : Int) / 15 % 3⟩
def mk (n : Int) : Br := mkB (arF n 120).toNat
def lst (l : List Int) : List Br := (l.take 14).map mk
theorem mk_ok (n : Int) : OkB (mk n) := by
  unfold mk mkB OkB
  simp only
  split
  · simp
  · split <;> decide
theorem lst_ok (l : List Int) : AllOk (lst l) := fun y hy => by
  obtain ⟨n, _, rfl⟩ := List.mem_map.1 hy
  exact mk_ok n
theorem lst_len (l : List Int) : (lst l).length ≤ 14 := by unfold lst; rw [List.length_map, List.length_take]; omega
theorem arF_low {n m : Int} (h1 : -9223372036854775808 ≤ n) (h2 : n < 9223372036854775808) (hm : 0 < m) : 0 ≤ arF n m ∧ arF n m < m := by
  unfold arF
  have hnn : 0 ≤ (if n < 0 then wrapF .i64 (0 - wrapF .i64 (n + 1)) else n) := by
    split
    · rw [wrap_id (n := n + 1) (by omega) (by omega), wrap_id (by omega) (by omega)]; omega
    · omega
  exact ⟨Int.tmod_nonneg _ hnn, Int.tmod_lt_of_pos _ hm⟩
variable {C : Cfg} (S : Std C)
include S
theorem row5 {q : Nat} (hq : q < 120) {d : AV} {us : List Br} {h0 h : T Blk} {nx0 nx : Key} {tm : T AV} (f5 : T.get (K 5) tm = some (I (q : Int))) (f3 : T.get (K 3) tm = some d) (hA : App d (rowsA eB us) us.length 3 h nx nx0) (he : Ext h0 nx0 h nx) (hu : us.length ≤ 100) {R : Post}
    (hR : ∀ tm' d' h' nx', T.get (K 0) tm' = T.get (K 0) tm → T.get (K 4) tm' = T.get (K 4) tm → T.get (K 3) tm' = some d' → App d' (rowsA eB (us ++ [mkB q])) (us ++ [mkB q]).length 3 h' nx' nx0 → Ext h0 nx0 h' nx' → R .norm tm' h' nx') :
    wpC C (.ops ref13_List_r5) R tm h nx := by
  have t2 := Key.toNat_succ nx
  have t3 := Key.toNat_succ nx.succ
  have n0 := he.n
  have k0 : Int.tmod (q : Int) 3 = (q : Int) % 3 := Int.tmod_eq_emod_of_nonneg (by omega)
  have k1 : natOf (.int .i64 (.lit ((q : Int) % 3))) = some (q % 3) := by rw [show (q : Int) % 3 = ((q % 3 : Nat) : Int) by omega]; rfl
  have k2 : wrapF .i64 ((q : Int) / 3) = (q : Int) / 3 := wrap_id (by omega) (by omega)
  have k3 : Int.tmod ((q : Int) / 3) 5 = (q : Int) / 3 % 5 := Int.tmod_eq_emod_of_nonneg (by omega)
  have k4 : wrapF .i64 ((q : Int) / 3 % 5 - 1) = (q : Int) / 3 % 5 - 1 := wrap_id (by omega) (by omega)
  have k5 : wrapF .i64 ((q : Int) / 15) = (q : Int) / 15 := wrap_id (by omega) (by omega)
  have k6 : Int.tmod ((q : Int) / 15) 3 = (q : Int) / 15 % 3 := Int.tmod_eq_emod_of_nonneg (by omega)
  have hrow : ([AV.str 0 0, AV.str 1 102, AV.str 1 103] : List AV)[q % 3]? = some (.str (mkB q).a (mkB q).b) := by
    have : q % 3 = 0 ∨ q % 3 = 1 ∨ q % 3 = 2 := by omega
    unfold mkB
    rcases this with h | h | h <;> rw [h] <;> rfl
  have h33 : q % 3 < 3 := Nat.mod_lt _ (by omega)
  have hrow' : ([AV.str 0 0, AV.str 1 102, AV.str 1 103] : List AV)[q % 3]'h33 = .str (mkB q).a (mkB q).b := by
    rw [List.getElem?_eq_getElem h33] at hrow; exact Option.some.inj hrow
  clear hrow
  have hz : ∀ H, frzLA (frzA 8) (eB (mkB q)) H = (eB (mkB q), H) := fun H => frzLA_stb (flatB.stb _)
  have hee : [AV.str (mkB q).a (mkB q).b, I ((q : Int) / 3 % 5 - 1), I ((q : Int) / 15 % 3)] = eB (mkB q) := rfl
  have A1 : App d (rowsA eB us) us.length 3 (T.set nx.succ (some (.cells (eB (mkB q)) .fix)) (T.set nx (some (.cells [AV.str 0 0, AV.str 1 102, AV.str 1 103] .fix)) h)) nx.succ.succ nx0 := (hA.ext (E0 h nx _)).ext (E0 _ nx.succ _)
  obtain ⟨c2, h3, nx3, g2, A2, m1, m2, m3⟩ := A1.add1 flatB (by omega) (by omega) (mkB q)
  generalize hN : (mkB q).a = na at hrow' hee
  generalize hM : (mkB q).b = nb at hrow' hee
  simp [-appendTo, ref13_List_r5, f5, k0, k1, k2, k3, k4, k5, k6, hrow', h33, f3, hee, hz, g2]
  refine hR _ c2 _ _ ?_ ?_ ?_ A2 ?_
  · simp
  · simp
  · simp
  · exact ⟨by omega, fun b hb => by rw [m2 b hb, get_lt (by omega), get_lt (by omega)]; exact he.g b hb⟩
def LstInv (l : List Int) (h : T Blk) (nx : Key) (k : Nat) (tm' : T AV) (h' : T Blk) (nx' : Key) : Prop :=
  ∃ (j : Nat) (d : AV), k = 14 - j ∧ j ≤ l.length ∧ j ≤ 14 ∧ T.get (K 0) tm' = some (.sl (rowsA eI l) l.length 1 .any) ∧ T.get (K 3) tm' = some d ∧ T.get (K 4) tm' = some (I j) ∧
    App d (rowsA eB ((l.take j).map mk)) ((l.take j).map mk).length 3 h' nx' nx ∧ Ext h nx h' nx'
theorem list_ok {c : AV} {l : List Int} (hc : IsR 1 eI c l) (hl : inR l) : Pur C n_ref13_List [c] (fun o => ∃ c', o = .ret c' ∧ IsL c' (lst l)) := by
  intro h nx
  have r1 : C.raw n_ref01_Around = false := S.raw _ (by decide)
  refine S.c_ref13_List.call ?_
  simp [ref13_List]
  simp [ref13_List_r0]
  simp [ref13_List_r1]
  simp [ref13_List_r2]
  rcases hc with ⟨rfl, rfl⟩ | rfl
  · refine W.unroll (W.of ?_)
    simp [ref13_List_l0]
    simp [ref13_List_r3]
    simp [ref13_List_r7]
    exact ⟨.inl ⟨rfl, rfl⟩, Ext.refl _ _⟩
  · refine W.loopM (n := 14) (LstInv l h nx) ?_ ?_
    · refine ⟨0, .nils, by simp, by omega, by omega, ?_, ?_, ?_, App.nil 3, Ext.refl _ _⟩ <;> simp
    · rintro k tm1 h1 nx1 ⟨j, d, rfl, hj, hj2, f0, f3, f4, hA, e1⟩
      have fin : ∀ tm, T.get (K 3) tm = some d → (l.length ≤ j ∨ 14 ≤ j) → wpC C ((PCode.ops ref13_List_r7).seq PCode.ret) (BodyP [RV.tmp (K 2)] fun o h' nx' => (∃ c', o = .ret c' ∧ IsL c' (lst l)) ∧ Ext h nx h' nx') tm h1 nx1 := by
        intro tm g3 hend
        have he : l.take j = l.take 14 := by
          rcases hend with h | h
          · rw [List.take_of_length_le h, List.take_of_length_le (by omega)]
          · have : j = 14 := by omega
            rw [this]
        rw [he] at hA
        obtain ⟨q1, q2⟩ := hA.fastR flatB 7
        simp
        simp [ref13_List_r7, g3]
        exact ⟨q1, e1.n, fun b hb => by rw [q2 b hb]; exact e1.g b hb⟩
      refine W.of ?_
      simp [ref13_List_l0]
      by_cases hlt : j < l.length
      · by_cases hlt2 : j < 14
        · have h1' : (j : Int) < l.length := by omega
          have h2' : (j : Int) < 14 := by omega
          simp [ref13_List_r3, f0, f4, h1', h2', hlt, hlt2]
          have ec : List.take 1 (List.drop j (rowsA eI l)) = [I l[j]] := by
            have := flatI.at hlt
            rw [Nat.mul_one] at this
            exact this
          have hrw := flatI.rows l
          have h5 : 1 ≤ (rowsA eI l).length - j := by omega
          simp [ref13_List_r4, f0, f4, hlt, h5, ec, r1]
          refine (around_ok S l[j] 120 (by omega) _ _).mono ?_
          rintro o h2 nx2 ⟨rfl, e2⟩
          obtain ⟨ha, hb⟩ := arF_low (hl _ (List.getElem_mem hlt)).1 (hl _ (List.getElem_mem hlt)).2 (m := 120) (by omega)
          obtain ⟨q, hq⟩ := Int.eq_ofNat_of_zero_le ha
          have hq120 : q < 120 := by omega
          have hmk : mk l[j] = mkB q := by unfold mk; rw [hq]; rfl
          rw [hq]
          simp
          have hlj : ((l.take j).map mk).length = j := by rw [List.length_map, List.length_take]; omega
          refine (row5 S hq120 (tm := T.set (K 5) (some (I (q : Int))) (T.set (K 20) (some (I (q : Int))) (T.set (K 19) (some (I l[j])) (T.set (K 18) (some (.cref [I l[j]])) (T.set (K 17) (some (I j)) (T.set (K 16) (some (.sl (rowsA eI l) l.length 1 .any)) (T.set (K 13) (some (.bool true)) (T.set (K 12) (some (.bool true)) (T.set (K 11) (some (I j)) (T.set (K 10) (some (.bool true)) (T.set (K 9) (some (.bool true)) (T.set (K 8) (some (I l.length)) (T.set (K 7) (some (.sl (rowsA eI l) l.length 1 .any)) (T.set (K 6) (some (I j)) tm1)))))))))))))) (us := (l.take j).map mk) (h0 := h) (nx0 := nx) ?_ ?_ (hA.ext e2) (e1.trans e2) (by omega) ?_)
          · simp
          · simp [f3]
          intro tm' d' h' nx' g0 g4 g3 A' E'
          simp [f0] at g0
          simp [f4] at g4
          simp
          simp [ref13_List_r6, g4]
          refine ⟨14 - (j + 1), by omega, ?_⟩
          unfold LstInv
          refine ⟨j + 1, d', rfl, by omega, by omega, ?_, ?_, ?_, ?_, E'⟩
          · simp [g0]
          · simp [g3]
          · simp; rw [wrap_id (by omega) (by omega)]
          · rw [List.take_succ_eq_append_getElem hlt, List.map_append, List.map_singleton, hmk]; exact A'
        · have h1' : (j : Int) < l.length := by omega
          have h2' : ¬ (j : Int) < 14 := by omega
          simp [ref13_List_r3, f0, f4, h1', h2', hlt, hlt2]
          simpa using fin _ (by simp [f3]) (.inr (by omega))
      · have h1' : ¬ (j : Int) < l.length := by omega
        simp [ref13_List_r3, f0, f4, h1', hlt]
        simpa using fin _ (by simp [f3]) (.inl (by omega))
end Tb
/-
  SB: the law of sets. No condition.
-/
namespace Tb
open Go.Sx Go
variable {C : Cfg} (S : Std C)
include S
omit S in
theorem wpO_of {l : List POper} {R : Post} {tm : T AV} {h : T Blk} {nx : Key} (hw : wpC C (.ops l) R tm h nx) : wpO C R l tm h nx := by simpa using hw
theorem same_sets {p : Br → Prop} {c d : AV} {r s : List Br} {h : T Blk} {nx : Key} (hc : IsL c r) (hd : IsL d s) (hr : SetOf p r) (hs : SetOf p s) (ho : ∀ y, p y → OkB y) (hl : r.length ≤ 4000) : CallA C n_ref13_Same [c, d] h nx (fun o h' nx' => o = .ret (.bool true) ∧ Ext h nx h' nx') := by
  have e := hr.uniq hs ho
  refine (same_ok S hc hd hl h nx).mono ?_
  rintro o h1 nx1 ⟨rfl, e1⟩
  exact ⟨by simp [e], e1⟩
/- the test of sets -/
theorem setsTest {ca cb : AV} {a b : List Br} (ha : IsL ca a) (hb : IsL cb b) (hla : a.length ≤ 14) (hlb : b.length ≤ 14) (hoa : AllOk a) (hob : AllOk b) {h : T Blk} {nx : Key} {tm : T AV} (f5 : T.get (K 5) tm = some ca) (f6 : T.get (K 6) tm = some cb) {R : Post}
    (hR : ∀ tm' h' nx', T.get (K 5) tm' = some ca → T.get (K 6) tm' = some cb → T.get (K 38) tm' = some (.bool false) → Ext h nx h' nx' → R .norm tm' h' nx') : wpC C (.ops law13_BranchSets_r3) R tm h nx := by
  have q1 : C.raw n_branch_Set = false := S.raw _ (by decide)
  have q2 : C.raw n_ref13_Set = false := S.raw _ (by decide)
  have q3 : C.raw n_ref13_Same = false := S.raw _ (by decide)
  have q4 : C.raw n_branch_Union = false := S.raw _ (by decide)
  have q5 : C.raw n_ref13_Union = false := S.raw _ (by decide)
  have q6 : C.raw n_branch_Minus = false := S.raw _ (by decide)
  have q7 : C.raw n_ref13_Minus = false := S.raw _ (by decide)
  have as : ∀ n h, frzA n ca h = (ca, h) := IsR.stb ha
  have bs : ∀ n h, frzA n cb h = (cb, h) := IsR.stb hb
  simp [law13_BranchSets_r3, f5, q1, as]
  refine (setB_ok S ha (by omega) hoa _ _).mono ?_
  rintro o h1 nx1 ⟨⟨c1, rfl, r1, i1, s1, l1⟩, e1⟩
  simp [f5, q2, as]
  refine (setR_ok S ha (by omega) hoa _ _).mono ?_
  rintro o h2 nx2 ⟨⟨c2, rfl, r2, i2, s2, l2⟩, e2⟩
  have z1 : ∀ n h, frzA n c1 h = (c1, h) := IsR.stb i1
  have z2 : ∀ n h, frzA n c2 h = (c2, h) := IsR.stb i2
  simp [q3, z1, z2]
  refine (same_sets S i1 i2 s1 s2 (fun y hy => hoa y hy) (by omega)).mono ?_
  rintro o h3 nx3 ⟨rfl, e3⟩
  simp [f5, f6, q4, as, bs]
  refine (unionB_ok S ha hb (by omega) (by omega) hoa hob _ _).mono ?_
  rintro o h4 nx4 ⟨⟨c1, rfl, r1, i1, s1, l1⟩, e4⟩
  simp [f5, f6, q5, as, bs]
  refine (unionR_ok S ha hb (by omega) (by omega) hoa hob _ _).mono ?_
  rintro o h5 nx5 ⟨⟨c2, rfl, r2, i2, s2, l2⟩, e5⟩
  have z1 : ∀ n h, frzA n c1 h = (c1, h) := IsR.stb i1
  have z2 : ∀ n h, frzA n c2 h = (c2, h) := IsR.stb i2
  simp [q3, z1, z2]
  refine (same_sets S i1 i2 s1 s2 (fun y hy => hy.elim (hoa y) (hob y)) (by omega)).mono ?_
  rintro o h6 nx6 ⟨rfl, e6⟩
  simp [f5, f6, q6, as, bs]
  refine (minusB_ok S ha hb (by omega) (by omega) hoa _ _).mono ?_
  rintro o h7 nx7 ⟨⟨c1, rfl, r1, i1, s1, l1⟩, e7⟩
  simp [f5, f6, q7, as, bs]
  refine (minusR_ok S ha hb (by omega) (by omega) hoa _ _).mono ?_
  rintro o h8 nx8 ⟨⟨c2, rfl, r2, i2, s2, l2⟩, e8⟩
  have z1 : ∀ n h, frzA n c1 h = (c1, h) := IsR.stb i1
  have z2 : ∀ n h, frzA n c2 h = (c2, h) := IsR.stb i2
  simp [q3, z1, z2]
  refine (same_sets S i1 i2 s1 s2 (fun y hy => hoa y hy.1) (by omega)).mono ?_
  rintro o h9 nx9 ⟨rfl, e9⟩
  simp
  refine hR _ _ _ ?_ ?_ ?_ (e1.trans (e2.trans (e3.trans (e4.trans (e5.trans (e6.trans (e7.trans (e8.trans e9))))))))
  · simp [f5]
  · simp [f6]
  · simp

/- the test of members and of the order -/
def CmpInv (ca cb : AV) (b : List Br) (i : Nat) (h : T Blk) (nx : Key) (k : Nat) (tm' : T AV) (h' : T Blk) (nx' : Key) : Prop :=
  ∃ j : Nat, k = b.length - j ∧ j ≤ b.length ∧ T.get (K 5) tm' = some ca ∧ T.get (K 6) tm' = some cb ∧ T.get (K 7) tm' = some (I i) ∧ T.get (K 8) tm' = some (I j) ∧ Ext h nx h' nx'
theorem cmpTest {cb : AV} {a b : List Br} (hb : IsL cb b) (hlb : b.length ≤ 14) (hoa : AllOk a) (hob : AllOk b) {i : Nat} (hi : i < a.length) {h : T Blk} {nx : Key} {tm : T AV} (f5 : T.get (K 5) tm = some (.sl (rowsA eB a) a.length 3 .any)) (f6 : T.get (K 6) tm = some cb) (f7 : T.get (K 7) tm = some (I i)) (f8 : T.get (K 8) tm = some (I 0)) :
    W C (.loop law13_BranchSets_l1) (fun e tm' h' nx' => e = .exit 2 ∧ T.get (K 5) tm' = some (.sl (rowsA eB a) a.length 3 .any) ∧ T.get (K 6) tm' = some cb ∧ T.get (K 7) tm' = some (I i) ∧ Ext h nx h' nx') tm h nx := by
  have q1 : C.raw n_branch_Compare = false := S.raw _ (by decide)
  have q2 : C.raw n_ref13_Compare = false := S.raw _ (by decide)
  refine W.loopM (n := b.length) (CmpInv (.sl (rowsA eB a) a.length 3 .any) cb b i h nx) ?_ ?_
  · exact ⟨0, by simp, by omega, f5, f6, f7, by simpa using f8, Ext.refl _ _⟩
  · rintro k tm1 h1 nx1 ⟨j, rfl, hj, f5, f6, f7, f8, e1⟩
    refine W.of ?_
    simp [law13_BranchSets_l1]
    rcases hb with ⟨rfl, rfl⟩ | rfl
    · have : j = 0 := by simpa using hj
      subst this
      simp [law13_BranchSets_r10, f6, f8]
      simp [f5, f7]
      exact e1
    · simp [law13_BranchSets_r10, f6, f8]
      refine ⟨fun hjlt => ?_, fun hge => ?_⟩
      · have hjl : j < b.length := by omega
        have ra := flatB.rows a
        have rb := flatB.rows b
        have h3 : 3 ≤ (rowsA eB a).length - i * 3 := by omega
        have h4 : 3 ≤ (rowsA eB b).length - j * 3 := by omega
        have ea := flatB.at hi
        have eb := flatB.at hjl
        have za : ∀ H, frzLA (frzA 7) (eB a[i]) H = (eB a[i], H) := fun H => frzLA_stb (flatB.stb _)
        have zb : ∀ H, frzLA (frzA 7) (eB b[j]) H = (eB b[j], H) := fun H => frzLA_stb (flatB.stb _)
        have ba : AV.beqs (eB a[i]) (eB a[i]) = true := beqs_refl _ rfl
        have bb : AV.beqs (eB b[j]) (eB b[j]) = true := beqs_refl _ rfl
        have oa := hoa _ (List.getElem_mem hi)
        have ob := hob _ (List.getElem_mem hjl)
        have hcr := cmpR_eq oa ob
        simp [law13_BranchSets_r11, f5, f6, f7, f8, hi, hjl, h3, h4, ea, eb, q1, za, zb]
        refine (cmpB_ok S _ _ _ _).mono ?_
        rintro o h2 nx2 ⟨rfl, e2⟩
        simp [f5, f6, f7, f8, hi, hjl, h3, h4, ea, eb, q2, za, zb, AV.beq, ba, bb]
        refine (cmpR_ok S _ _ _ _).mono ?_
        rintro o h3 nx3 ⟨rfl, e3⟩
        simp [hcr]
        simp [law13_BranchSets_r13, f8]
        refine ⟨b.length - (j + 1), by omega, ?_⟩
        unfold CmpInv
        refine ⟨j + 1, rfl, by omega, ?_, ?_, ?_, ?_, e1.trans (e2.trans e3)⟩
        · simp [f5]
        · simp [f6]
        · simp [f7]
        · simp; rw [wrap_id (by omega) (by omega)]
      · simp [f5, f7]
        exact e1
/- the outer loop -/
def OuInv (ca cb : AV) (a : List Br) (h : T Blk) (nx : Key) (k : Nat) (tm' : T AV) (h' : T Blk) (nx' : Key) : Prop :=
  ∃ i : Nat, k = a.length - i ∧ i ≤ a.length ∧ T.get (K 5) tm' = some ca ∧ T.get (K 6) tm' = some cb ∧ T.get (K 7) tm' = some (I i) ∧ Ext h nx h' nx'
theorem outTest {ca cb : AV} {a b : List Br} (ha : IsL ca a) (hb : IsL cb b) (hla : a.length ≤ 14) (hlb : b.length ≤ 14) (hoa : AllOk a) (hob : AllOk b) {h : T Blk} {nx : Key} {tm : T AV} (f5 : T.get (K 5) tm = some ca) (f6 : T.get (K 6) tm = some cb) (f7 : T.get (K 7) tm = some (I 0)) :
    W C (.loop law13_BranchSets_l0) (fun e tm' h' nx' => e = .exit 0 ∧ Ext h nx h' nx') tm h nx := by
  have q1 : C.raw n_branch_Has = false := S.raw _ (by decide)
  have q2 : C.raw n_ref13_Has = false := S.raw _ (by decide)
  refine W.loopM (n := a.length) (OuInv ca cb a h nx) ?_ ?_
  · exact ⟨0, by simp, by omega, f5, f6, by simpa using f7, Ext.refl _ _⟩
  · rintro k tm1 h1 nx1 ⟨i, rfl, hi, f5, f6, f7, e1⟩
    refine W.of ?_
    simp [law13_BranchSets_l0]
    rcases ha with ⟨rfl, rfl⟩ | rfl
    · have : i = 0 := by simpa using hi
      subst this
      simp [law13_BranchSets_r6, f5, f7]
      exact e1
    · simp [law13_BranchSets_r6, f5, f7]
      refine ⟨fun hilt => ?_, fun hge => ?_⟩
      · have hil : i < a.length := by omega
        have ra := flatB.rows a
        have h3 : 3 ≤ (rowsA eB a).length - i * 3 := by omega
        have ea := flatB.at hil
        have za : ∀ H, frzLA (frzA 7) (eB a[i]) H = (eB a[i], H) := fun H => frzLA_stb (flatB.stb _)
        have ba : AV.beqs (eB a[i]) (eB a[i]) = true := beqs_refl _ rfl
        have bs : ∀ n h, frzA n cb h = (cb, h) := IsR.stb hb
        simp [law13_BranchSets_r7, f5, f6, f7, hil, h3, ea, q1, za, bs]
        refine (has_ok S hb (by omega) _ _ _).mono ?_
        rintro o h2 nx2 ⟨rfl, e2⟩
        simp [f5, f6, f7, hil, h3, ea, q2, za, bs, AV.beq, ba]
        refine (hasR_ok S hb (by omega) _ _ _).mono ?_
        rintro o h3 nx3 ⟨rfl, e3⟩
        simp
        simp [law13_BranchSets_r9]
        refine (cmpTest S hb hlb hoa hob hil ?_ ?_ ?_ ?_).mono ?_
        · simp [f5]
        · simp [f6]
        · simp [f7]
        · simp
        rintro e tm2 h4 nx4 ⟨rfl, g5, g6, g7, e4⟩
        simp
        simp [law13_BranchSets_r14, g7]
        refine ⟨a.length - (i + 1), by omega, ?_⟩
        unfold OuInv
        refine ⟨i + 1, rfl, by omega, ?_, ?_, ?_, e1.trans (e2.trans (e3.trans e4))⟩
        · simp [g5]
        · simp [g6]
        · simp; rw [wrap_id (by omega) (by omega)]
      · exact e1

theorem sets_ok (hlive : Pur C n_law13_lives [] (· = .ret (.bool true))) {c d : AV} {l m : List Int} (hc : IsR 1 eI c l) (hd : IsR 1 eI d m) (hl : inR l) (hm : inR m) : Pur C n_law13_BranchSets [c, d] (· = .ret (.bool true)) := by
  intro h nx
  have q1 : C.raw n_ref13_List = false := S.raw _ (by decide)
  have q2 : C.raw n_law13_lives = false := S.raw _ (by decide)
  have cs : ∀ n h, frzA n c h = (c, h) := IsR.stb hc
  have ds : ∀ n h, frzA n d h = (d, h) := IsR.stb hd
  refine S.c_law13_BranchSets.call ?_
  simp [law13_BranchSets]
  simp [law13_BranchSets_r0]
  simp [law13_BranchSets_r1, q1, cs]
  refine (list_ok S hc hl _ _).mono ?_
  rintro o h1 nx1 ⟨⟨ca, rfl, ia⟩, e1⟩
  simp
  simp [law13_BranchSets_r2, q1, ds]
  refine (list_ok S hd hm _ _).mono ?_
  rintro o h2 nx2 ⟨⟨cb, rfl, ib⟩, e2⟩
  simp
  refine wpO_of (setsTest S ia ib (lst_len l) (lst_len m) (lst_ok l) (lst_ok m) ?_ ?_ ?_)
  · simp
  · simp
  intro tm h3 nx3 f5 f6 f38 e3
  simp [f38]
  simp [law13_BranchSets_r5]
  refine (outTest S ia ib (lst_len l) (lst_len m) (lst_ok l) (lst_ok m) ?_ ?_ ?_).mono ?_
  · simp [f5]
  · simp [f6]
  · simp
  rintro e tm2 h4 nx4 ⟨rfl, e4⟩
  simp
  simp [law13_BranchSets_r15, q2]
  refine (hlive _ _).mono ?_
  rintro o h5 nx5 ⟨rfl, e5⟩
  simp
  exact e1.trans (e2.trans (e3.trans (e4.trans e5)))
end Tb
