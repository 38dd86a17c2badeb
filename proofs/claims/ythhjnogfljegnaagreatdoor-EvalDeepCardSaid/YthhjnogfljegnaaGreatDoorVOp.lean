/-
 SV: the evaluator's operators. No condition.
-/
import Derived.Test.YthhjnogfljegnaaGreatDoorVMem
set_option linter.unusedSimpArgs false
set_option linter.unusedVariables false
set_option linter.unusedSectionVars false
namespace Tz
open Go.Sx Go
def opTail : PCode := (.seq (.ops ybi_r21)
 (.seq (.seq (.ops ybi_r22)
 (.block 1 (.seq (.ops ybi_r23)
 (.cond (.t k116)
 (.seq (.ops ybi_r24)
 .ret)
 (.seq (.ops ybi_r25)
 (.cond (.t k123)
 (.seq (.ops ybi_r26)
 .ret)
 .skip))))))
 (.seq (.ops ybi_r27)
 (.seq (.seq (.ops ybi_r28)
 (.block 2 (.seq (.ops ybi_r29)
 (.cond (.t k143)
 (.seq (.ops ybi_r30)
 .ret)
 (.seq (.ops ybi_r31)
 (.cond (.t k151)
 (.seq (.ops ybi_r32)
 .ret)
 (.seq (.ops ybi_r33)
 (.cond (.t k159)
 (.seq (.ops ybi_r34)
 .ret)
 (.seq (.ops ybi_r35)
 (.cond (.t k167)
 (.seq (.ops ybi_r36)
 .ret)
 .skip))))))))))
 (.seq (.ops ybi_r37)
 .ret)))))
variable {C : Cfg} (S : Std C) {rb : Key} {D : RunB} {L : Lim} {rec_ : Rec} {c0 : Int} (HE : EvOK C rb D L rec_ c0)
include S HE
theorem op_tail_c {fn : Go.Sx.S} {s : Sc} {k : Int} {na nb : Nat} {n : Int} {names : List Go.Sx.S} {binds : List (List Go.Sx.S)} {at_ : Int} {st : St} {sp cn cb ck : AV} {h : T Blk} {nx : Key} {t : List AV} {a b : E} {cs : List AV} {tm : T AV} {h1 : T Blk} {nx1 : Key} (hc : c0 ≤ st.cf) (low : rb.toNat < nx.toNat) (F1 : Fr rb (T.set nx (some Zb) h) nx.succ h1 nx1) (r1 : Run rb D L st h1 nx1) (z1 : IsSc rb h1 nx1 sp s)
  (hck : ck = .sl cs 2 7 .any) (hcs : IsEs cs [a, b]) (f0 : T.get (K 0) tm = some (.ptr rb 0)) (f1 : T.get (K 1) tm = some (SA fn)) (f2 : T.get (K 2) tm = some sp) (f3 : T.get (K 3) tm = some (.cref ([I k, .str na nb, I n, cn, cb, ck, I at_] ++ t))) (f8 : T.get (K 8) tm = some (.ptr nx 0))
  (hname : (na, nb) = (1, 43) ∨ (na, nb) = (1, 45) ∨ (na, nb) = (1, 42) ∨ (na, nb) = (1, 60) ∨ (na, nb) = (2, 15676) ∨ (na, nb) = (2, 15677) ∨ (na, nb) = (2, 15649)) :
  wpO C (seqPost (wpC C opTail (BodyP [.cell (K 8) true 5] (Ends rb D L h nx (opF rec_ fn s (.mk k (na, nb) n names binds [a, b] at_) st)))) (BodyP [.cell (K 8) true 5] (Ends rb D L h nx (opF rec_ fn s (.mk k (na, nb) n names binds [a, b] at_) st)))) ybi_r20 tm h1 nx1 := by
 have hs' : ∀ n h, frzA n sp h = (sp, h) := z1.stb
 have s1 := Key.toNat_succ nx
 have t1 := F1.n
 subst hck
 have hcl : cs.length = 14 := by have := hcs.hc; simpa using this
 have hop : opF rec_ fn s (.mk k (na, nb) n names binds [a, b] at_) st = (match rec_ fn s a st with
   | .stop c st => .stop c st
   | .ok x st => match rec_ fn s b st with
    | .stop c st => .stop c st
    | .ok y st =>
     if (na, nb) = (2, 15677) then boolR (x.cmp y == 0) st
     else if (na, nb) = (2, 15649) then boolR (!(x.cmp y == 0)) st
     else if x.k = 0 ∧ y.k = 0 then
      (if (na, nb) = (1, 43) then numR (wrapF .i64 (x.n + y.n)) st
      else if (na, nb) = (1, 45) then numR (wrapF .i64 (x.n - y.n)) st
      else if (na, nb) = (1, 42) then numR (wrapF .i64 (x.n * y.n)) st
      else if (na, nb) = (1, 60) then boolR (decide (x.n < y.n)) st
      else boolR (!(decide (y.n < x.n))) st)
     else .stop 9 st) := by
  rcases hname with hh | hh | hh | hh | hh | hh | hh <;> simp only [Prod.mk.injEq] at hh <;> obtain ⟨rfl, rfl⟩ := hh <;> rfl
 rw [hop]
 simp [opTail]
 simp [ybi_r20, f0, f1, f2, f3, hcl, S.raw, hs']
 obtain ⟨ca, ga⟩ := HE fn s a st sp (.cref (List.take 7 cs)) h1 nx1 hc r1 z1 (by simpa using IsP.at (rb := rb) (h := h1) (nx := nx1) hcs (i := 0) (by simp))
 refine ca.mono ?_
 rintro o h2 nx2 ⟨f2', hR⟩
 have t2 := f2'.n
 have F2 := F1.trans f2'
 have s2 := Key.toNat_succ nx2
 cases hrec : rec_ fn s a st with
 | stop c st' =>
  rw [hrec] at hR
  obtain ⟨rfl, hR⟩ := hR
  simp [stopO]
  exact stop_ok F2.down hR
 | ok x st' =>
  rw [hrec] at hR
  obtain ⟨⟨c1, hK1, rfl⟩, hR⟩ := hR
  have hg := (ga x st' hrec).c
  have hcc := IsK.cell hK1
  have hcx : ∀ n h, frzA n c1 h = (c1, h) := IsK.stb hK1
  simp [hcc]
  have E2 := E0 h2 nx2 (.cells [I x.k, I x.n, .str x.a x.b, c1] .fix)
  have F3 := F2.trans (Fr.ext E2)
  have z3 := (z1.mono f2').mono (Fr.ext (rb := rb) E2)
  have r3 := hR.ext E2
  simp [ybi_r21, f0, f1, f2, f3, hcl, S.raw, hs']
  obtain ⟨cb', gb⟩ := HE fn s b st' sp (.cref (List.take 7 (List.drop 7 cs))) _ nx2.succ (by omega) r3 z3 (by simpa using IsP.at (rb := rb) (h := (T.set nx2 (some (Blk.cells [I x.k, I x.n, .str x.a x.b, c1] .fix)) h2)) (nx := nx2.succ) hcs (i := 1) (by simp))
  refine cb'.mono ?_
  rintro o h4 nx4 ⟨f4', hR⟩
  have t4 := f4'.n
  have F4 := F3.trans f4'
  have s4 := Key.toNat_succ nx4
  have low2 : rb.toNat < nx2.toNat := by omega
  have w2 := f4'.res low2
  cases hrec2 : rec_ fn s b st' with
  | stop c st2 =>
   rw [hrec2] at hR
   obtain ⟨rfl, hR⟩ := hR
   simp [stopO, hrec2]
   exact stop_ok F4.down hR
  | ok y st2 =>
   rw [hrec2] at hR
   obtain ⟨⟨c2, hK2, rfl⟩, hR⟩ := hR
   have hcc2 := IsK.cell hK2
   have hcy : ∀ n h, frzA n c2 h = (c2, h) := IsK.stb hK2
   simp [hcc2, hrec2]
   have E4 := E0 h4 nx4 (.cells [I y.k, I y.n, .str y.a y.b, c2] .fix)
   have F5 := F4.trans (Fr.ext E4)
   have r5 := hR.ext E4
   clear hR
   have hR := r5
   have w5 : T.get nx2 (T.set nx4 (some (Blk.cells [I y.k, I y.n, .str y.a y.b, c2] .fix)) h4) = some (.cells [I x.k, I x.n, .str x.a x.b, c1] .fix) := by rw [get_lt (by omega)]; exact w2
   simp [ybi_r22, f3]
   rcases hname with hh | hh | hh | hh | hh | hh | hh <;> simp only [Prod.mk.injEq] at hh <;> obtain ⟨rfl, rfl⟩ := hh
   ·simp [ybi_r23, ybi_r25]
    by_cases kx : x.k = 0
    ·by_cases ky : y.k = 0
     ·rw [if_pos (And.intro kx ky)]
      have kx' : (x.k == 0) = true := by simpa using kx
      have ky' : (y.k == 0) = true := by simpa using ky
      simp [ybi_r27, w5, kx', ky', S.raw]
      refine (need_ok S _ _ _).mono ?_
      rintro o h6 nx6 ⟨rfl, e6⟩
      have t6 := e6.n
      have F6 := F5.trans (Fr.ext e6)
      have hR := hR.ext e6
      have u1 := (e6.g nx2 (by omega)).trans w5
      have u2 := e6.g nx4 (by omega)
      simp at u2
      simp
      simp [ybi_r28, f3]
      simp [ybi_r29, ybi_r30, u1, u2, S.raw]
      refine (number_ok S _ _ _).mono ?_
      rintro o h7 nx7 ⟨⟨c3, hK3, rfl⟩, e7⟩
      have F7 := F6.trans (Fr.ext e7)
      have q7 := F7.res low
      have hcc3 := IsK.cell hK3
      have hc3 : ∀ n h, frzA n c3 h = (c3, h) := IsK.stb hK3
      simp [q7, f8, hcc3, hc3]
      exact fin_ok F7 low (hR.ext e7) hK3
     ·rw [if_neg (fun hh : x.k = 0 ∧ y.k = 0 => ky hh.2)]
      have kx' : (x.k == 0) = true := by simpa using kx
      have ky' : (y.k == 0) = false := by simpa using ky
      simp [ybi_r27, w5, kx', ky', S.raw]
      refine (need_ok S _ _ _).mono ?_
      rintro o h6 nx6 ⟨rfl, e6⟩
      simp [stopO]
      exact stop_ok (F5.trans (Fr.ext e6)).down (hR.ext e6)
    ·rw [if_neg (fun hh : x.k = 0 ∧ y.k = 0 => kx hh.1)]
     have kx' : (x.k == 0) = false := by simpa using kx
     simp [ybi_r27, w5, kx', S.raw]
     refine (need_ok S _ _ _).mono ?_
     rintro o h6 nx6 ⟨rfl, e6⟩
     simp [stopO]
     exact stop_ok (F5.trans (Fr.ext e6)).down (hR.ext e6)
   ·simp [ybi_r23, ybi_r25]
    by_cases kx : x.k = 0
    ·by_cases ky : y.k = 0
     ·rw [if_pos (And.intro kx ky)]
      have kx' : (x.k == 0) = true := by simpa using kx
      have ky' : (y.k == 0) = true := by simpa using ky
      simp [ybi_r27, w5, kx', ky', S.raw]
      refine (need_ok S _ _ _).mono ?_
      rintro o h6 nx6 ⟨rfl, e6⟩
      have t6 := e6.n
      have F6 := F5.trans (Fr.ext e6)
      have hR := hR.ext e6
      have u1 := (e6.g nx2 (by omega)).trans w5
      have u2 := e6.g nx4 (by omega)
      simp at u2
      simp
      simp [ybi_r28, f3]
      simp [ybi_r29, ybi_r31, ybi_r32, u1, u2, S.raw]
      refine (number_ok S _ _ _).mono ?_
      rintro o h7 nx7 ⟨⟨c3, hK3, rfl⟩, e7⟩
      have F7 := F6.trans (Fr.ext e7)
      have q7 := F7.res low
      have hcc3 := IsK.cell hK3
      have hc3 : ∀ n h, frzA n c3 h = (c3, h) := IsK.stb hK3
      simp [q7, f8, hcc3, hc3]
      exact fin_ok F7 low (hR.ext e7) hK3
     ·rw [if_neg (fun hh : x.k = 0 ∧ y.k = 0 => ky hh.2)]
      have kx' : (x.k == 0) = true := by simpa using kx
      have ky' : (y.k == 0) = false := by simpa using ky
      simp [ybi_r27, w5, kx', ky', S.raw]
      refine (need_ok S _ _ _).mono ?_
      rintro o h6 nx6 ⟨rfl, e6⟩
      simp [stopO]
      exact stop_ok (F5.trans (Fr.ext e6)).down (hR.ext e6)
    ·rw [if_neg (fun hh : x.k = 0 ∧ y.k = 0 => kx hh.1)]
     have kx' : (x.k == 0) = false := by simpa using kx
     simp [ybi_r27, w5, kx', S.raw]
     refine (need_ok S _ _ _).mono ?_
     rintro o h6 nx6 ⟨rfl, e6⟩
     simp [stopO]
     exact stop_ok (F5.trans (Fr.ext e6)).down (hR.ext e6)
   ·simp [ybi_r23, ybi_r25]
    by_cases kx : x.k = 0
    ·by_cases ky : y.k = 0
     ·rw [if_pos (And.intro kx ky)]
      have kx' : (x.k == 0) = true := by simpa using kx
      have ky' : (y.k == 0) = true := by simpa using ky
      simp [ybi_r27, w5, kx', ky', S.raw]
      refine (need_ok S _ _ _).mono ?_
      rintro o h6 nx6 ⟨rfl, e6⟩
      have t6 := e6.n
      have F6 := F5.trans (Fr.ext e6)
      have hR := hR.ext e6
      have u1 := (e6.g nx2 (by omega)).trans w5
      have u2 := e6.g nx4 (by omega)
      simp at u2
      simp
      simp [ybi_r28, f3]
      simp [ybi_r29, ybi_r31, ybi_r33, ybi_r34, u1, u2, S.raw]
      refine (number_ok S _ _ _).mono ?_
      rintro o h7 nx7 ⟨⟨c3, hK3, rfl⟩, e7⟩
      have F7 := F6.trans (Fr.ext e7)
      have q7 := F7.res low
      have hcc3 := IsK.cell hK3
      have hc3 : ∀ n h, frzA n c3 h = (c3, h) := IsK.stb hK3
      simp [q7, f8, hcc3, hc3]
      exact fin_ok F7 low (hR.ext e7) hK3
     ·rw [if_neg (fun hh : x.k = 0 ∧ y.k = 0 => ky hh.2)]
      have kx' : (x.k == 0) = true := by simpa using kx
      have ky' : (y.k == 0) = false := by simpa using ky
      simp [ybi_r27, w5, kx', ky', S.raw]
      refine (need_ok S _ _ _).mono ?_
      rintro o h6 nx6 ⟨rfl, e6⟩
      simp [stopO]
      exact stop_ok (F5.trans (Fr.ext e6)).down (hR.ext e6)
    ·rw [if_neg (fun hh : x.k = 0 ∧ y.k = 0 => kx hh.1)]
     have kx' : (x.k == 0) = false := by simpa using kx
     simp [ybi_r27, w5, kx', S.raw]
     refine (need_ok S _ _ _).mono ?_
     rintro o h6 nx6 ⟨rfl, e6⟩
     simp [stopO]
     exact stop_ok (F5.trans (Fr.ext e6)).down (hR.ext e6)
   ·simp [ybi_r23, ybi_r25]
    by_cases kx : x.k = 0
    ·by_cases ky : y.k = 0
     ·rw [if_pos (And.intro kx ky)]
      have kx' : (x.k == 0) = true := by simpa using kx
      have ky' : (y.k == 0) = true := by simpa using ky
      simp [ybi_r27, w5, kx', ky', S.raw]
      refine (need_ok S _ _ _).mono ?_
      rintro o h6 nx6 ⟨rfl, e6⟩
      have t6 := e6.n
      have F6 := F5.trans (Fr.ext e6)
      have hR := hR.ext e6
      have u1 := (e6.g nx2 (by omega)).trans w5
      have u2 := e6.g nx4 (by omega)
      simp at u2
      simp
      simp [ybi_r28, f3]
      simp [ybi_r29, ybi_r31, ybi_r33, ybi_r35, ybi_r36, u1, u2, S.raw]
      refine (truth_ok S _ _ _).mono ?_
      rintro o h7 nx7 ⟨⟨c3, hK3, rfl⟩, e7⟩
      have F7 := F6.trans (Fr.ext e7)
      have q7 := F7.res low
      have hcc3 := IsK.cell hK3
      have hc3 : ∀ n h, frzA n c3 h = (c3, h) := IsK.stb hK3
      simp [q7, f8, hcc3, hc3]
      exact fin_ok F7 low (hR.ext e7) hK3
     ·rw [if_neg (fun hh : x.k = 0 ∧ y.k = 0 => ky hh.2)]
      have kx' : (x.k == 0) = true := by simpa using kx
      have ky' : (y.k == 0) = false := by simpa using ky
      simp [ybi_r27, w5, kx', ky', S.raw]
      refine (need_ok S _ _ _).mono ?_
      rintro o h6 nx6 ⟨rfl, e6⟩
      simp [stopO]
      exact stop_ok (F5.trans (Fr.ext e6)).down (hR.ext e6)
    ·rw [if_neg (fun hh : x.k = 0 ∧ y.k = 0 => kx hh.1)]
     have kx' : (x.k == 0) = false := by simpa using kx
     simp [ybi_r27, w5, kx', S.raw]
     refine (need_ok S _ _ _).mono ?_
     rintro o h6 nx6 ⟨rfl, e6⟩
     simp [stopO]
     exact stop_ok (F5.trans (Fr.ext e6)).down (hR.ext e6)
   ·simp [ybi_r23, ybi_r25]
    by_cases kx : x.k = 0
    ·by_cases ky : y.k = 0
     ·rw [if_pos (And.intro kx ky)]
      have kx' : (x.k == 0) = true := by simpa using kx
      have ky' : (y.k == 0) = true := by simpa using ky
      simp [ybi_r27, w5, kx', ky', S.raw]
      refine (need_ok S _ _ _).mono ?_
      rintro o h6 nx6 ⟨rfl, e6⟩
      have t6 := e6.n
      have F6 := F5.trans (Fr.ext e6)
      have hR := hR.ext e6
      have u1 := (e6.g nx2 (by omega)).trans w5
      have u2 := e6.g nx4 (by omega)
      simp at u2
      simp
      simp [ybi_r28, f3]
      simp [ybi_r29, ybi_r31, ybi_r33, ybi_r35, ybi_r37, u1, u2, S.raw]
      refine (truth_ok S _ _ _).mono ?_
      rintro o h7 nx7 ⟨⟨c3, hK3, rfl⟩, e7⟩
      have F7 := F6.trans (Fr.ext e7)
      have q7 := F7.res low
      have hcc3 := IsK.cell hK3
      have hc3 : ∀ n h, frzA n c3 h = (c3, h) := IsK.stb hK3
      simp [q7, f8, hcc3, hc3]
      exact fin_ok F7 low (hR.ext e7) hK3
     ·rw [if_neg (fun hh : x.k = 0 ∧ y.k = 0 => ky hh.2)]
      have kx' : (x.k == 0) = true := by simpa using kx
      have ky' : (y.k == 0) = false := by simpa using ky
      simp [ybi_r27, w5, kx', ky', S.raw]
      refine (need_ok S _ _ _).mono ?_
      rintro o h6 nx6 ⟨rfl, e6⟩
      simp [stopO]
      exact stop_ok (F5.trans (Fr.ext e6)).down (hR.ext e6)
    ·rw [if_neg (fun hh : x.k = 0 ∧ y.k = 0 => kx hh.1)]
     have kx' : (x.k == 0) = false := by simpa using kx
     simp [ybi_r27, w5, kx', S.raw]
     refine (need_ok S _ _ _).mono ?_
     rintro o h6 nx6 ⟨rfl, e6⟩
     simp [stopO]
     exact stop_ok (F5.trans (Fr.ext e6)).down (hR.ext e6)
   ·simp [ybi_r23, ybi_r24, w5, S.raw, hcx, hcy]
    refine (compare_ok S (IsV.ofV hK1) (IsV.ofV hK2) _ _).mono ?_
    rintro o h6 nx6 ⟨rfl, e6⟩
    have F6 := F5.trans (Fr.ext e6)
    have hR := hR.ext e6
    simp [S.raw]
    refine (truth_ok S _ _ _).mono ?_
    rintro o h7 nx7 ⟨⟨c3, hK3, rfl⟩, e7⟩
    have F7 := F6.trans (Fr.ext e7)
    have q7 := F7.res low
    have hcc3 := IsK.cell hK3
    have hc3 : ∀ n h, frzA n c3 h = (c3, h) := IsK.stb hK3
    simp [q7, f8, hcc3, hc3]
    exact fin_ok F7 low (hR.ext e7) hK3
   ·simp [ybi_r23, ybi_r25, ybi_r26, w5, S.raw, hcx, hcy]
    refine (compare_ok S (IsV.ofV hK1) (IsV.ofV hK2) _ _).mono ?_
    rintro o h6 nx6 ⟨rfl, e6⟩
    have F6 := F5.trans (Fr.ext e6)
    have hR := hR.ext e6
    simp [S.raw]
    refine (truth_ok S _ _ _).mono ?_
    rintro o h7 nx7 ⟨⟨c3, hK3, rfl⟩, e7⟩
    have F7 := F6.trans (Fr.ext e7)
    have q7 := F7.res low
    have hcc3 := IsK.cell hK3
    have hc3 : ∀ n h, frzA n c3 h = (c3, h) := IsK.stb hK3
    simp [q7, f8, hcc3, hc3]
    exact fin_ok F7 low (hR.ext e7) hK3
theorem op_need_c {fn : Go.Sx.S} {s : Sc} {k : Int} {na nb : Nat} {n : Int} {names : List Go.Sx.S} {binds : List (List Go.Sx.S)} {at_ : Int} {st : St} {sp cn cb ck : AV} {h : T Blk} {nx : Key} {t : List AV} {kids : List E} {tm : T AV} (hc : c0 ≤ st.cf) (low : rb.toNat < nx.toNat) (r0 : Run rb D L st (T.set nx (some Zb) h) nx.succ) (z0 : IsSc rb (T.set nx (some Zb) h) nx.succ sp s)
  (hk : IsEK ck kids) (f0 : T.get (K 0) tm = some (.ptr rb 0)) (f1 : T.get (K 1) tm = some (SA fn)) (f2 : T.get (K 2) tm = some sp) (f3 : T.get (K 3) tm = some (.cref ([I k, .str na nb, I n, cn, cb, ck, I at_] ++ t))) (f8 : T.get (K 8) tm = some (.ptr nx 0))
  (hname : (na, nb) = (1, 43) ∨ (na, nb) = (1, 45) ∨ (na, nb) = (1, 42) ∨ (na, nb) = (1, 60) ∨ (na, nb) = (2, 15676) ∨ (na, nb) = (2, 15677) ∨ (na, nb) = (2, 15649)) :
  wpO C (blockPost 0 (seqPost (wpC C (.seq (.ops ybi_r20) opTail) (BodyP [.cell (K 8) true 5] (Ends rb D L h nx (opF rec_ fn s (.mk k (na, nb) n names binds kids at_) st)))) (BodyP [.cell (K 8) true 5] (Ends rb D L h nx (opF rec_ fn s (.mk k (na, nb) n names binds kids at_) st))))) ybi_r18 tm (T.set nx (some Zb) h) nx.succ := by
 have s1 := Key.toNat_succ nx
 have F0 : Fr rb (T.set nx (some Zb) h) nx.succ (T.set nx (some Zb) h) nx.succ := Fr.refl _ _ _
 have hbad : kids.length ≠ 2 → opF rec_ fn s (.mk k (na, nb) n names binds kids at_) st = .stop 9 st := by
  intro hl
  rcases kids with _ | ⟨a, _ | ⟨b, _ | ⟨c, kids⟩⟩⟩
  all_goals first | (exfalso; exact hl rfl) | skip
  all_goals rcases hname with hh | hh | hh | hh | hh | hh | hh <;> simp only [Prod.mk.injEq] at hh <;> obtain ⟨rfl, rfl⟩ := hh <;> rfl
 rcases hk with ⟨rfl, rfl⟩ | ⟨cs, rfl, hel, hcs⟩
 ·have hop := hbad (by simp)
  simp [ybi_r18, f3, S.raw]
  refine (need_ok S _ _ _).mono ?_
  rintro o h1 nx1 ⟨rfl, e1⟩
  have t1 := e1.n
  have r1 := r0.ext e1
  have F1 := F0.trans (Fr.ext e1)
  have z1 := z0.mono (Fr.ext e1)
  simp [hop, stopO]
  exact stop_ok F1.down r1
 ·by_cases hl2 : kids.length = 2
  ·rcases kids with _ | ⟨a, _ | ⟨b, _ | ⟨c, kids⟩⟩⟩ <;> simp at hl2
   simp [ybi_r18, f3, S.raw]
   refine (need_ok S _ _ _).mono ?_
   rintro o h1 nx1 ⟨rfl, e1⟩
   have t1 := e1.n
   have r1 := r0.ext e1
   have F1 := F0.trans (Fr.ext e1)
   have z1 := z0.mono (Fr.ext e1)
   simp
   refine op_tail_c S HE (na := na) (nb := nb) (cn := cn) (cb := cb) (t := t) hc low F1 r1 z1 rfl hcs ?_ ?_ ?_ ?_ ?_ hname <;> simp [f0, f1, f2, f3, f8]
  ·have hop := hbad hl2
   have hl3 : ((kids.length : Int) == 2) = false := by simp; omega
   simp [ybi_r18, f3, hl3, S.raw]
   refine (need_ok S _ _ _).mono ?_
   rintro o h1 nx1 ⟨rfl, e1⟩
   have t1 := e1.n
   have r1 := r0.ext e1
   have F1 := F0.trans (Fr.ext e1)
   have z1 := z0.mono (Fr.ext e1)
   simp [hop, stopO]
   exact stop_ok F1.down r1
theorem op_c {fn : Go.Sx.S} {s : Sc} {k : Int} {na nb : Nat} {n : Int} {names : List Go.Sx.S} {binds : List (List Go.Sx.S)} {at_ : Int} {st : St} {sp cn cb ck : AV} {h : T Blk} {nx : Key} {t : List AV} {kids : List E} (hc : c0 ≤ st.cf) (hr : Run rb D L st h nx) (hs : IsSc rb h nx sp s)
  (hk : IsEK ck kids) : CallA C n_ybi [.ptr rb 0, SA fn, sp, .cref ([I k, .str na nb, I n, cn, cb, ck, I at_] ++ t)] h nx (Ends rb D L h nx (opF rec_ fn s (.mk k (na, nb) n names binds kids at_) st)) := by
 have hs' : ∀ n h, frzA n sp h = (sp, h) := hs.stb
 have low := hr.low
 have s1 := Key.toNat_succ nx
 have r0 := hr.ext (E0 h nx Zb)
 have F0 : Fr rb (T.set nx (some Zb) h) nx.succ (T.set nx (some Zb) h) nx.succ := Fr.refl _ _ _
 have z0 := hs.mono (Fr.ext (rb := rb) (E0 h nx Zb))
 refine S.c_ybi.call ?_
 simp [ybi]
 simp [ybi_r0]
 simp [ybi_r1]
 by_cases n1 : na = 3 ∧ nb = 7630702
 ·obtain ⟨rfl, rfl⟩ := n1
  simp [ybi_r2]
  rcases hk with ⟨rfl, rfl⟩ | ⟨cs, rfl, hel, hcs⟩
  ·simp [ybi_r3, S.raw]
   refine (need_ok S _ _ _).mono ?_
   rintro o h1 nx1 ⟨rfl, e1⟩
   have t1 := e1.n
   have r1 := r0.ext e1
   have F1 := F0.trans (Fr.ext e1)
   have z1 := z0.mono (Fr.ext e1)
   simp [opF, stopO]
   exact stop_ok F1.down r1
  ·rcases kids with _ | ⟨a, _ | ⟨b, kids⟩⟩
   ·simp [ybi_r3, S.raw]
    refine (need_ok S _ _ _).mono ?_
    rintro o h1 nx1 ⟨rfl, e1⟩
    have t1 := e1.n
    have r1 := r0.ext e1
    have F1 := F0.trans (Fr.ext e1)
    have z1 := z0.mono (Fr.ext e1)
    simp [opF, stopO]
    exact stop_ok F1.down r1
   ·have hcl : cs.length = 7 := by have := hcs.hc; simpa using this
    simp [ybi_r3, S.raw]
    refine (need_ok S _ _ _).mono ?_
    rintro o h1 nx1 ⟨rfl, e1⟩
    have t1 := e1.n
    have r1 := r0.ext e1
    have F1 := F0.trans (Fr.ext e1)
    have z1 := z0.mono (Fr.ext e1)
    simp
    simp [ybi_r4, S.raw, hs', hcl]
    refine (rtruth_ok S HE (e := a) (ep := .cref (List.take 7 cs)) hc r1 z1 (by simpa using IsP.at (rb := rb) (h := h1) (nx := nx1) hcs (i := 0) (by simp))).mono ?_
    rintro o h2 nx2 ⟨f2, hR⟩
    have F2 := F1.trans f2
    cases hrec : rec_ fn s a st with
    | stop c st' =>
     rw [hrec] at hR
     obtain ⟨rfl, hR⟩ := hR
     simp [stopO, opF, truthF, hrec]
     exact stop_ok F2.down hR
    | ok v st' =>
     rw [hrec] at hR
     obtain ⟨a1, a2, hR⟩ := hR
     by_cases hv : v.k = 1
     ·have ho := a1 hv
      subst ho
      simp [S.raw]
      refine (truth_ok S _ _ _).mono ?_
      rintro o h3 nx3 ⟨⟨c2, hK2, rfl⟩, e3⟩
      have F3 := F2.trans (Fr.ext e3)
      have q3 := F3.res low
      have hcc := IsK.cell hK2
      have hc2 : ∀ n h, frzA n c2 h = (c2, h) := IsK.stb hK2
      simp [q3, hcc, hc2]
      simp [opF, truthF, hrec, hv]
      exact fin_ok F3 low (hR.ext e3) hK2
     ·have ho := a2 hv
      subst ho
      simp [stopO, opF, truthF, hrec, hv]
      exact stop_ok F2.down hR
   ·simp [ybi_r3, S.raw]
    refine (need_ok S _ _ _).mono ?_
    rintro o h1 nx1 ⟨rfl, e1⟩
    have t1 := e1.n
    have r1 := r0.ext e1
    have F1 := F0.trans (Fr.ext e1)
    have z1 := z0.mono (Fr.ext e1)
    simp [opF, stopO]
    exact stop_ok F1.down r1
 ·have n1' : (decide (na = 3) && decide (nb = 7630702)) = false := by simpa using n1
  simp [ybi_r2, n1']
  by_cases nA : na = 3 ∧ nb = 6581857
  ·obtain ⟨rfl, rfl⟩ := nA
   simp [ybi_r5]
   rcases hk with ⟨rfl, rfl⟩ | ⟨cs, rfl, hel, hcs⟩
   ·simp [ybi_r7, S.raw]
    refine (need_ok S _ _ _).mono ?_
    rintro o h1 nx1 ⟨rfl, e1⟩
    have t1 := e1.n
    have r1 := r0.ext e1
    have F1 := F0.trans (Fr.ext e1)
    have z1 := z0.mono (Fr.ext e1)
    simp [opF, stopO]
    exact stop_ok F1.down r1
   ·rcases kids with _ | ⟨a, _ | ⟨b, _ | ⟨c, kids⟩⟩⟩
    ·simp [ybi_r7, S.raw]
     refine (need_ok S _ _ _).mono ?_
     rintro o h1 nx1 ⟨rfl, e1⟩
     have t1 := e1.n
     have r1 := r0.ext e1
     have F1 := F0.trans (Fr.ext e1)
     have z1 := z0.mono (Fr.ext e1)
     simp [opF, stopO]
     exact stop_ok F1.down r1
    ·simp [ybi_r7, S.raw]
     refine (need_ok S _ _ _).mono ?_
     rintro o h1 nx1 ⟨rfl, e1⟩
     have t1 := e1.n
     have r1 := r0.ext e1
     have F1 := F0.trans (Fr.ext e1)
     have z1 := z0.mono (Fr.ext e1)
     simp [opF, stopO]
     exact stop_ok F1.down r1
    ·have hcl : cs.length = 14 := by have := hcs.hc; simpa using this
     simp [ybi_r7, S.raw]
     refine (need_ok S _ _ _).mono ?_
     rintro o h1 nx1 ⟨rfl, e1⟩
     have t1 := e1.n
     have r1 := r0.ext e1
     have F1 := F0.trans (Fr.ext e1)
     have z1 := z0.mono (Fr.ext e1)
     simp
     simp [ybi_r8, S.raw, hs', hcl]
     obtain ⟨_, ga⟩ := HE fn s a st sp (.cref (List.take 7 cs)) h1 nx1 hc r1 z1 (by simpa using IsP.at (rb := rb) (h := h1) (nx := nx1) hcs (i := 0) (by simp))
     refine (rtruth_ok S HE (e := a) (ep := .cref (List.take 7 cs)) hc r1 z1 (by simpa using IsP.at (rb := rb) (h := h1) (nx := nx1) hcs (i := 0) (by simp))).mono ?_
     rintro o h2 nx2 ⟨f2, hR⟩
     have t2 := f2.n
     have F2 := F1.trans f2
     cases hrec : rec_ fn s a st with
     | stop c st' =>
      rw [hrec] at hR
      obtain ⟨rfl, hR⟩ := hR
      simp [stopO, opF, truthF, hrec]
      exact stop_ok F2.down hR
     | ok v st' =>
      rw [hrec] at hR
      obtain ⟨a1, a2, hR⟩ := hR
      have hg := (ga v st' hrec).c
      by_cases hv : v.k = 1
      ·have ho := a1 hv
       subst ho
       cases ht : (v.n == 1) with
       | false =>
        simp [AV.beq]
        simp [ybi_r9, S.raw]
        refine (truth_ok S _ _ _).mono ?_
        rintro o h3 nx3 ⟨⟨c2, hK2, rfl⟩, e3⟩
        have F3 := F2.trans (Fr.ext e3)
        have q3 := F3.res low
        have hcc := IsK.cell hK2
        have hc2 : ∀ n h, frzA n c2 h = (c2, h) := IsK.stb hK2
        simp [q3, hcc, hc2]
        simp [opF, truthF, hrec, hv, ht]
        exact fin_ok F3 low (hR.ext e3) hK2
       | true =>
        simp [AV.beq]
        simp [ybi_r10, S.raw, hs', hcl]
        refine (rtruth_ok S HE (e := b) (ep := .cref (List.take 7 (List.drop 7 cs))) (by omega) hR (z1.mono f2) (by simpa using IsP.at (rb := rb) (h := h2) (nx := nx2) hcs (i := 1) (by simp))).mono ?_
        rintro o h3 nx3 ⟨f3, hR3⟩
        have F3 := F2.trans f3
        cases hrec3 : rec_ fn s b st' with
        | stop c st3 =>
         rw [hrec3] at hR3
         obtain ⟨rfl, hR3⟩ := hR3
         simp [stopO, opF, truthF, hrec, hv, ht, hrec3]
         exact stop_ok F3.down hR3
        | ok v3 st3 =>
         rw [hrec3] at hR3
         obtain ⟨b1, b2, hR⟩ := hR3
         by_cases hv3 : v3.k = 1
         ·have ho := b1 hv3
          subst ho
          simp [S.raw]
          refine (truth_ok S _ _ _).mono ?_
          rintro o h4 nx4 ⟨⟨c2, hK2, rfl⟩, e4⟩
          have F4 := F3.trans (Fr.ext e4)
          have q4 := F4.res low
          have hcc := IsK.cell hK2
          have hc2 : ∀ n h, frzA n c2 h = (c2, h) := IsK.stb hK2
          simp [q4, hcc, hc2]
          simp [opF, truthF, hrec, hv, ht, hrec3, hv3]
          exact fin_ok F4 low (hR.ext e4) hK2
         ·have ho := b2 hv3
          subst ho
          simp [stopO, opF, truthF, hrec, hv, ht, hrec3, hv3]
          exact stop_ok F3.down hR
      ·have ho := a2 hv
       subst ho
       simp [stopO, opF, truthF, hrec, hv]
       exact stop_ok F2.down hR
    ·simp [ybi_r7, S.raw]
     refine (need_ok S _ _ _).mono ?_
     rintro o h1 nx1 ⟨rfl, e1⟩
     have t1 := e1.n
     have r1 := r0.ext e1
     have F1 := F0.trans (Fr.ext e1)
     have z1 := z0.mono (Fr.ext e1)
     simp [opF, stopO]
     exact stop_ok F1.down r1
  ·have nA' : (decide (na = 3) && decide (nb = 6581857)) = false := by simpa using nA
   by_cases nO : na = 2 ∧ nb = 29295
   ·obtain ⟨rfl, rfl⟩ := nO
    simp [ybi_r5, ybi_r6]
    rcases hk with ⟨rfl, rfl⟩ | ⟨cs, rfl, hel, hcs⟩
    ·simp [ybi_r7, S.raw]
     refine (need_ok S _ _ _).mono ?_
     rintro o h1 nx1 ⟨rfl, e1⟩
     have t1 := e1.n
     have r1 := r0.ext e1
     have F1 := F0.trans (Fr.ext e1)
     have z1 := z0.mono (Fr.ext e1)
     simp [opF, stopO]
     exact stop_ok F1.down r1
    ·rcases kids with _ | ⟨a, _ | ⟨b, _ | ⟨c, kids⟩⟩⟩
     ·simp [ybi_r7, S.raw]
      refine (need_ok S _ _ _).mono ?_
      rintro o h1 nx1 ⟨rfl, e1⟩
      have t1 := e1.n
      have r1 := r0.ext e1
      have F1 := F0.trans (Fr.ext e1)
      have z1 := z0.mono (Fr.ext e1)
      simp [opF, stopO]
      exact stop_ok F1.down r1
     ·simp [ybi_r7, S.raw]
      refine (need_ok S _ _ _).mono ?_
      rintro o h1 nx1 ⟨rfl, e1⟩
      have t1 := e1.n
      have r1 := r0.ext e1
      have F1 := F0.trans (Fr.ext e1)
      have z1 := z0.mono (Fr.ext e1)
      simp [opF, stopO]
      exact stop_ok F1.down r1
     ·have hcl : cs.length = 14 := by have := hcs.hc; simpa using this
      simp [ybi_r7, S.raw]
      refine (need_ok S _ _ _).mono ?_
      rintro o h1 nx1 ⟨rfl, e1⟩
      have t1 := e1.n
      have r1 := r0.ext e1
      have F1 := F0.trans (Fr.ext e1)
      have z1 := z0.mono (Fr.ext e1)
      simp
      simp [ybi_r8, S.raw, hs', hcl]
      obtain ⟨_, ga⟩ := HE fn s a st sp (.cref (List.take 7 cs)) h1 nx1 hc r1 z1 (by simpa using IsP.at (rb := rb) (h := h1) (nx := nx1) hcs (i := 0) (by simp))
      refine (rtruth_ok S HE (e := a) (ep := .cref (List.take 7 cs)) hc r1 z1 (by simpa using IsP.at (rb := rb) (h := h1) (nx := nx1) hcs (i := 0) (by simp))).mono ?_
      rintro o h2 nx2 ⟨f2, hR⟩
      have t2 := f2.n
      have F2 := F1.trans f2
      cases hrec : rec_ fn s a st with
      | stop c st' =>
       rw [hrec] at hR
       obtain ⟨rfl, hR⟩ := hR
       simp [stopO, opF, truthF, hrec]
       exact stop_ok F2.down hR
      | ok v st' =>
       rw [hrec] at hR
       obtain ⟨a1, a2, hR⟩ := hR
       have hg := (ga v st' hrec).c
       by_cases hv : v.k = 1
       ·have ho := a1 hv
        subst ho
        cases ht : (v.n == 1) with
        | true =>
         simp [AV.beq]
         simp [ybi_r9, S.raw]
         refine (truth_ok S _ _ _).mono ?_
         rintro o h3 nx3 ⟨⟨c2, hK2, rfl⟩, e3⟩
         have F3 := F2.trans (Fr.ext e3)
         have q3 := F3.res low
         have hcc := IsK.cell hK2
         have hc2 : ∀ n h, frzA n c2 h = (c2, h) := IsK.stb hK2
         simp [q3, hcc, hc2]
         simp [opF, truthF, hrec, hv, ht]
         exact fin_ok F3 low (hR.ext e3) hK2
        | false =>
         simp [AV.beq]
         simp [ybi_r10, S.raw, hs', hcl]
         refine (rtruth_ok S HE (e := b) (ep := .cref (List.take 7 (List.drop 7 cs))) (by omega) hR (z1.mono f2) (by simpa using IsP.at (rb := rb) (h := h2) (nx := nx2) hcs (i := 1) (by simp))).mono ?_
         rintro o h3 nx3 ⟨f3, hR3⟩
         have F3 := F2.trans f3
         cases hrec3 : rec_ fn s b st' with
         | stop c st3 =>
          rw [hrec3] at hR3
          obtain ⟨rfl, hR3⟩ := hR3
          simp [stopO, opF, truthF, hrec, hv, ht, hrec3]
          exact stop_ok F3.down hR3
         | ok v3 st3 =>
          rw [hrec3] at hR3
          obtain ⟨b1, b2, hR⟩ := hR3
          by_cases hv3 : v3.k = 1
          ·have ho := b1 hv3
           subst ho
           simp [S.raw]
           refine (truth_ok S _ _ _).mono ?_
           rintro o h4 nx4 ⟨⟨c2, hK2, rfl⟩, e4⟩
           have F4 := F3.trans (Fr.ext e4)
           have q4 := F4.res low
           have hcc := IsK.cell hK2
           have hc2 : ∀ n h, frzA n c2 h = (c2, h) := IsK.stb hK2
           simp [q4, hcc, hc2]
           simp [opF, truthF, hrec, hv, ht, hrec3, hv3]
           exact fin_ok F4 low (hR.ext e4) hK2
          ·have ho := b2 hv3
           subst ho
           simp [stopO, opF, truthF, hrec, hv, ht, hrec3, hv3]
           exact stop_ok F3.down hR
       ·have ho := a2 hv
        subst ho
        simp [stopO, opF, truthF, hrec, hv]
        exact stop_ok F2.down hR
     ·simp [ybi_r7, S.raw]
      refine (need_ok S _ _ _).mono ?_
      rintro o h1 nx1 ⟨rfl, e1⟩
      have t1 := e1.n
      have r1 := r0.ext e1
      have F1 := F0.trans (Fr.ext e1)
      have z1 := z0.mono (Fr.ext e1)
      simp [opF, stopO]
      exact stop_ok F1.down r1
   ·have nO' : (decide (na = 2) && decide (nb = 29295)) = false := by simpa using nO
    by_cases nP : na = 1 ∧ nb = 43
    ·obtain ⟨rfl, rfl⟩ := nP
     simp [ybi_r5, ybi_r6, ybi_r11]
     refine op_need_c S HE (na := 1) (nb := 43) (cn := cn) (cb := cb) (t := t) hc low r0 z0 hk ?_ ?_ ?_ ?_ ?_ (by simp) <;> simp
    ·have nP' : (decide (na = 1) && decide (nb = 43)) = false := by simpa using nP
     by_cases nM : na = 1 ∧ nb = 45
     ·obtain ⟨rfl, rfl⟩ := nM
      simp [ybi_r5, ybi_r6, ybi_r11, ybi_r12]
      refine op_need_c S HE (na := 1) (nb := 45) (cn := cn) (cb := cb) (t := t) hc low r0 z0 hk ?_ ?_ ?_ ?_ ?_ (by simp) <;> simp
     ·have nM' : (decide (na = 1) && decide (nb = 45)) = false := by simpa using nM
      by_cases nT : na = 1 ∧ nb = 42
      ·obtain ⟨rfl, rfl⟩ := nT
       simp [ybi_r5, ybi_r6, ybi_r11, ybi_r12, ybi_r13]
       refine op_need_c S HE (na := 1) (nb := 42) (cn := cn) (cb := cb) (t := t) hc low r0 z0 hk ?_ ?_ ?_ ?_ ?_ (by simp) <;> simp
      ·have nT' : (decide (na = 1) && decide (nb = 42)) = false := by simpa using nT
       by_cases nL : na = 1 ∧ nb = 60
       ·obtain ⟨rfl, rfl⟩ := nL
        simp [ybi_r5, ybi_r6, ybi_r11, ybi_r12, ybi_r13, ybi_r14]
        refine op_need_c S HE (na := 1) (nb := 60) (cn := cn) (cb := cb) (t := t) hc low r0 z0 hk ?_ ?_ ?_ ?_ ?_ (by simp) <;> simp
       ·have nL' : (decide (na = 1) && decide (nb = 60)) = false := by simpa using nL
        by_cases nQ : na = 2 ∧ nb = 15676
        ·obtain ⟨rfl, rfl⟩ := nQ
         simp [ybi_r5, ybi_r6, ybi_r11, ybi_r12, ybi_r13, ybi_r14, ybi_r15]
         refine op_need_c S HE (na := 2) (nb := 15676) (cn := cn) (cb := cb) (t := t) hc low r0 z0 hk ?_ ?_ ?_ ?_ ?_ (by simp) <;> simp
        ·have nQ' : (decide (na = 2) && decide (nb = 15676)) = false := by simpa using nQ
         by_cases nE : na = 2 ∧ nb = 15677
         ·obtain ⟨rfl, rfl⟩ := nE
          simp [ybi_r5, ybi_r6, ybi_r11, ybi_r12, ybi_r13, ybi_r14, ybi_r15, ybi_r16]
          refine op_need_c S HE (na := 2) (nb := 15677) (cn := cn) (cb := cb) (t := t) hc low r0 z0 hk ?_ ?_ ?_ ?_ ?_ (by simp) <;> simp
         ·have nE' : (decide (na = 2) && decide (nb = 15677)) = false := by simpa using nE
          by_cases nN : na = 2 ∧ nb = 15649
          ·obtain ⟨rfl, rfl⟩ := nN
           simp [ybi_r5, ybi_r6, ybi_r11, ybi_r12, ybi_r13, ybi_r14, ybi_r15, ybi_r16, ybi_r17]
           refine op_need_c S HE (na := 2) (nb := 15649) (cn := cn) (cb := cb) (t := t) hc low r0 z0 hk ?_ ?_ ?_ ?_ ?_ (by simp) <;> simp
          ·have nN' : (decide (na = 2) && decide (nb = 15649)) = false := by simpa using nN
           simp [ybi_r5, ybi_r6, ybi_r11, ybi_r12, ybi_r13, ybi_r14, ybi_r15, ybi_r16, ybi_r17, nA', nO', nP', nM', nT', nL', nQ', nE', nN']
           simp [ybi_r19, S.raw]
           refine (end_ok S _ _ _).mono ?_
           rintro o h1 nx1 ⟨rfl, e1⟩
           have hop : opF rec_ fn s (.mk k (na, nb) n names binds kids at_) st = .stop 9 st := by
            simp [opF, n1, nA, nO, nP, nM, nT, nL, nQ, nE, nN]
           rw [hop]
           simp [stopO]
           exact stop_ok (F0.trans (Fr.ext e1)).down (r0.ext e1)
end Tz
/-
 SV: the evaluator's operators. No condition.
-/
namespace Tz
open Go.Sx Go
variable {C : Cfg} (S : Std C) {rb : Key} {D : RunB} {L : Lim} {rec_ : Rec} {c0 : Int} (HE : EvOK C rb D L rec_ c0)
include S HE
theorem op_tail_p {fn : Go.Sx.S} {s : Sc} {k : Int} {na nb : Nat} {n : Int} {names : List Go.Sx.S} {binds : List (List Go.Sx.S)} {at_ : Int} {st : St} {sp cn cb ck : AV} {h : T Blk} {nx : Key} {pb : Key} {a b : E} {cs : List AV} {tm : T AV} {h1 : T Blk} {nx1 : Key} (hc : c0 ≤ st.cf) (low : rb.toNat < nx.toNat) (F1 : Fr rb (T.set nx (some Zb) h) nx.succ h1 nx1) (r1 : Run rb D L st h1 nx1) (z1 : IsSc rb h1 nx1 sp s)
  (hck : ck = .sl cs 2 7 .any) (hcs : IsEs cs [a, b]) (hpb : pb.toNat < nx.toNat) (hpr : pb ≠ rb) (p1 : T.get pb h1 = some (.cells [I k, .str na nb, I n, cn, cb, ck, I at_] .fix)) (f0 : T.get (K 0) tm = some (.ptr rb 0)) (f1 : T.get (K 1) tm = some (SA fn)) (f2 : T.get (K 2) tm = some sp) (f3 : T.get (K 3) tm = some (.ptr pb 0)) (f8 : T.get (K 8) tm = some (.ptr nx 0))
  (hname : (na, nb) = (1, 43) ∨ (na, nb) = (1, 45) ∨ (na, nb) = (1, 42) ∨ (na, nb) = (1, 60) ∨ (na, nb) = (2, 15676) ∨ (na, nb) = (2, 15677) ∨ (na, nb) = (2, 15649)) :
  wpO C (seqPost (wpC C opTail (BodyP [.cell (K 8) true 5] (Ends rb D L h nx (opF rec_ fn s (.mk k (na, nb) n names binds [a, b] at_) st)))) (BodyP [.cell (K 8) true 5] (Ends rb D L h nx (opF rec_ fn s (.mk k (na, nb) n names binds [a, b] at_) st)))) ybi_r20 tm h1 nx1 := by
 have hs' : ∀ n h, frzA n sp h = (sp, h) := z1.stb
 have s1 := Key.toNat_succ nx
 have t1 := F1.n
 subst hck
 have hcl : cs.length = 14 := by have := hcs.hc; simpa using this
 have hop : opF rec_ fn s (.mk k (na, nb) n names binds [a, b] at_) st = (match rec_ fn s a st with
   | .stop c st => .stop c st
   | .ok x st => match rec_ fn s b st with
    | .stop c st => .stop c st
    | .ok y st =>
     if (na, nb) = (2, 15677) then boolR (x.cmp y == 0) st
     else if (na, nb) = (2, 15649) then boolR (!(x.cmp y == 0)) st
     else if x.k = 0 ∧ y.k = 0 then
      (if (na, nb) = (1, 43) then numR (wrapF .i64 (x.n + y.n)) st
      else if (na, nb) = (1, 45) then numR (wrapF .i64 (x.n - y.n)) st
      else if (na, nb) = (1, 42) then numR (wrapF .i64 (x.n * y.n)) st
      else if (na, nb) = (1, 60) then boolR (decide (x.n < y.n)) st
      else boolR (!(decide (y.n < x.n))) st)
     else .stop 9 st) := by
  rcases hname with hh | hh | hh | hh | hh | hh | hh <;> simp only [Prod.mk.injEq] at hh <;> obtain ⟨rfl, rfl⟩ := hh <;> rfl
 rw [hop]
 simp [opTail]
 simp [ybi_r20, f0, f1, f2, f3, hcl, S.raw, hs', p1]
 obtain ⟨ca, ga⟩ := HE fn s a st sp (.cref (List.take 7 cs)) h1 nx1 hc r1 z1 (by simpa using IsP.at (rb := rb) (h := h1) (nx := nx1) hcs (i := 0) (by simp))
 refine ca.mono ?_
 rintro o h2 nx2 ⟨f2', hR⟩
 have t2 := f2'.n
 have F2 := F1.trans f2'
 have s2 := Key.toNat_succ nx2
 cases hrec : rec_ fn s a st with
 | stop c st' =>
  rw [hrec] at hR
  obtain ⟨rfl, hR⟩ := hR
  simp [stopO]
  exact stop_ok F2.down hR
 | ok x st' =>
  rw [hrec] at hR
  obtain ⟨⟨c1, hK1, rfl⟩, hR⟩ := hR
  have hg := (ga x st' hrec).c
  have hcc := IsK.cell hK1
  have hcx : ∀ n h, frzA n c1 h = (c1, h) := IsK.stb hK1
  simp [hcc]
  have E2 := E0 h2 nx2 (.cells [I x.k, I x.n, .str x.a x.b, c1] .fix)
  have F3 := F2.trans (Fr.ext E2)
  have z3 := (z1.mono f2').mono (Fr.ext (rb := rb) E2)
  have r3 := hR.ext E2
  have p2 := (f2'.g pb (by omega) hpr (by rw [p1]; trivial)).trans p1
  have p3 := (E2.g pb (by omega)).trans p2
  simp [ybi_r21, f0, f1, f2, f3, hcl, S.raw, hs', p3]
  obtain ⟨cb', gb⟩ := HE fn s b st' sp (.cref (List.take 7 (List.drop 7 cs))) _ nx2.succ (by omega) r3 z3 (by simpa using IsP.at (rb := rb) (h := (T.set nx2 (some (Blk.cells [I x.k, I x.n, .str x.a x.b, c1] .fix)) h2)) (nx := nx2.succ) hcs (i := 1) (by simp))
  refine cb'.mono ?_
  rintro o h4 nx4 ⟨f4', hR⟩
  have t4 := f4'.n
  have F4 := F3.trans f4'
  have s4 := Key.toNat_succ nx4
  have low2 : rb.toNat < nx2.toNat := by omega
  have w2 := f4'.res low2
  cases hrec2 : rec_ fn s b st' with
  | stop c st2 =>
   rw [hrec2] at hR
   obtain ⟨rfl, hR⟩ := hR
   simp [stopO, hrec2]
   exact stop_ok F4.down hR
  | ok y st2 =>
   rw [hrec2] at hR
   obtain ⟨⟨c2, hK2, rfl⟩, hR⟩ := hR
   have hcc2 := IsK.cell hK2
   have hcy : ∀ n h, frzA n c2 h = (c2, h) := IsK.stb hK2
   simp [hcc2, hrec2]
   have E4 := E0 h4 nx4 (.cells [I y.k, I y.n, .str y.a y.b, c2] .fix)
   have F5 := F4.trans (Fr.ext E4)
   have r5 := hR.ext E4
   clear hR
   have hR := r5
   have w5 : T.get nx2 (T.set nx4 (some (Blk.cells [I y.k, I y.n, .str y.a y.b, c2] .fix)) h4) = some (.cells [I x.k, I x.n, .str x.a x.b, c1] .fix) := by rw [get_lt (by omega)]; exact w2
   have p4 := (f4'.g pb (by omega) hpr (by rw [p3]; trivial)).trans p3
   have p5 := (E4.g pb (by omega)).trans p4
   simp [ybi_r22, f3, p5]
   rcases hname with hh | hh | hh | hh | hh | hh | hh <;> simp only [Prod.mk.injEq] at hh <;> obtain ⟨rfl, rfl⟩ := hh
   ·simp [ybi_r23, ybi_r25]
    by_cases kx : x.k = 0
    ·by_cases ky : y.k = 0
     ·rw [if_pos (And.intro kx ky)]
      have kx' : (x.k == 0) = true := by simpa using kx
      have ky' : (y.k == 0) = true := by simpa using ky
      simp [ybi_r27, w5, kx', ky', S.raw]
      refine (need_ok S _ _ _).mono ?_
      rintro o h6 nx6 ⟨rfl, e6⟩
      have t6 := e6.n
      have F6 := F5.trans (Fr.ext e6)
      have hR := hR.ext e6
      have u1 := (e6.g nx2 (by omega)).trans w5
      have u2 := e6.g nx4 (by omega)
      simp at u2
      have p6 := (e6.g pb (by omega)).trans p5
      simp
      simp [ybi_r28, f3, p6]
      simp [ybi_r29, ybi_r30, u1, u2, S.raw]
      refine (number_ok S _ _ _).mono ?_
      rintro o h7 nx7 ⟨⟨c3, hK3, rfl⟩, e7⟩
      have F7 := F6.trans (Fr.ext e7)
      have q7 := F7.res low
      have hcc3 := IsK.cell hK3
      have hc3 : ∀ n h, frzA n c3 h = (c3, h) := IsK.stb hK3
      simp [q7, f8, hcc3, hc3]
      exact fin_ok F7 low (hR.ext e7) hK3
     ·rw [if_neg (fun hh : x.k = 0 ∧ y.k = 0 => ky hh.2)]
      have kx' : (x.k == 0) = true := by simpa using kx
      have ky' : (y.k == 0) = false := by simpa using ky
      simp [ybi_r27, w5, kx', ky', S.raw]
      refine (need_ok S _ _ _).mono ?_
      rintro o h6 nx6 ⟨rfl, e6⟩
      simp [stopO]
      exact stop_ok (F5.trans (Fr.ext e6)).down (hR.ext e6)
    ·rw [if_neg (fun hh : x.k = 0 ∧ y.k = 0 => kx hh.1)]
     have kx' : (x.k == 0) = false := by simpa using kx
     simp [ybi_r27, w5, kx', S.raw]
     refine (need_ok S _ _ _).mono ?_
     rintro o h6 nx6 ⟨rfl, e6⟩
     simp [stopO]
     exact stop_ok (F5.trans (Fr.ext e6)).down (hR.ext e6)
   ·simp [ybi_r23, ybi_r25]
    by_cases kx : x.k = 0
    ·by_cases ky : y.k = 0
     ·rw [if_pos (And.intro kx ky)]
      have kx' : (x.k == 0) = true := by simpa using kx
      have ky' : (y.k == 0) = true := by simpa using ky
      simp [ybi_r27, w5, kx', ky', S.raw]
      refine (need_ok S _ _ _).mono ?_
      rintro o h6 nx6 ⟨rfl, e6⟩
      have t6 := e6.n
      have F6 := F5.trans (Fr.ext e6)
      have hR := hR.ext e6
      have u1 := (e6.g nx2 (by omega)).trans w5
      have u2 := e6.g nx4 (by omega)
      simp at u2
      have p6 := (e6.g pb (by omega)).trans p5
      simp
      simp [ybi_r28, f3, p6]
      simp [ybi_r29, ybi_r31, ybi_r32, u1, u2, S.raw]
      refine (number_ok S _ _ _).mono ?_
      rintro o h7 nx7 ⟨⟨c3, hK3, rfl⟩, e7⟩
      have F7 := F6.trans (Fr.ext e7)
      have q7 := F7.res low
      have hcc3 := IsK.cell hK3
      have hc3 : ∀ n h, frzA n c3 h = (c3, h) := IsK.stb hK3
      simp [q7, f8, hcc3, hc3]
      exact fin_ok F7 low (hR.ext e7) hK3
     ·rw [if_neg (fun hh : x.k = 0 ∧ y.k = 0 => ky hh.2)]
      have kx' : (x.k == 0) = true := by simpa using kx
      have ky' : (y.k == 0) = false := by simpa using ky
      simp [ybi_r27, w5, kx', ky', S.raw]
      refine (need_ok S _ _ _).mono ?_
      rintro o h6 nx6 ⟨rfl, e6⟩
      simp [stopO]
      exact stop_ok (F5.trans (Fr.ext e6)).down (hR.ext e6)
    ·rw [if_neg (fun hh : x.k = 0 ∧ y.k = 0 => kx hh.1)]
     have kx' : (x.k == 0) = false := by simpa using kx
     simp [ybi_r27, w5, kx', S.raw]
     refine (need_ok S _ _ _).mono ?_
     rintro o h6 nx6 ⟨rfl, e6⟩
     simp [stopO]
     exact stop_ok (F5.trans (Fr.ext e6)).down (hR.ext e6)
   ·simp [ybi_r23, ybi_r25]
    by_cases kx : x.k = 0
    ·by_cases ky : y.k = 0
     ·rw [if_pos (And.intro kx ky)]
      have kx' : (x.k == 0) = true := by simpa using kx
      have ky' : (y.k == 0) = true := by simpa using ky
      simp [ybi_r27, w5, kx', ky', S.raw]
      refine (need_ok S _ _ _).mono ?_
      rintro o h6 nx6 ⟨rfl, e6⟩
      have t6 := e6.n
      have F6 := F5.trans (Fr.ext e6)
      have hR := hR.ext e6
      have u1 := (e6.g nx2 (by omega)).trans w5
      have u2 := e6.g nx4 (by omega)
      simp at u2
      have p6 := (e6.g pb (by omega)).trans p5
      simp
      simp [ybi_r28, f3, p6]
      simp [ybi_r29, ybi_r31, ybi_r33, ybi_r34, u1, u2, S.raw]
      refine (number_ok S _ _ _).mono ?_
      rintro o h7 nx7 ⟨⟨c3, hK3, rfl⟩, e7⟩
      have F7 := F6.trans (Fr.ext e7)
      have q7 := F7.res low
      have hcc3 := IsK.cell hK3
      have hc3 : ∀ n h, frzA n c3 h = (c3, h) := IsK.stb hK3
      simp [q7, f8, hcc3, hc3]
      exact fin_ok F7 low (hR.ext e7) hK3
     ·rw [if_neg (fun hh : x.k = 0 ∧ y.k = 0 => ky hh.2)]
      have kx' : (x.k == 0) = true := by simpa using kx
      have ky' : (y.k == 0) = false := by simpa using ky
      simp [ybi_r27, w5, kx', ky', S.raw]
      refine (need_ok S _ _ _).mono ?_
      rintro o h6 nx6 ⟨rfl, e6⟩
      simp [stopO]
      exact stop_ok (F5.trans (Fr.ext e6)).down (hR.ext e6)
    ·rw [if_neg (fun hh : x.k = 0 ∧ y.k = 0 => kx hh.1)]
     have kx' : (x.k == 0) = false := by simpa using kx
     simp [ybi_r27, w5, kx', S.raw]
     refine (need_ok S _ _ _).mono ?_
     rintro o h6 nx6 ⟨rfl, e6⟩
     simp [stopO]
     exact stop_ok (F5.trans (Fr.ext e6)).down (hR.ext e6)
   ·simp [ybi_r23, ybi_r25]
    by_cases kx : x.k = 0
    ·by_cases ky : y.k = 0
     ·rw [if_pos (And.intro kx ky)]
      have kx' : (x.k == 0) = true := by simpa using kx
      have ky' : (y.k == 0) = true := by simpa using ky
      simp [ybi_r27, w5, kx', ky', S.raw]
      refine (need_ok S _ _ _).mono ?_
      rintro o h6 nx6 ⟨rfl, e6⟩
      have t6 := e6.n
      have F6 := F5.trans (Fr.ext e6)
      have hR := hR.ext e6
      have u1 := (e6.g nx2 (by omega)).trans w5
      have u2 := e6.g nx4 (by omega)
      simp at u2
      have p6 := (e6.g pb (by omega)).trans p5
      simp
      simp [ybi_r28, f3, p6]
      simp [ybi_r29, ybi_r31, ybi_r33, ybi_r35, ybi_r36, u1, u2, S.raw]
      refine (truth_ok S _ _ _).mono ?_
      rintro o h7 nx7 ⟨⟨c3, hK3, rfl⟩, e7⟩
      have F7 := F6.trans (Fr.ext e7)
      have q7 := F7.res low
      have hcc3 := IsK.cell hK3
      have hc3 : ∀ n h, frzA n c3 h = (c3, h) := IsK.stb hK3
      simp [q7, f8, hcc3, hc3]
      exact fin_ok F7 low (hR.ext e7) hK3
     ·rw [if_neg (fun hh : x.k = 0 ∧ y.k = 0 => ky hh.2)]
      have kx' : (x.k == 0) = true := by simpa using kx
      have ky' : (y.k == 0) = false := by simpa using ky
      simp [ybi_r27, w5, kx', ky', S.raw]
      refine (need_ok S _ _ _).mono ?_
      rintro o h6 nx6 ⟨rfl, e6⟩
      simp [stopO]
      exact stop_ok (F5.trans (Fr.ext e6)).down (hR.ext e6)
    ·rw [if_neg (fun hh : x.k = 0 ∧ y.k = 0 => kx hh.1)]
     have kx' : (x.k == 0) = false := by simpa using kx
     simp [ybi_r27, w5, kx', S.raw]
     refine (need_ok S _ _ _).mono ?_
     rintro o h6 nx6 ⟨rfl, e6⟩
     simp [stopO]
     exact stop_ok (F5.trans (Fr.ext e6)).down (hR.ext e6)
   ·simp [ybi_r23, ybi_r25]
    by_cases kx : x.k = 0
    ·by_cases ky : y.k = 0
     ·rw [if_pos (And.intro kx ky)]
      have kx' : (x.k == 0) = true := by simpa using kx
      have ky' : (y.k == 0) = true := by simpa using ky
      simp [ybi_r27, w5, kx', ky', S.raw]
      refine (need_ok S _ _ _).mono ?_
      rintro o h6 nx6 ⟨rfl, e6⟩
      have t6 := e6.n
      have F6 := F5.trans (Fr.ext e6)
      have hR := hR.ext e6
      have u1 := (e6.g nx2 (by omega)).trans w5
      have u2 := e6.g nx4 (by omega)
      simp at u2
      have p6 := (e6.g pb (by omega)).trans p5
      simp
      simp [ybi_r28, f3, p6]
      simp [ybi_r29, ybi_r31, ybi_r33, ybi_r35, ybi_r37, u1, u2, S.raw]
      refine (truth_ok S _ _ _).mono ?_
      rintro o h7 nx7 ⟨⟨c3, hK3, rfl⟩, e7⟩
      have F7 := F6.trans (Fr.ext e7)
      have q7 := F7.res low
      have hcc3 := IsK.cell hK3
      have hc3 : ∀ n h, frzA n c3 h = (c3, h) := IsK.stb hK3
      simp [q7, f8, hcc3, hc3]
      exact fin_ok F7 low (hR.ext e7) hK3
     ·rw [if_neg (fun hh : x.k = 0 ∧ y.k = 0 => ky hh.2)]
      have kx' : (x.k == 0) = true := by simpa using kx
      have ky' : (y.k == 0) = false := by simpa using ky
      simp [ybi_r27, w5, kx', ky', S.raw]
      refine (need_ok S _ _ _).mono ?_
      rintro o h6 nx6 ⟨rfl, e6⟩
      simp [stopO]
      exact stop_ok (F5.trans (Fr.ext e6)).down (hR.ext e6)
    ·rw [if_neg (fun hh : x.k = 0 ∧ y.k = 0 => kx hh.1)]
     have kx' : (x.k == 0) = false := by simpa using kx
     simp [ybi_r27, w5, kx', S.raw]
     refine (need_ok S _ _ _).mono ?_
     rintro o h6 nx6 ⟨rfl, e6⟩
     simp [stopO]
     exact stop_ok (F5.trans (Fr.ext e6)).down (hR.ext e6)
   ·simp [ybi_r23, ybi_r24, w5, S.raw, hcx, hcy]
    refine (compare_ok S (IsV.ofV hK1) (IsV.ofV hK2) _ _).mono ?_
    rintro o h6 nx6 ⟨rfl, e6⟩
    have F6 := F5.trans (Fr.ext e6)
    have hR := hR.ext e6
    simp [S.raw]
    refine (truth_ok S _ _ _).mono ?_
    rintro o h7 nx7 ⟨⟨c3, hK3, rfl⟩, e7⟩
    have F7 := F6.trans (Fr.ext e7)
    have q7 := F7.res low
    have hcc3 := IsK.cell hK3
    have hc3 : ∀ n h, frzA n c3 h = (c3, h) := IsK.stb hK3
    simp [q7, f8, hcc3, hc3]
    exact fin_ok F7 low (hR.ext e7) hK3
   ·simp [ybi_r23, ybi_r25, ybi_r26, w5, S.raw, hcx, hcy]
    refine (compare_ok S (IsV.ofV hK1) (IsV.ofV hK2) _ _).mono ?_
    rintro o h6 nx6 ⟨rfl, e6⟩
    have F6 := F5.trans (Fr.ext e6)
    have hR := hR.ext e6
    simp [S.raw]
    refine (truth_ok S _ _ _).mono ?_
    rintro o h7 nx7 ⟨⟨c3, hK3, rfl⟩, e7⟩
    have F7 := F6.trans (Fr.ext e7)
    have q7 := F7.res low
    have hcc3 := IsK.cell hK3
    have hc3 : ∀ n h, frzA n c3 h = (c3, h) := IsK.stb hK3
    simp [q7, f8, hcc3, hc3]
    exact fin_ok F7 low (hR.ext e7) hK3
theorem op_need_p {fn : Go.Sx.S} {s : Sc} {k : Int} {na nb : Nat} {n : Int} {names : List Go.Sx.S} {binds : List (List Go.Sx.S)} {at_ : Int} {st : St} {sp cn cb ck : AV} {h : T Blk} {nx : Key} {pb : Key} {kids : List E} {tm : T AV} (hc : c0 ≤ st.cf) (low : rb.toNat < nx.toNat) (r0 : Run rb D L st (T.set nx (some Zb) h) nx.succ) (z0 : IsSc rb (T.set nx (some Zb) h) nx.succ sp s)
  (hk : IsEK ck kids) (hpb : pb.toNat < nx.toNat) (hpr : pb ≠ rb) (p0 : T.get pb (T.set nx (some Zb) h) = some (.cells [I k, .str na nb, I n, cn, cb, ck, I at_] .fix)) (f0 : T.get (K 0) tm = some (.ptr rb 0)) (f1 : T.get (K 1) tm = some (SA fn)) (f2 : T.get (K 2) tm = some sp) (f3 : T.get (K 3) tm = some (.ptr pb 0)) (f8 : T.get (K 8) tm = some (.ptr nx 0))
  (hname : (na, nb) = (1, 43) ∨ (na, nb) = (1, 45) ∨ (na, nb) = (1, 42) ∨ (na, nb) = (1, 60) ∨ (na, nb) = (2, 15676) ∨ (na, nb) = (2, 15677) ∨ (na, nb) = (2, 15649)) :
  wpO C (blockPost 0 (seqPost (wpC C (.seq (.ops ybi_r20) opTail) (BodyP [.cell (K 8) true 5] (Ends rb D L h nx (opF rec_ fn s (.mk k (na, nb) n names binds kids at_) st)))) (BodyP [.cell (K 8) true 5] (Ends rb D L h nx (opF rec_ fn s (.mk k (na, nb) n names binds kids at_) st))))) ybi_r18 tm (T.set nx (some Zb) h) nx.succ := by
 have s1 := Key.toNat_succ nx
 have F0 : Fr rb (T.set nx (some Zb) h) nx.succ (T.set nx (some Zb) h) nx.succ := Fr.refl _ _ _
 have hbad : kids.length ≠ 2 → opF rec_ fn s (.mk k (na, nb) n names binds kids at_) st = .stop 9 st := by
  intro hl
  rcases kids with _ | ⟨a, _ | ⟨b, _ | ⟨c, kids⟩⟩⟩
  all_goals first | (exfalso; exact hl rfl) | skip
  all_goals rcases hname with hh | hh | hh | hh | hh | hh | hh <;> simp only [Prod.mk.injEq] at hh <;> obtain ⟨rfl, rfl⟩ := hh <;> rfl
 rcases hk with ⟨rfl, rfl⟩ | ⟨cs, rfl, hel, hcs⟩
 ·have hop := hbad (by simp)
  simp [ybi_r18, f3, S.raw, p0]
  refine (need_ok S _ _ _).mono ?_
  rintro o h1 nx1 ⟨rfl, e1⟩
  have t1 := e1.n
  have r1 := r0.ext e1
  have F1 := F0.trans (Fr.ext e1)
  have z1 := z0.mono (Fr.ext e1)
  have p1 := (e1.g pb (by omega)).trans p0
  simp [hop, stopO]
  exact stop_ok F1.down r1
 ·by_cases hl2 : kids.length = 2
  ·rcases kids with _ | ⟨a, _ | ⟨b, _ | ⟨c, kids⟩⟩⟩ <;> simp at hl2
   simp [ybi_r18, f3, S.raw, p0]
   refine (need_ok S _ _ _).mono ?_
   rintro o h1 nx1 ⟨rfl, e1⟩
   have t1 := e1.n
   have r1 := r0.ext e1
   have F1 := F0.trans (Fr.ext e1)
   have z1 := z0.mono (Fr.ext e1)
   have p1 := (e1.g pb (by omega)).trans p0
   simp
   refine op_tail_p S HE (na := na) (nb := nb) (cn := cn) (cb := cb) hc low F1 r1 z1 rfl hcs hpb hpr p1 ?_ ?_ ?_ ?_ ?_ hname <;> simp [f0, f1, f2, f3, f8]
  ·have hop := hbad hl2
   have hl3 : ((kids.length : Int) == 2) = false := by simp; omega
   simp [ybi_r18, f3, hl3, S.raw, p0]
   refine (need_ok S _ _ _).mono ?_
   rintro o h1 nx1 ⟨rfl, e1⟩
   have t1 := e1.n
   have r1 := r0.ext e1
   have F1 := F0.trans (Fr.ext e1)
   have z1 := z0.mono (Fr.ext e1)
   have p1 := (e1.g pb (by omega)).trans p0
   simp [hop, stopO]
   exact stop_ok F1.down r1
theorem op_p {fn : Go.Sx.S} {s : Sc} {k : Int} {na nb : Nat} {n : Int} {names : List Go.Sx.S} {binds : List (List Go.Sx.S)} {at_ : Int} {st : St} {sp cn cb ck : AV} {h : T Blk} {nx : Key} {pb : Key} {kids : List E} (hc : c0 ≤ st.cf) (hr : Run rb D L st h nx) (hs : IsSc rb h nx sp s)
  (hk : IsEK ck kids) (hpb : pb.toNat < nx.toNat) (hpr : pb ≠ rb) (hpg : T.get pb h = some (.cells [I k, .str na nb, I n, cn, cb, ck, I at_] .fix)) : CallA C n_ybi [.ptr rb 0, SA fn, sp, .ptr pb 0] h nx (Ends rb D L h nx (opF rec_ fn s (.mk k (na, nb) n names binds kids at_) st)) := by
 have hs' : ∀ n h, frzA n sp h = (sp, h) := hs.stb
 have low := hr.low
 have s1 := Key.toNat_succ nx
 have r0 := hr.ext (E0 h nx Zb)
 have F0 : Fr rb (T.set nx (some Zb) h) nx.succ (T.set nx (some Zb) h) nx.succ := Fr.refl _ _ _
 have z0 := hs.mono (Fr.ext (rb := rb) (E0 h nx Zb))
 have p0 : T.get pb (T.set nx (some Zb) h) = some (.cells [I k, .str na nb, I n, cn, cb, ck, I at_] .fix) := by rw [get_lt hpb]; exact hpg
 refine S.c_ybi.call ?_
 simp [ybi]
 simp [ybi_r0]
 simp [ybi_r1, p0]
 by_cases n1 : na = 3 ∧ nb = 7630702
 ·obtain ⟨rfl, rfl⟩ := n1
  simp [ybi_r2]
  rcases hk with ⟨rfl, rfl⟩ | ⟨cs, rfl, hel, hcs⟩
  ·simp [ybi_r3, S.raw, p0]
   refine (need_ok S _ _ _).mono ?_
   rintro o h1 nx1 ⟨rfl, e1⟩
   have t1 := e1.n
   have r1 := r0.ext e1
   have F1 := F0.trans (Fr.ext e1)
   have z1 := z0.mono (Fr.ext e1)
   have p1 := (e1.g pb (by omega)).trans p0
   simp [opF, stopO]
   exact stop_ok F1.down r1
  ·rcases kids with _ | ⟨a, _ | ⟨b, kids⟩⟩
   ·simp [ybi_r3, S.raw, p0]
    refine (need_ok S _ _ _).mono ?_
    rintro o h1 nx1 ⟨rfl, e1⟩
    have t1 := e1.n
    have r1 := r0.ext e1
    have F1 := F0.trans (Fr.ext e1)
    have z1 := z0.mono (Fr.ext e1)
    have p1 := (e1.g pb (by omega)).trans p0
    simp [opF, stopO]
    exact stop_ok F1.down r1
   ·have hcl : cs.length = 7 := by have := hcs.hc; simpa using this
    simp [ybi_r3, S.raw, p0]
    refine (need_ok S _ _ _).mono ?_
    rintro o h1 nx1 ⟨rfl, e1⟩
    have t1 := e1.n
    have r1 := r0.ext e1
    have F1 := F0.trans (Fr.ext e1)
    have z1 := z0.mono (Fr.ext e1)
    have p1 := (e1.g pb (by omega)).trans p0
    simp
    simp [ybi_r4, S.raw, hs', hcl, p1]
    refine (rtruth_ok S HE (e := a) (ep := .cref (List.take 7 cs)) hc r1 z1 (by simpa using IsP.at (rb := rb) (h := h1) (nx := nx1) hcs (i := 0) (by simp))).mono ?_
    rintro o h2 nx2 ⟨f2, hR⟩
    have F2 := F1.trans f2
    cases hrec : rec_ fn s a st with
    | stop c st' =>
     rw [hrec] at hR
     obtain ⟨rfl, hR⟩ := hR
     simp [stopO, opF, truthF, hrec]
     exact stop_ok F2.down hR
    | ok v st' =>
     rw [hrec] at hR
     obtain ⟨a1, a2, hR⟩ := hR
     by_cases hv : v.k = 1
     ·have ho := a1 hv
      subst ho
      simp [S.raw]
      refine (truth_ok S _ _ _).mono ?_
      rintro o h3 nx3 ⟨⟨c2, hK2, rfl⟩, e3⟩
      have F3 := F2.trans (Fr.ext e3)
      have q3 := F3.res low
      have hcc := IsK.cell hK2
      have hc2 : ∀ n h, frzA n c2 h = (c2, h) := IsK.stb hK2
      simp [q3, hcc, hc2]
      simp [opF, truthF, hrec, hv]
      exact fin_ok F3 low (hR.ext e3) hK2
     ·have ho := a2 hv
      subst ho
      simp [stopO, opF, truthF, hrec, hv]
      exact stop_ok F2.down hR
   ·simp [ybi_r3, S.raw, p0]
    refine (need_ok S _ _ _).mono ?_
    rintro o h1 nx1 ⟨rfl, e1⟩
    have t1 := e1.n
    have r1 := r0.ext e1
    have F1 := F0.trans (Fr.ext e1)
    have z1 := z0.mono (Fr.ext e1)
    have p1 := (e1.g pb (by omega)).trans p0
    simp [opF, stopO]
    exact stop_ok F1.down r1
 ·have n1' : (decide (na = 3) && decide (nb = 7630702)) = false := by simpa using n1
  simp [ybi_r2, n1']
  by_cases nA : na = 3 ∧ nb = 6581857
  ·obtain ⟨rfl, rfl⟩ := nA
   simp [ybi_r5]
   rcases hk with ⟨rfl, rfl⟩ | ⟨cs, rfl, hel, hcs⟩
   ·simp [ybi_r7, S.raw, p0]
    refine (need_ok S _ _ _).mono ?_
    rintro o h1 nx1 ⟨rfl, e1⟩
    have t1 := e1.n
    have r1 := r0.ext e1
    have F1 := F0.trans (Fr.ext e1)
    have z1 := z0.mono (Fr.ext e1)
    have p1 := (e1.g pb (by omega)).trans p0
    simp [opF, stopO]
    exact stop_ok F1.down r1
   ·rcases kids with _ | ⟨a, _ | ⟨b, _ | ⟨c, kids⟩⟩⟩
    ·simp [ybi_r7, S.raw, p0]
     refine (need_ok S _ _ _).mono ?_
     rintro o h1 nx1 ⟨rfl, e1⟩
     have t1 := e1.n
     have r1 := r0.ext e1
     have F1 := F0.trans (Fr.ext e1)
     have z1 := z0.mono (Fr.ext e1)
     have p1 := (e1.g pb (by omega)).trans p0
     simp [opF, stopO]
     exact stop_ok F1.down r1
    ·simp [ybi_r7, S.raw, p0]
     refine (need_ok S _ _ _).mono ?_
     rintro o h1 nx1 ⟨rfl, e1⟩
     have t1 := e1.n
     have r1 := r0.ext e1
     have F1 := F0.trans (Fr.ext e1)
     have z1 := z0.mono (Fr.ext e1)
     have p1 := (e1.g pb (by omega)).trans p0
     simp [opF, stopO]
     exact stop_ok F1.down r1
    ·have hcl : cs.length = 14 := by have := hcs.hc; simpa using this
     simp [ybi_r7, S.raw, p0]
     refine (need_ok S _ _ _).mono ?_
     rintro o h1 nx1 ⟨rfl, e1⟩
     have t1 := e1.n
     have r1 := r0.ext e1
     have F1 := F0.trans (Fr.ext e1)
     have z1 := z0.mono (Fr.ext e1)
     have p1 := (e1.g pb (by omega)).trans p0
     simp
     simp [ybi_r8, S.raw, hs', hcl, p1]
     obtain ⟨_, ga⟩ := HE fn s a st sp (.cref (List.take 7 cs)) h1 nx1 hc r1 z1 (by simpa using IsP.at (rb := rb) (h := h1) (nx := nx1) hcs (i := 0) (by simp))
     refine (rtruth_ok S HE (e := a) (ep := .cref (List.take 7 cs)) hc r1 z1 (by simpa using IsP.at (rb := rb) (h := h1) (nx := nx1) hcs (i := 0) (by simp))).mono ?_
     rintro o h2 nx2 ⟨f2, hR⟩
     have t2 := f2.n
     have F2 := F1.trans f2
     have p2 := (f2.g pb (by omega) hpr (by rw [p1]; trivial)).trans p1
     cases hrec : rec_ fn s a st with
     | stop c st' =>
      rw [hrec] at hR
      obtain ⟨rfl, hR⟩ := hR
      simp [stopO, opF, truthF, hrec]
      exact stop_ok F2.down hR
     | ok v st' =>
      rw [hrec] at hR
      obtain ⟨a1, a2, hR⟩ := hR
      have hg := (ga v st' hrec).c
      by_cases hv : v.k = 1
      ·have ho := a1 hv
       subst ho
       cases ht : (v.n == 1) with
       | false =>
        simp [AV.beq, p2]
        simp [ybi_r9, S.raw, p2]
        refine (truth_ok S _ _ _).mono ?_
        rintro o h3 nx3 ⟨⟨c2, hK2, rfl⟩, e3⟩
        have F3 := F2.trans (Fr.ext e3)
        have q3 := F3.res low
        have hcc := IsK.cell hK2
        have hc2 : ∀ n h, frzA n c2 h = (c2, h) := IsK.stb hK2
        simp [q3, hcc, hc2]
        simp [opF, truthF, hrec, hv, ht]
        exact fin_ok F3 low (hR.ext e3) hK2
       | true =>
        simp [AV.beq, p2]
        simp [ybi_r10, S.raw, hs', hcl, p2]
        refine (rtruth_ok S HE (e := b) (ep := .cref (List.take 7 (List.drop 7 cs))) (by omega) hR (z1.mono f2) (by simpa using IsP.at (rb := rb) (h := h2) (nx := nx2) hcs (i := 1) (by simp))).mono ?_
        rintro o h3 nx3 ⟨f3, hR3⟩
        have F3 := F2.trans f3
        cases hrec3 : rec_ fn s b st' with
        | stop c st3 =>
         rw [hrec3] at hR3
         obtain ⟨rfl, hR3⟩ := hR3
         simp [stopO, opF, truthF, hrec, hv, ht, hrec3]
         exact stop_ok F3.down hR3
        | ok v3 st3 =>
         rw [hrec3] at hR3
         obtain ⟨b1, b2, hR⟩ := hR3
         by_cases hv3 : v3.k = 1
         ·have ho := b1 hv3
          subst ho
          simp [S.raw]
          refine (truth_ok S _ _ _).mono ?_
          rintro o h4 nx4 ⟨⟨c2, hK2, rfl⟩, e4⟩
          have F4 := F3.trans (Fr.ext e4)
          have q4 := F4.res low
          have hcc := IsK.cell hK2
          have hc2 : ∀ n h, frzA n c2 h = (c2, h) := IsK.stb hK2
          simp [q4, hcc, hc2]
          simp [opF, truthF, hrec, hv, ht, hrec3, hv3]
          exact fin_ok F4 low (hR.ext e4) hK2
         ·have ho := b2 hv3
          subst ho
          simp [stopO, opF, truthF, hrec, hv, ht, hrec3, hv3]
          exact stop_ok F3.down hR
      ·have ho := a2 hv
       subst ho
       simp [stopO, opF, truthF, hrec, hv]
       exact stop_ok F2.down hR
    ·simp [ybi_r7, S.raw, p0]
     refine (need_ok S _ _ _).mono ?_
     rintro o h1 nx1 ⟨rfl, e1⟩
     have t1 := e1.n
     have r1 := r0.ext e1
     have F1 := F0.trans (Fr.ext e1)
     have z1 := z0.mono (Fr.ext e1)
     have p1 := (e1.g pb (by omega)).trans p0
     simp [opF, stopO]
     exact stop_ok F1.down r1
  ·have nA' : (decide (na = 3) && decide (nb = 6581857)) = false := by simpa using nA
   by_cases nO : na = 2 ∧ nb = 29295
   ·obtain ⟨rfl, rfl⟩ := nO
    simp [ybi_r5, ybi_r6]
    rcases hk with ⟨rfl, rfl⟩ | ⟨cs, rfl, hel, hcs⟩
    ·simp [ybi_r7, S.raw, p0]
     refine (need_ok S _ _ _).mono ?_
     rintro o h1 nx1 ⟨rfl, e1⟩
     have t1 := e1.n
     have r1 := r0.ext e1
     have F1 := F0.trans (Fr.ext e1)
     have z1 := z0.mono (Fr.ext e1)
     have p1 := (e1.g pb (by omega)).trans p0
     simp [opF, stopO]
     exact stop_ok F1.down r1
    ·rcases kids with _ | ⟨a, _ | ⟨b, _ | ⟨c, kids⟩⟩⟩
     ·simp [ybi_r7, S.raw, p0]
      refine (need_ok S _ _ _).mono ?_
      rintro o h1 nx1 ⟨rfl, e1⟩
      have t1 := e1.n
      have r1 := r0.ext e1
      have F1 := F0.trans (Fr.ext e1)
      have z1 := z0.mono (Fr.ext e1)
      have p1 := (e1.g pb (by omega)).trans p0
      simp [opF, stopO]
      exact stop_ok F1.down r1
     ·simp [ybi_r7, S.raw, p0]
      refine (need_ok S _ _ _).mono ?_
      rintro o h1 nx1 ⟨rfl, e1⟩
      have t1 := e1.n
      have r1 := r0.ext e1
      have F1 := F0.trans (Fr.ext e1)
      have z1 := z0.mono (Fr.ext e1)
      have p1 := (e1.g pb (by omega)).trans p0
      simp [opF, stopO]
      exact stop_ok F1.down r1
     ·have hcl : cs.length = 14 := by have := hcs.hc; simpa using this
      simp [ybi_r7, S.raw, p0]
      refine (need_ok S _ _ _).mono ?_
      rintro o h1 nx1 ⟨rfl, e1⟩
      have t1 := e1.n
      have r1 := r0.ext e1
      have F1 := F0.trans (Fr.ext e1)
      have z1 := z0.mono (Fr.ext e1)
      have p1 := (e1.g pb (by omega)).trans p0
      simp
      simp [ybi_r8, S.raw, hs', hcl, p1]
      obtain ⟨_, ga⟩ := HE fn s a st sp (.cref (List.take 7 cs)) h1 nx1 hc r1 z1 (by simpa using IsP.at (rb := rb) (h := h1) (nx := nx1) hcs (i := 0) (by simp))
      refine (rtruth_ok S HE (e := a) (ep := .cref (List.take 7 cs)) hc r1 z1 (by simpa using IsP.at (rb := rb) (h := h1) (nx := nx1) hcs (i := 0) (by simp))).mono ?_
      rintro o h2 nx2 ⟨f2, hR⟩
      have t2 := f2.n
      have F2 := F1.trans f2
      have p2 := (f2.g pb (by omega) hpr (by rw [p1]; trivial)).trans p1
      cases hrec : rec_ fn s a st with
      | stop c st' =>
       rw [hrec] at hR
       obtain ⟨rfl, hR⟩ := hR
       simp [stopO, opF, truthF, hrec]
       exact stop_ok F2.down hR
      | ok v st' =>
       rw [hrec] at hR
       obtain ⟨a1, a2, hR⟩ := hR
       have hg := (ga v st' hrec).c
       by_cases hv : v.k = 1
       ·have ho := a1 hv
        subst ho
        cases ht : (v.n == 1) with
        | true =>
         simp [AV.beq, p2]
         simp [ybi_r9, S.raw, p2]
         refine (truth_ok S _ _ _).mono ?_
         rintro o h3 nx3 ⟨⟨c2, hK2, rfl⟩, e3⟩
         have F3 := F2.trans (Fr.ext e3)
         have q3 := F3.res low
         have hcc := IsK.cell hK2
         have hc2 : ∀ n h, frzA n c2 h = (c2, h) := IsK.stb hK2
         simp [q3, hcc, hc2]
         simp [opF, truthF, hrec, hv, ht]
         exact fin_ok F3 low (hR.ext e3) hK2
        | false =>
         simp [AV.beq, p2]
         simp [ybi_r10, S.raw, hs', hcl, p2]
         refine (rtruth_ok S HE (e := b) (ep := .cref (List.take 7 (List.drop 7 cs))) (by omega) hR (z1.mono f2) (by simpa using IsP.at (rb := rb) (h := h2) (nx := nx2) hcs (i := 1) (by simp))).mono ?_
         rintro o h3 nx3 ⟨f3, hR3⟩
         have F3 := F2.trans f3
         cases hrec3 : rec_ fn s b st' with
         | stop c st3 =>
          rw [hrec3] at hR3
          obtain ⟨rfl, hR3⟩ := hR3
          simp [stopO, opF, truthF, hrec, hv, ht, hrec3]
          exact stop_ok F3.down hR3
         | ok v3 st3 =>
          rw [hrec3] at hR3
          obtain ⟨b1, b2, hR⟩ := hR3
          by_cases hv3 : v3.k = 1
          ·have ho := b1 hv3
           subst ho
           simp [S.raw]
           refine (truth_ok S _ _ _).mono ?_
           rintro o h4 nx4 ⟨⟨c2, hK2, rfl⟩, e4⟩
           have F4 := F3.trans (Fr.ext e4)
           have q4 := F4.res low
           have hcc := IsK.cell hK2
           have hc2 : ∀ n h, frzA n c2 h = (c2, h) := IsK.stb hK2
           simp [q4, hcc, hc2]
           simp [opF, truthF, hrec, hv, ht, hrec3, hv3]
           exact fin_ok F4 low (hR.ext e4) hK2
          ·have ho := b2 hv3
           subst ho
           simp [stopO, opF, truthF, hrec, hv, ht, hrec3, hv3]
           exact stop_ok F3.down hR
       ·have ho := a2 hv
        subst ho
        simp [stopO, opF, truthF, hrec, hv]
        exact stop_ok F2.down hR
     ·simp [ybi_r7, S.raw, p0]
      refine (need_ok S _ _ _).mono ?_
      rintro o h1 nx1 ⟨rfl, e1⟩
      have t1 := e1.n
      have r1 := r0.ext e1
      have F1 := F0.trans (Fr.ext e1)
      have z1 := z0.mono (Fr.ext e1)
      have p1 := (e1.g pb (by omega)).trans p0
      simp [opF, stopO]
      exact stop_ok F1.down r1
   ·have nO' : (decide (na = 2) && decide (nb = 29295)) = false := by simpa using nO
    by_cases nP : na = 1 ∧ nb = 43
    ·obtain ⟨rfl, rfl⟩ := nP
     simp [ybi_r5, ybi_r6, ybi_r11]
     refine op_need_p S HE (na := 1) (nb := 43) (cn := cn) (cb := cb) hc low r0 z0 hk hpb hpr p0 ?_ ?_ ?_ ?_ ?_ (by simp) <;> simp
    ·have nP' : (decide (na = 1) && decide (nb = 43)) = false := by simpa using nP
     by_cases nM : na = 1 ∧ nb = 45
     ·obtain ⟨rfl, rfl⟩ := nM
      simp [ybi_r5, ybi_r6, ybi_r11, ybi_r12]
      refine op_need_p S HE (na := 1) (nb := 45) (cn := cn) (cb := cb) hc low r0 z0 hk hpb hpr p0 ?_ ?_ ?_ ?_ ?_ (by simp) <;> simp
     ·have nM' : (decide (na = 1) && decide (nb = 45)) = false := by simpa using nM
      by_cases nT : na = 1 ∧ nb = 42
      ·obtain ⟨rfl, rfl⟩ := nT
       simp [ybi_r5, ybi_r6, ybi_r11, ybi_r12, ybi_r13]
       refine op_need_p S HE (na := 1) (nb := 42) (cn := cn) (cb := cb) hc low r0 z0 hk hpb hpr p0 ?_ ?_ ?_ ?_ ?_ (by simp) <;> simp
      ·have nT' : (decide (na = 1) && decide (nb = 42)) = false := by simpa using nT
       by_cases nL : na = 1 ∧ nb = 60
       ·obtain ⟨rfl, rfl⟩ := nL
        simp [ybi_r5, ybi_r6, ybi_r11, ybi_r12, ybi_r13, ybi_r14]
        refine op_need_p S HE (na := 1) (nb := 60) (cn := cn) (cb := cb) hc low r0 z0 hk hpb hpr p0 ?_ ?_ ?_ ?_ ?_ (by simp) <;> simp
       ·have nL' : (decide (na = 1) && decide (nb = 60)) = false := by simpa using nL
        by_cases nQ : na = 2 ∧ nb = 15676
        ·obtain ⟨rfl, rfl⟩ := nQ
         simp [ybi_r5, ybi_r6, ybi_r11, ybi_r12, ybi_r13, ybi_r14, ybi_r15]
         refine op_need_p S HE (na := 2) (nb := 15676) (cn := cn) (cb := cb) hc low r0 z0 hk hpb hpr p0 ?_ ?_ ?_ ?_ ?_ (by simp) <;> simp
        ·have nQ' : (decide (na = 2) && decide (nb = 15676)) = false := by simpa using nQ
         by_cases nE : na = 2 ∧ nb = 15677
         ·obtain ⟨rfl, rfl⟩ := nE
          simp [ybi_r5, ybi_r6, ybi_r11, ybi_r12, ybi_r13, ybi_r14, ybi_r15, ybi_r16]
          refine op_need_p S HE (na := 2) (nb := 15677) (cn := cn) (cb := cb) hc low r0 z0 hk hpb hpr p0 ?_ ?_ ?_ ?_ ?_ (by simp) <;> simp
         ·have nE' : (decide (na = 2) && decide (nb = 15677)) = false := by simpa using nE
          by_cases nN : na = 2 ∧ nb = 15649
          ·obtain ⟨rfl, rfl⟩ := nN
           simp [ybi_r5, ybi_r6, ybi_r11, ybi_r12, ybi_r13, ybi_r14, ybi_r15, ybi_r16, ybi_r17]
           refine op_need_p S HE (na := 2) (nb := 15649) (cn := cn) (cb := cb) hc low r0 z0 hk hpb hpr p0 ?_ ?_ ?_ ?_ ?_ (by simp) <;> simp
          ·have nN' : (decide (na = 2) && decide (nb = 15649)) = false := by simpa using nN
           simp [ybi_r5, ybi_r6, ybi_r11, ybi_r12, ybi_r13, ybi_r14, ybi_r15, ybi_r16, ybi_r17, nA', nO', nP', nM', nT', nL', nQ', nE', nN']
           simp [ybi_r19, S.raw]
           refine (end_ok S _ _ _).mono ?_
           rintro o h1 nx1 ⟨rfl, e1⟩
           have hop : opF rec_ fn s (.mk k (na, nb) n names binds kids at_) st = .stop 9 st := by
            simp [opF, n1, nA, nO, nP, nM, nT, nL, nQ, nE, nN]
           rw [hop]
           simp [stopO]
           exact stop_ok (F0.trans (Fr.ext e1)).down (r0.ext e1)
end Tz
/-
 SV: further help for the evaluator's functions. No condition.
-/
namespace Tz
open Go.Sx Go
theorem lits_IsS {c : AV} {l : List S} (h : IsS c l) : AV.lits c = true := by
 rcases h with ⟨rfl, rfl⟩ | rfl
 ·rfl
 ·simp [AV.lits]
  refine litsL_of fun x hx => ?_
  simp at hx
  obtain ⟨a, b, hx, rfl⟩ := hx
  rfl
theorem lits_IsB {c : AV} {l : List (List S)} (h : IsB c l) : AV.lits c = true := by
 rcases h with ⟨rfl, rfl⟩ | ⟨cs, rfl, hl, hk⟩
 ·rfl
 ·simp [AV.lits]
  refine litsL_of fun x hx => ?_
  obtain ⟨i, hi, rfl⟩ := List.getElem_of_mem hx
  obtain ⟨y, hy, hS⟩ := hk i (by omega)
  rw [List.getElem?_eq_getElem hi] at hy
  cases hy
  exact lits_IsS hS
theorem IsE.lits {l : List AV} {e : E} (h : IsE l e) : AV.litsL l = true := by
 induction h with
 | leaf k nm n names binds at_ cn cb hn hb hq => simp [AV.litsL, AV.lits, lits_IsS hn, lits_IsB hb]
 | node k nm n names binds at_ cn cb hn hb hq cs es hl hc hk ih =>
  simp [AV.litsL, AV.lits, lits_IsS hn, lits_IsB hb]
  refine litsL_of fun x hx => ?_
  obtain ⟨i, hi, rfl⟩ := List.getElem_of_mem hx
  have hi4 : i / 7 < es.length := by omega
  refine litsL_mem (ih (i / 7) hi4) _ ?_
  have : ((cs.drop (i / 7 * 7)).take 7)[i % 7]? = some cs[i] := by
   rw [List.getElem?_take_of_lt (by omega), List.getElem?_drop, show i / 7 * 7 + i % 7 = i by omega]
   exact List.getElem?_eq_getElem hi
  exact List.mem_of_getElem? this
theorem IsEs.beq {cs : List AV} {es : List E} (h : IsEs cs es) : AV.beq (.sl cs es.length 7 .any) (.sl cs es.length 7 .any) = true := by
 refine beq_refl _ ?_
 simp [AV.lits]
 refine litsL_of fun x hx => ?_
 obtain ⟨i, hi, rfl⟩ := List.getElem_of_mem hx
 have hc := h.hc
 have hi4 : i / 7 < es.length := by omega
 refine litsL_mem (h.hk (i / 7) hi4).lits _ ?_
 have : ((cs.drop (i / 7 * 7)).take 7)[i % 7]? = some cs[i] := by
  rw [List.getElem?_take_of_lt (by omega), List.getElem?_drop, show i / 7 * 7 + i % 7 = i by omega]
  exact List.getElem?_eq_getElem hi
 exact List.mem_of_getElem? this
section
variable {rb : Key} {D : RunB} {L : Lim}
theorem Run.put {st st' : St} {h h' : T Blk} {nx nx' : Key} {br' : AV} (r : Run rb D L st h nx) (hn : nx.toNat ≤ nx'.toNat) (hg : ∀ b : Key, b.toNat < nx.toNat → b ≠ rb → Kp (T.get b h) → T.get b h' = T.get b h)
  (hb : T.get rb h' = some (.cells (runC D L st' br') .fix)) (ha : IsApp br' (brsA st'.brs) st'.brs.length 3 h' nx') (c0 : 0 ≤ st'.cf) (c1 : st'.cf ≤ L.fuel) (nb : (st'.brs.length : Int) ≤ st'.cf) (k0 : 0 ≤ st'.calls) (k1 : st'.calls ≤ 256) (b0 : 0 ≤ st'.cb) : Run rb D L st' h' nx' := by
 obtain ⟨⟨br, hb0, ha0⟩, low', gf, gc, gb, lf, lc, lb, c0', c1', nb', k0', k1', b0'⟩ := r
 have ne : ∀ b m, T.get b h = some (.map m) → b ≠ rb := fun b m hB e => by subst e; rw [hb0] at hB; cases hB
 refine ⟨⟨br', hb, ha⟩, by omega, ?_, ?_, ?_, by omega, by omega, by omega, c0, c1, nb, k0, k1, b0⟩
 ·rw [hg _ lf (ne _ _ gf) (by rw [gf]; trivial)]; exact gf
 ·rw [hg _ lc (ne _ _ gc) (by rw [gc]; trivial)]; exact gc
 ·rw [hg _ lb (ne _ _ gb) (by rw [gb]; trivial)]; exact gb
theorem Run.nums {st st' : St} {h : T Blk} {nx : Key} {br : AV} (r : Run rb D L st h nx) (hb : T.get rb h = some (.cells (runC D L st br) .fix)) (ha : IsApp br (brsA st.brs) st.brs.length 3 h nx) (hbr : st'.brs = st.brs) (c0 : 0 ≤ st'.cf) (c1 : st'.cf ≤ L.fuel) (nb : (st.brs.length : Int) ≤ st'.cf) (k0 : 0 ≤ st'.calls) (k1 : st'.calls ≤ 256) (b0 : 0 ≤ st'.cb) :
  Run rb D L st' (T.set rb (some (.cells (runC D L st' br) .fix)) h) nx := by
 refine r.put (Nat.le_refl _) (fun b hb' hne _ => T.get_set_ne _ _ _ _ hne) (by rw [T.get_set_same]) ?_ c0 c1 (by rw [hbr]; exact nb) k0 k1 b0
 rw [hbr]
 refine ha.keep (Nat.le_refl _) fun b hb' hx => ?_
 have hne : b ≠ rb := by
  intro e; subst e
  rcases hx with hx | ⟨l, hx⟩ <;> rw [hb] at hx <;> cases hx
 rw [T.get_set_ne _ _ _ _ hne]
theorem Fr.run {st st' : St} {h : T Blk} {nx : Key} {br : AV} (hb : T.get rb h = some (.cells (runC D L st br) .fix)) : Fr rb h nx (T.set rb (some (.cells (runC D L st' br) .fix)) h) nx :=
 ⟨Nat.le_refl _, fun b _ hne _ => T.get_set_ne _ _ _ _ hne, fun _ b _ ⟨l, k, c, h1, h2, h3⟩ => by
  rw [T.get_set_same] at h1
  cases h1
  exact ⟨_, _, c, hb, by simpa using h2, h3⟩⟩
theorem Fr.app {st' : St} {h h3 : T Blk} {nx nx3 : Key} {c' : AV} (hn : nx.toNat ≤ nx3.toNat) (hg : ∀ b : Key, b.toNat < nx.toNat → b ≠ rb → Kp (T.get b h) → T.get b h3 = T.get b h) (ho : ∀ b, OwnC c' b → nx.toNat ≤ b.toNat) : Fr rb h nx (T.set rb (some (.cells (runC D L st' c') .fix)) h3) nx3 :=
 ⟨hn, fun b hb hne hk => by rw [T.get_set_ne _ _ _ _ hne]; exact hg b hb hne hk, fun _ b hb ⟨l, k, c, h1, h2, h3⟩ => by
  rw [T.get_set_same] at h1
  cases h1
  simp at h2
  subst h2
  have := ho b h3
  omega⟩
end
def ApOK (C : Cfg) (rb : Key) (D : RunB) (L : Lim) (rec_ : Rec) (M : Md) (f : Nat) (F : Go.Sx.S → Sc → E → St → Res) (c0 : Int) : Prop := ∀ (fn : S) (s : Sc) (e : E) (st : St) (sp ep : AV) (h : T Blk) (nx : Key), c0 ≤ st.cf → Run rb D L st h nx → IsSc rb h nx sp s → IsP rb h nx ep e →
 CallA C f [.ptr rb 0, SA fn, sp, ep] h nx (Ends rb D L h nx (F fn s e st))
theorem E.eta (e : E) : E.mk e.k e.name e.n e.names e.binds e.kids e.at_ = e := by cases e; rfl
theorem op_ok {C : Cfg} (S : Std C) {rb : Key} {D : RunB} {L : Lim} {rec_ : Rec} {c0 : Int} (HE : EvOK C rb D L rec_ c0) (M : Md) : ApOK C rb D L rec_ M n_ybi (opF rec_) c0 := by
 intro fn s e st sp ep h nx hc hr hs hp
 obtain ⟨l, hl, hp⟩ := hp
 obtain ⟨cn, cb, ck, rfl, hn, hb, hk, hq⟩ := hl.cells
 have ee := E.eta e
 rcases hp with ⟨t, rfl⟩ | ⟨pb, rfl, hg, hlt, hne, _⟩
 ·have := op_c S HE (fn := fn) (s := s) (k := e.k) (na := e.name.1) (nb := e.name.2) (n := e.n) (names := e.names) (binds := e.binds) (at_ := e.at_) (cn := cn) (cb := cb) (t := t) hc hr hs hk
  rwa [ee] at this
 ·have := op_p S HE (fn := fn) (s := s) (k := e.k) (na := e.name.1) (nb := e.name.2) (n := e.n) (names := e.names) (binds := e.binds) (at_ := e.at_) hc hr hs hk hlt hne hg
  rwa [ee] at this
end Tz
