/-
 SV: the evaluator's function value. No condition.
-/
import Derived.Test.YthhjnogfljegnaaGreatDoorVOp
set_option linter.unusedSimpArgs false
set_option linter.unusedVariables false
set_option linter.unusedSectionVars false
namespace Tz
open Go.Sx Go
def VarInv (rb : Key) (ep : AV) (name : Go.Sx.S) (s0 : Sc) (h0 : T Blk) (nx0 nx : Key) (m : Nat) (tm : T AV) (h : T Blk) (nx' : Key) : Prop :=
 ∃ (s : Sc) (sp : AV), m = s.length ∧ h = h0 ∧ nx' = nx0 ∧ IsSc rb h0 nx0 sp s ∧ lookS name s = lookS name s0 ∧ T.get (K 2) tm = some sp ∧ T.get (K 3) tm = some ep ∧ T.get (K 8) tm = some (.ptr nx 0)
variable {C : Cfg} (S : Std C) {rb : Key} {D : RunB} {L : Lim} {rec_ : Rec} {c0 : Int} (HE : EvOK C rb D L rec_ c0) (M : Md)
include S HE
theorem value0_c {fn : Go.Sx.S} {s : Sc} {k : Int} {na nb : Nat} {n : Int} {names : List Go.Sx.S} {binds : List (List Go.Sx.S)} {at_ : Int} {st : St} {sp cn cb ck : AV} {h : T Blk} {nx : Key} {t : List AV} {kids : List E} (hc : c0 ≤ st.cf) (hr : Run rb D L st h nx) (hs : IsSc rb h nx sp s)
  (hk : IsEK ck kids) (hkk : k = 0): CallA C n_ybm [.ptr rb 0, SA fn, sp, .cref ([I k, .str na nb, I n, cn, cb, ck, I at_] ++ t)] h nx (Ends rb D L h nx (valueF rec_ M fn s (.mk k (na, nb) n names binds kids at_) st)) := by
 have hs' : ∀ n h, frzA n sp h = (sp, h) := hs.stb
 have low := hr.low
 have s1 := Key.toNat_succ nx
 have r0 := hr.ext (E0 h nx Zb)
 have F0 : Fr rb (T.set nx (some Zb) h) nx.succ (T.set nx (some Zb) h) nx.succ := Fr.refl _ _ _
 have z0 := hs.mono (Fr.ext (rb := rb) (E0 h nx Zb))
 subst hkk
 refine S.c_ybm.call ?_
 simp [ybm]
 simp [ybm_r0]
 simp [ybm_r1]
 simp [ybm_r2]
 simp [ybm_r3, S.raw]
 refine (number_ok S _ _ _).mono ?_
 rintro o h1 nx1 ⟨⟨c1, hK1, rfl⟩, e1⟩
 have F1 := F0.trans (Fr.ext e1)
 have q1 := F1.res low
 have hcc := IsK.cell hK1
 have hcf : ∀ n h, frzA n c1 h = (c1, h) := IsK.stb hK1
 simp [q1, hcc, hcf]
 simp [valueF, numR]
 exact fin_ok F1 low (r0.ext e1) hK1
theorem value1_c {fn : Go.Sx.S} {s : Sc} {k : Int} {na nb : Nat} {n : Int} {names : List Go.Sx.S} {binds : List (List Go.Sx.S)} {at_ : Int} {st : St} {sp cn cb ck : AV} {h : T Blk} {nx : Key} {t : List AV} {kids : List E} (hc : c0 ≤ st.cf) (hr : Run rb D L st h nx) (hs : IsSc rb h nx sp s)
  (hk : IsEK ck kids) (hkk : k = 1): CallA C n_ybm [.ptr rb 0, SA fn, sp, .cref ([I k, .str na nb, I n, cn, cb, ck, I at_] ++ t)] h nx (Ends rb D L h nx (valueF rec_ M fn s (.mk k (na, nb) n names binds kids at_) st)) := by
 have hs' : ∀ n h, frzA n sp h = (sp, h) := hs.stb
 have low := hr.low
 have s1 := Key.toNat_succ nx
 have r0 := hr.ext (E0 h nx Zb)
 have F0 : Fr rb (T.set nx (some Zb) h) nx.succ (T.set nx (some Zb) h) nx.succ := Fr.refl _ _ _
 have z0 := hs.mono (Fr.ext (rb := rb) (E0 h nx Zb))
 subst hkk
 refine S.c_ybm.call ?_
 simp [ybm]
 simp [ybm_r0]
 simp [ybm_r1]
 simp [ybm_r2, ybm_r4]
 by_cases n0 : n = 0
 ·simp [ybm_r5, n0, S.raw]
  refine (need_ok S _ _ _).mono ?_
  rintro o h1 nx1 ⟨rfl, e1⟩
  have t1 := e1.n
  have r1 := r0.ext e1
  have F1 := F0.trans (Fr.ext e1)
  have z1 := z0.mono (Fr.ext e1)
  simp
  simp [ybm_r6, n0, S.raw]
  refine (truth_ok S _ _ _).mono ?_
  rintro o h2 nx2 ⟨⟨c2, hK2, rfl⟩, e2⟩
  have F2 := F1.trans (Fr.ext e2)
  have q2 := F2.res low
  have hcc := IsK.cell hK2
  have hcf : ∀ n h, frzA n c2 h = (c2, h) := IsK.stb hK2
  simp [q2, hcc, hcf]
  simp [valueF, boolR, n0]
  exact fin_ok F2 low (r1.ext e2) hK2
 ·have n0' : (n == 0) = false := by simpa using n0
  by_cases n1 : n = 1
  ·simp [ybm_r5, n1, S.raw]
   refine (need_ok S _ _ _).mono ?_
   rintro o h1 nx1 ⟨rfl, e1⟩
   have t1 := e1.n
   have r1 := r0.ext e1
   have F1 := F0.trans (Fr.ext e1)
   have z1 := z0.mono (Fr.ext e1)
   simp
   simp [ybm_r6, n1, S.raw]
   refine (truth_ok S _ _ _).mono ?_
   rintro o h2 nx2 ⟨⟨c2, hK2, rfl⟩, e2⟩
   have F2 := F1.trans (Fr.ext e2)
   have q2 := F2.res low
   have hcc := IsK.cell hK2
   have hcf : ∀ n h, frzA n c2 h = (c2, h) := IsK.stb hK2
   simp [q2, hcc, hcf]
   simp [valueF, boolR, n1]
   exact fin_ok F2 low (r1.ext e2) hK2
  ·have n1' : (n == 1) = false := by simpa using n1
   simp [ybm_r5, n0', n1', S.raw]
   refine (need_ok S _ _ _).mono ?_
   rintro o h1 nx1 ⟨rfl, e1⟩
   have t1 := e1.n
   have r1 := r0.ext e1
   have F1 := F0.trans (Fr.ext e1)
   have z1 := z0.mono (Fr.ext e1)
   simp [valueF, n0, n1, stopO]
   exact stop_ok F1.down r1
theorem value2_c {fn : Go.Sx.S} {s : Sc} {k : Int} {na nb : Nat} {n : Int} {names : List Go.Sx.S} {binds : List (List Go.Sx.S)} {at_ : Int} {st : St} {sp cn cb ck : AV} {h : T Blk} {nx : Key} {t : List AV} {kids : List E} (hc : c0 ≤ st.cf) (hr : Run rb D L st h nx) (hs : IsSc rb h nx sp s)
  (hk : IsEK ck kids) (hkk : k = 2): CallA C n_ybm [.ptr rb 0, SA fn, sp, .cref ([I k, .str na nb, I n, cn, cb, ck, I at_] ++ t)] h nx (Ends rb D L h nx (valueF rec_ M fn s (.mk k (na, nb) n names binds kids at_) st)) := by
 have hs' : ∀ n h, frzA n sp h = (sp, h) := hs.stb
 have low := hr.low
 have s1 := Key.toNat_succ nx
 have r0 := hr.ext (E0 h nx Zb)
 have F0 : Fr rb (T.set nx (some Zb) h) nx.succ (T.set nx (some Zb) h) nx.succ := Fr.refl _ _ _
 have z0 := hs.mono (Fr.ext (rb := rb) (E0 h nx Zb))
 subst hkk
 refine S.c_ybm.call ?_
 simp [ybm]
 simp [ybm_r0]
 simp [ybm_r1]
 simp [ybm_r2, ybm_r4, ybm_r7]
 have hv : valueF rec_ M fn s (.mk 2 (na, nb) n names binds kids at_) st = (match lookS (na, nb) s with | some x => .ok x st | none => .stop 6 st) := by
  simp [valueF]
  try (cases lookS (na, nb) s <;> rfl)
 rw [hv]
 refine W.loopM (n := s.length) (VarInv rb (.cref ([I 2, .str na nb, I n, cn, cb, ck, I at_] ++ t)) (na, nb) s (T.set nx (some Zb) h) nx.succ nx) ⟨s, sp, rfl, rfl, rfl, z0, rfl, by simp, by simp, by simp⟩ ?_
 rintro m tm1 h1 nx1 ⟨s', sp', rfl, rfl, rfl, zs, hlk, f2, f3, f8⟩
 refine W.of ?_
 simp [ybm_l0]
 cases zs with
 | nil =>
  simp [ybm_r8, f2, eqV]
  simp [ybm_r12, S.raw]
  refine (end_ok S _ _ _).mono ?_
  rintro o h2 nx2 ⟨rfl, e2⟩
  rw [← hlk]
  simp [stopO, lookS]
  exact stop_ok (F0.trans (Fr.ext e2)).down (r0.ext e2)
 | cons b name v c p s2 hb hbr hg hK hz hs2 =>
  obtain ⟨xa, xb⟩ := name
  have hcc := IsK.cell hK
  have hcf : ∀ n h, frzA n c h = (c, h) := IsK.stb hK
  simp [ybm_r8, f2, eqV]
  by_cases hn : xa = na ∧ xb = nb
  ·obtain ⟨rfl, rfl⟩ := hn
   simp [ybm_r9, f2, f3, hg]
   simp [ybm_r10, f2, f8, hg, hcc, hcf]
   rw [← hlk]
   simp [lookS]
   have hfin := fin_ok (h' := T.set nx (some Zb) h) F0 low r0 hK
   rwa [set_set] at hfin
  ·have hn' : (decide (xa = na) && decide (xb = nb)) = false := by simpa using hn
   simp [ybm_r9, f2, f3, hg, hn']
   simp [ybm_r11, f2, hg]
   refine ⟨s2.length, by simp, s2, p, rfl, rfl, rfl, hs2, ?_, by simp, by simp [f3], by simp [f8]⟩
   rw [← hlk]
   simp [lookS, hn]
theorem value3_c {fn : Go.Sx.S} {s : Sc} {k : Int} {na nb : Nat} {n : Int} {names : List Go.Sx.S} {binds : List (List Go.Sx.S)} {at_ : Int} {st : St} {sp cn cb ck : AV} {h : T Blk} {nx : Key} {t : List AV} {kids : List E} (hc : c0 ≤ st.cf) (hr : Run rb D L st h nx) (hs : IsSc rb h nx sp s)
  (hk : IsEK ck kids) (H : ∀ (h : T Blk) (nx : Key), Run rb D L st h nx → IsSc rb h nx sp s → IsP rb h nx (.cref ([I 3, .str na nb, I n, cn, cb, ck, I at_] ++ t)) (.mk 3 (na, nb) n names binds kids at_) → CallA C n_ybe [.ptr rb 0, SA fn, sp, .cref ([I 3, .str na nb, I n, cn, cb, ck, I at_] ++ t)] h nx (Ends rb D L h nx (applyF rec_ M fn s (.mk 3 (na, nb) n names binds kids at_) st))) (hE : IsE [I 3, .str na nb, I n, cn, cb, ck, I at_] (.mk 3 (na, nb) n names binds kids at_)) (hkk : k = 3): CallA C n_ybm [.ptr rb 0, SA fn, sp, .cref ([I k, .str na nb, I n, cn, cb, ck, I at_] ++ t)] h nx (Ends rb D L h nx (valueF rec_ M fn s (.mk k (na, nb) n names binds kids at_) st)) := by
 have hs' : ∀ n h, frzA n sp h = (sp, h) := hs.stb
 have low := hr.low
 have s1 := Key.toNat_succ nx
 have r0 := hr.ext (E0 h nx Zb)
 have F0 : Fr rb (T.set nx (some Zb) h) nx.succ (T.set nx (some Zb) h) nx.succ := Fr.refl _ _ _
 have z0 := hs.mono (Fr.ext (rb := rb) (E0 h nx Zb))
 subst hkk
 refine S.c_ybm.call ?_
 simp [ybm]
 simp [ybm_r0]
 simp [ybm_r1]
 simp [ybm_r2, ybm_r4, ybm_r7, ybm_r13]
 simp [ybm_r14, S.raw, hs']
 refine (H _ _ r0 z0 (⟨_, hE, .inl ⟨t, rfl⟩⟩ : IsP rb (T.set nx (some Zb) h) nx.succ (.cref ([I 3, .str na nb, I n, cn, cb, ck, I at_] ++ t)) (.mk 3 (na, nb) n names binds kids at_))).mono ?_
 rintro o h1 nx1 ⟨f1, hR⟩
 have F1 := F0.trans f1
 cases hres : applyF rec_ M fn s (.mk 3 (na, nb) n names binds kids at_) st with
 | stop c st' =>
  rw [hres] at hR
  obtain ⟨rfl, hR⟩ := hR
  simp [stopO, valueF, hres]
  exact stop_ok F1.down hR
 | ok v st' =>
  rw [hres] at hR
  obtain ⟨⟨c1, hK1, rfl⟩, hR⟩ := hR
  have q1 := F1.res low
  have hcc := IsK.cell hK1
  have hcf : ∀ n h, frzA n c1 h = (c1, h) := IsK.stb hK1
  simp [q1, hcc, hcf, valueF, hres]
  exact fin_ok F1 low hR hK1
theorem value9_c {fn : Go.Sx.S} {s : Sc} {k : Int} {na nb : Nat} {n : Int} {names : List Go.Sx.S} {binds : List (List Go.Sx.S)} {at_ : Int} {st : St} {sp cn cb ck : AV} {h : T Blk} {nx : Key} {t : List AV} {kids : List E} (hc : c0 ≤ st.cf) (hr : Run rb D L st h nx) (hs : IsSc rb h nx sp s)
  (hk : IsEK ck kids) (H : ∀ (h : T Blk) (nx : Key), Run rb D L st h nx → IsSc rb h nx sp s → IsP rb h nx (.cref ([I 9, .str na nb, I n, cn, cb, ck, I at_] ++ t)) (.mk 9 (na, nb) n names binds kids at_) → CallA C n_ybi [.ptr rb 0, SA fn, sp, .cref ([I 9, .str na nb, I n, cn, cb, ck, I at_] ++ t)] h nx (Ends rb D L h nx (opF rec_ fn s (.mk 9 (na, nb) n names binds kids at_) st))) (hE : IsE [I 9, .str na nb, I n, cn, cb, ck, I at_] (.mk 9 (na, nb) n names binds kids at_)) (hkk : k = 9): CallA C n_ybm [.ptr rb 0, SA fn, sp, .cref ([I k, .str na nb, I n, cn, cb, ck, I at_] ++ t)] h nx (Ends rb D L h nx (valueF rec_ M fn s (.mk k (na, nb) n names binds kids at_) st)) := by
 have hs' : ∀ n h, frzA n sp h = (sp, h) := hs.stb
 have low := hr.low
 have s1 := Key.toNat_succ nx
 have r0 := hr.ext (E0 h nx Zb)
 have F0 : Fr rb (T.set nx (some Zb) h) nx.succ (T.set nx (some Zb) h) nx.succ := Fr.refl _ _ _
 have z0 := hs.mono (Fr.ext (rb := rb) (E0 h nx Zb))
 subst hkk
 refine S.c_ybm.call ?_
 simp [ybm]
 simp [ybm_r0]
 simp [ybm_r1]
 simp [ybm_r2, ybm_r4, ybm_r7, ybm_r13, ybm_r15, ybm_r21, ybm_r23, ybm_r30, ybm_r33, ybm_r35]
 simp [ybm_r36, S.raw, hs']
 refine (H _ _ r0 z0 (⟨_, hE, .inl ⟨t, rfl⟩⟩ : IsP rb (T.set nx (some Zb) h) nx.succ (.cref ([I 9, .str na nb, I n, cn, cb, ck, I at_] ++ t)) (.mk 9 (na, nb) n names binds kids at_))).mono ?_
 rintro o h1 nx1 ⟨f1, hR⟩
 have F1 := F0.trans f1
 cases hres : opF rec_ fn s (.mk 9 (na, nb) n names binds kids at_) st with
 | stop c st' =>
  rw [hres] at hR
  obtain ⟨rfl, hR⟩ := hR
  simp [stopO, valueF, hres]
  exact stop_ok F1.down hR
 | ok v st' =>
  rw [hres] at hR
  obtain ⟨⟨c1, hK1, rfl⟩, hR⟩ := hR
  have q1 := F1.res low
  have hcc := IsK.cell hK1
  have hcf : ∀ n h, frzA n c1 h = (c1, h) := IsK.stb hK1
  simp [q1, hcc, hcf, valueF, hres]
  exact fin_ok F1 low hR hK1
theorem value5_c {fn : Go.Sx.S} {s : Sc} {k : Int} {na nb : Nat} {n : Int} {names : List Go.Sx.S} {binds : List (List Go.Sx.S)} {at_ : Int} {st : St} {sp cn cb ck : AV} {h : T Blk} {nx : Key} {t : List AV} {kids : List E} (hc : c0 ≤ st.cf) (hr : Run rb D L st h nx) (hs : IsSc rb h nx sp s)
  (hk : IsEK ck kids) (hkk : k = 5): CallA C n_ybm [.ptr rb 0, SA fn, sp, .cref ([I k, .str na nb, I n, cn, cb, ck, I at_] ++ t)] h nx (Ends rb D L h nx (valueF rec_ M fn s (.mk k (na, nb) n names binds kids at_) st)) := by
 have hs' : ∀ n h, frzA n sp h = (sp, h) := hs.stb
 have low := hr.low
 have s1 := Key.toNat_succ nx
 have r0 := hr.ext (E0 h nx Zb)
 have F0 : Fr rb (T.set nx (some Zb) h) nx.succ (T.set nx (some Zb) h) nx.succ := Fr.refl _ _ _
 have z0 := hs.mono (Fr.ext (rb := rb) (E0 h nx Zb))
 subst hkk
 refine S.c_ybm.call ?_
 simp [ybm]
 simp [ybm_r0]
 simp [ybm_r1]
 simp [ybm_r2, ybm_r4, ybm_r7, ybm_r13, ybm_r15, ybm_r21]
 have hck : ∀ n h, frzA n ck h = (ck, h) := IsEK.stb hk
 simp [ybm_r22, S.raw, hs', hck]
 refine (rall_ok S HE hc r0 z0 hk).mono ?_
 rintro o h1 nx1 ⟨f1, hR⟩
 have t1 := f1.n
 have F1 := F0.trans f1
 cases hres : allF rec_ fn s kids st with
 | stop c st' =>
  rw [hres] at hR
  obtain ⟨rfl, hR⟩ := hR
  simp [stopO, valueF, joinR, hres]
  exact stop_ok F1.down hR
 | ok l st' =>
  rw [hres] at hR
  obtain ⟨⟨cs2, hcs2, rfl⟩, hR, hfit, hcf2, hcl2, hlen⟩ := hR
  have hkl : (kids : List E).length ≤ 4000 := by
   rcases hk with ⟨_, hh⟩ | ⟨_, _, hh, _⟩
   ·simp [hh]
   ·exact hh
  simp [S.raw]
  refine (joined_ok S 2 0 0 hcs2 (by omega) (fun v hv => (hfit v hv).1.z) _ _).mono ?_
  rintro o h7 nx7 ⟨⟨c7, hK7, rfl⟩, e7⟩
  have F7 := F1.trans (Fr.ext e7)
  have q7 := F7.res low
  have hcc := IsK.cell hK7
  have hcf : ∀ n h, frzA n c7 h = (c7, h) := IsK.stb hK7
  simp [q7, hcc, hcf, valueF, joinR, hres]
  exact fin_ok F7 low (hR.ext e7) hK7
theorem value4_c {fn : Go.Sx.S} {s : Sc} {k : Int} {na nb : Nat} {n : Int} {names : List Go.Sx.S} {binds : List (List Go.Sx.S)} {at_ : Int} {st : St} {sp cn cb ck : AV} {h : T Blk} {nx : Key} {t : List AV} {kids : List E} (hc : c0 ≤ st.cf) (hr : Run rb D L st h nx) (hs : IsSc rb h nx sp s)
  (hk : IsEK ck kids) (HC : ∀ a b, findK [] true (.str a b) D.cm = some ((findA (a, b) M.ctors).map I)) (hkk : k = 4): CallA C n_ybm [.ptr rb 0, SA fn, sp, .cref ([I k, .str na nb, I n, cn, cb, ck, I at_] ++ t)] h nx (Ends rb D L h nx (valueF rec_ M fn s (.mk k (na, nb) n names binds kids at_) st)) := by
 have hs' : ∀ n h, frzA n sp h = (sp, h) := hs.stb
 have low := hr.low
 have s1 := Key.toNat_succ nx
 have r0 := hr.ext (E0 h nx Zb)
 have F0 : Fr rb (T.set nx (some Zb) h) nx.succ (T.set nx (some Zb) h) nx.succ := Fr.refl _ _ _
 have z0 := hs.mono (Fr.ext (rb := rb) (E0 h nx Zb))
 subst hkk
 refine S.c_ybm.call ?_
 simp [ybm]
 simp [ybm_r0]
 simp [ybm_r1]
 simp [ybm_r2, ybm_r4, ybm_r7, ybm_r13, ybm_r15]
 have hck : ∀ n h, frzA n ck h = (ck, h) := IsEK.stb hk
 have gc0 := r0.gc
 obtain ⟨br, hb0, ha0⟩ := r0.blk
 have hC := HC na nb
 cases hf : findA (na, nb) M.ctors with
 | none =>
  rw [hf] at hC
  simp at hC
  simp [ybm_r16, hb0, gc0, S.orc, hC]
  simp [ybm_r17]
  simp [ybm_r18, S.raw]
  refine (end_ok S _ _ _).mono ?_
  rintro o h2 nx2 ⟨rfl, e2⟩
  simp [stopO, valueF, hf]
  exact stop_ok (F0.trans (Fr.ext e2)).down (r0.ext e2)
 | some m =>
  rw [hf] at hC
  simp at hC
  simp [ybm_r16, hb0, gc0, S.orc, hC]
  simp [ybm_r17]
  have hlen0 : ∀ (P : Prop), (∀ ck', IsEK ck' kids → ck' = ck → P) → P := fun P h => h ck hk rfl
  by_cases hm : (kids.length : Int) = m
  ·have hm' : ((kids.length : Int) == m) = true := by simpa using hm
   rcases id hk with ⟨rfl, rfl⟩ | ⟨cs, rfl, hel, hcs⟩
   ·have hm0 : m = 0 := by simpa using hm.symm
    subst hm0
    simp [ybm_r19, S.raw]
    refine (need_ok S _ _ _).mono ?_
    rintro o h1 nx1 ⟨rfl, e1⟩
    have t1 := e1.n
    have r1 := r0.ext e1
    have F1 := F0.trans (Fr.ext e1)
    have z1 := z0.mono (Fr.ext e1)
    simp
    simp [ybm_r20, S.raw, hs']
    refine (rall_ok S HE hc r1 z1 hk).mono ?_
    rintro o h2 nx2 ⟨f2, hR⟩
    have t2 := f2.n
    have F2 := F1.trans f2
    cases hres : allF rec_ fn s [] st with
    | stop c st' =>
     rw [hres] at hR
     obtain ⟨rfl, hR⟩ := hR
     simp [stopO, valueF, joinR, hres, hf]
     exact stop_ok F2.down hR
    | ok l st' =>
     rw [hres] at hR
     obtain ⟨⟨cs2, hcs2, rfl⟩, hR, hfit, hcf2, hcl2, hlen⟩ := hR
     have hkl : ([] : List E).length ≤ 4000 := by
      rcases hk with ⟨_, hh⟩ | ⟨_, _, hh, _⟩
      ·simp [hh]
      ·exact hh
     simp [S.raw, AV.beq]
     refine (joined_ok S 3 na nb hcs2 (by omega) (fun v hv => (hfit v hv).1.z) _ _).mono ?_
     rintro o h7 nx7 ⟨⟨c7, hK7, rfl⟩, e7⟩
     have F7 := F2.trans (Fr.ext e7)
     have q7 := F7.res low
     have hcc := IsK.cell hK7
     have hcf : ∀ n h, frzA n c7 h = (c7, h) := IsK.stb hK7
     simp [q7, hcc, hcf, valueF, joinR, hres, hf]
     exact fin_ok F7 low (hR.ext e7) hK7
   ·simp [ybm_r19, S.raw, hm']
    refine (need_ok S _ _ _).mono ?_
    rintro o h1 nx1 ⟨rfl, e1⟩
    have t1 := e1.n
    have r1 := r0.ext e1
    have F1 := F0.trans (Fr.ext e1)
    have z1 := z0.mono (Fr.ext e1)
    simp
    simp [ybm_r20, S.raw, hs']
    refine (rall_ok S HE hc r1 z1 hk).mono ?_
    rintro o h2 nx2 ⟨f2, hR⟩
    have t2 := f2.n
    have F2 := F1.trans f2
    cases hres : allF rec_ fn s kids st with
    | stop c st' =>
     rw [hres] at hR
     obtain ⟨rfl, hR⟩ := hR
     simp [stopO, valueF, joinR, hres, hf, hm]
     exact stop_ok F2.down hR
    | ok l st' =>
     rw [hres] at hR
     obtain ⟨⟨cs2, hcs2, rfl⟩, hR, hfit, hcf2, hcl2, hlen⟩ := hR
     have hkl : (kids : List E).length ≤ 4000 := by
      rcases hk with ⟨_, hh⟩ | ⟨_, _, hh, _⟩
      ·simp [hh]
      ·exact hh
     simp [S.raw, AV.beq]
     refine (joined_ok S 3 na nb hcs2 (by omega) (fun v hv => (hfit v hv).1.z) _ _).mono ?_
     rintro o h7 nx7 ⟨⟨c7, hK7, rfl⟩, e7⟩
     have F7 := F2.trans (Fr.ext e7)
     have q7 := F7.res low
     have hcc := IsK.cell hK7
     have hcf : ∀ n h, frzA n c7 h = (c7, h) := IsK.stb hK7
     simp [q7, hcc, hcf, valueF, joinR, hres, hf, hm]
     exact fin_ok F7 low (hR.ext e7) hK7
  ·have hm' : ((kids.length : Int) == m) = false := by simpa using hm
   rcases id hk with ⟨rfl, rfl⟩ | ⟨cs, rfl, hel, hcs⟩
   ·have hm2 : ((0 : Int) == m) = false := by simpa using hm'
    simp [ybm_r19, S.raw, hm2]
    refine (need_ok S _ _ _).mono ?_
    rintro o h1 nx1 ⟨rfl, e1⟩
    have t1 := e1.n
    have r1 := r0.ext e1
    have F1 := F0.trans (Fr.ext e1)
    have z1 := z0.mono (Fr.ext e1)
    simp at hm
    simp [valueF, hf, hm, stopO]
    exact stop_ok F1.down r1
   ·simp [ybm_r19, S.raw, hm']
    refine (need_ok S _ _ _).mono ?_
    rintro o h1 nx1 ⟨rfl, e1⟩
    have t1 := e1.n
    have r1 := r0.ext e1
    have F1 := F0.trans (Fr.ext e1)
    have z1 := z0.mono (Fr.ext e1)
    simp [valueF, hf, hm, stopO]
    exact stop_ok F1.down r1
end Tz
/-
 SV: the evaluator's function value. No condition.
-/
namespace Tz
open Go.Sx Go
variable {C : Cfg} (S : Std C) {rb : Key} {D : RunB} {L : Lim} {rec_ : Rec} {c0 : Int} (HE : EvOK C rb D L rec_ c0) (M : Md)
include S HE
theorem value3_p {fn : Go.Sx.S} {s : Sc} {k : Int} {na nb : Nat} {n : Int} {names : List Go.Sx.S} {binds : List (List Go.Sx.S)} {at_ : Int} {st : St} {sp cn cb ck : AV} {h : T Blk} {nx : Key} {pb : Key} {kids : List E} (hc : c0 ≤ st.cf) (hr : Run rb D L st h nx) (hs : IsSc rb h nx sp s)
  (hk : IsEK ck kids) (hpb : pb.toNat < nx.toNat) (hpr : pb ≠ rb) (hpg : T.get pb h = some (.cells [I k, .str na nb, I n, cn, cb, ck, I at_] .fix)) (H : ∀ (h : T Blk) (nx : Key), Run rb D L st h nx → IsSc rb h nx sp s → IsP rb h nx (.ptr pb 0) (.mk 3 (na, nb) n names binds kids at_) → CallA C n_ybe [.ptr rb 0, SA fn, sp, .ptr pb 0] h nx (Ends rb D L h nx (applyF rec_ M fn s (.mk 3 (na, nb) n names binds kids at_) st))) (hE : IsE [I 3, .str na nb, I n, cn, cb, ck, I at_] (.mk 3 (na, nb) n names binds kids at_)) (hkk : k = 3): CallA C n_ybm [.ptr rb 0, SA fn, sp, .ptr pb 0] h nx (Ends rb D L h nx (valueF rec_ M fn s (.mk k (na, nb) n names binds kids at_) st)) := by
 have hs' : ∀ n h, frzA n sp h = (sp, h) := hs.stb
 have low := hr.low
 have s1 := Key.toNat_succ nx
 have r0 := hr.ext (E0 h nx Zb)
 have F0 : Fr rb (T.set nx (some Zb) h) nx.succ (T.set nx (some Zb) h) nx.succ := Fr.refl _ _ _
 have z0 := hs.mono (Fr.ext (rb := rb) (E0 h nx Zb))
 have p0 : T.get pb (T.set nx (some Zb) h) = some (.cells [I k, .str na nb, I n, cn, cb, ck, I at_] .fix) := by rw [get_lt hpb]; exact hpg
 subst hkk
 refine S.c_ybm.call ?_
 simp [ybm]
 simp [ybm_r0]
 simp [ybm_r1, p0]
 simp [ybm_r2, ybm_r4, ybm_r7, ybm_r13]
 simp [ybm_r14, S.raw, hs']
 refine (H _ _ r0 z0 (⟨_, hE, .inr ⟨pb, rfl, p0, by omega, hpr, .inl rfl⟩⟩ : IsP rb (T.set nx (some Zb) h) nx.succ (.ptr pb 0) (.mk 3 (na, nb) n names binds kids at_))).mono ?_
 rintro o h1 nx1 ⟨f1, hR⟩
 have F1 := F0.trans f1
 cases hres : applyF rec_ M fn s (.mk 3 (na, nb) n names binds kids at_) st with
 | stop c st' =>
  rw [hres] at hR
  obtain ⟨rfl, hR⟩ := hR
  simp [stopO, valueF, hres]
  exact stop_ok F1.down hR
 | ok v st' =>
  rw [hres] at hR
  obtain ⟨⟨c1, hK1, rfl⟩, hR⟩ := hR
  have q1 := F1.res low
  have hcc := IsK.cell hK1
  have hcf : ∀ n h, frzA n c1 h = (c1, h) := IsK.stb hK1
  simp [q1, hcc, hcf, valueF, hres]
  exact fin_ok F1 low hR hK1
theorem value9_p {fn : Go.Sx.S} {s : Sc} {k : Int} {na nb : Nat} {n : Int} {names : List Go.Sx.S} {binds : List (List Go.Sx.S)} {at_ : Int} {st : St} {sp cn cb ck : AV} {h : T Blk} {nx : Key} {pb : Key} {kids : List E} (hc : c0 ≤ st.cf) (hr : Run rb D L st h nx) (hs : IsSc rb h nx sp s)
  (hk : IsEK ck kids) (hpb : pb.toNat < nx.toNat) (hpr : pb ≠ rb) (hpg : T.get pb h = some (.cells [I k, .str na nb, I n, cn, cb, ck, I at_] .fix)) (H : ∀ (h : T Blk) (nx : Key), Run rb D L st h nx → IsSc rb h nx sp s → IsP rb h nx (.ptr pb 0) (.mk 9 (na, nb) n names binds kids at_) → CallA C n_ybi [.ptr rb 0, SA fn, sp, .ptr pb 0] h nx (Ends rb D L h nx (opF rec_ fn s (.mk 9 (na, nb) n names binds kids at_) st))) (hE : IsE [I 9, .str na nb, I n, cn, cb, ck, I at_] (.mk 9 (na, nb) n names binds kids at_)) (hkk : k = 9): CallA C n_ybm [.ptr rb 0, SA fn, sp, .ptr pb 0] h nx (Ends rb D L h nx (valueF rec_ M fn s (.mk k (na, nb) n names binds kids at_) st)) := by
 have hs' : ∀ n h, frzA n sp h = (sp, h) := hs.stb
 have low := hr.low
 have s1 := Key.toNat_succ nx
 have r0 := hr.ext (E0 h nx Zb)
 have F0 : Fr rb (T.set nx (some Zb) h) nx.succ (T.set nx (some Zb) h) nx.succ := Fr.refl _ _ _
 have z0 := hs.mono (Fr.ext (rb := rb) (E0 h nx Zb))
 have p0 : T.get pb (T.set nx (some Zb) h) = some (.cells [I k, .str na nb, I n, cn, cb, ck, I at_] .fix) := by rw [get_lt hpb]; exact hpg
 subst hkk
 refine S.c_ybm.call ?_
 simp [ybm]
 simp [ybm_r0]
 simp [ybm_r1, p0]
 simp [ybm_r2, ybm_r4, ybm_r7, ybm_r13, ybm_r15, ybm_r21, ybm_r23, ybm_r30, ybm_r33, ybm_r35]
 simp [ybm_r36, S.raw, hs']
 refine (H _ _ r0 z0 (⟨_, hE, .inr ⟨pb, rfl, p0, by omega, hpr, .inr rfl⟩⟩ : IsP rb (T.set nx (some Zb) h) nx.succ (.ptr pb 0) (.mk 9 (na, nb) n names binds kids at_))).mono ?_
 rintro o h1 nx1 ⟨f1, hR⟩
 have F1 := F0.trans f1
 cases hres : opF rec_ fn s (.mk 9 (na, nb) n names binds kids at_) st with
 | stop c st' =>
  rw [hres] at hR
  obtain ⟨rfl, hR⟩ := hR
  simp [stopO, valueF, hres]
  exact stop_ok F1.down hR
 | ok v st' =>
  rw [hres] at hR
  obtain ⟨⟨c1, hK1, rfl⟩, hR⟩ := hR
  have q1 := F1.res low
  have hcc := IsK.cell hK1
  have hcf : ∀ n h, frzA n c1 h = (c1, h) := IsK.stb hK1
  simp [q1, hcc, hcf, valueF, hres]
  exact fin_ok F1 low hR hK1
end Tz
/-
 SV: the evaluator's function value, further kinds. No condition.
-/
namespace Tz
open Go.Sx Go
theorem wrap01 : wrapF .i64 (1 + 0) = 1 := by decide
theorem wrap11 : wrapF .i64 (1 + 1) = 2 := by decide
variable {C : Cfg} (S : Std C) {rb : Key} {D : RunB} {L : Lim} {rec_ : Rec} {c0 : Int} (HE : EvOK C rb D L rec_ c0) (M : Md)
include S HE
theorem value6_c {fn : Go.Sx.S} {s : Sc} {k : Int} {na nb : Nat} {n : Int} {names : List Go.Sx.S} {binds : List (List Go.Sx.S)} {at_ : Int} {st : St} {sp cn cb ck : AV} {h : T Blk} {nx : Key} {t : List AV} {kids : List E} (hc : c0 ≤ st.cf) (hr : Run rb D L st h nx) (hs : IsSc rb h nx sp s)
  (hk : IsEK ck kids) (HL : Lims L) (hbr : (st.brs.length : Int) + 1 ≤ st.cf) (hkk : k = 6): CallA C n_ybm [.ptr rb 0, SA fn, sp, .cref ([I k, .str na nb, I n, cn, cb, ck, I at_] ++ t)] h nx (Ends rb D L h nx (valueF rec_ M fn s (.mk k (na, nb) n names binds kids at_) st)) := by
 have hs' : ∀ n h, frzA n sp h = (sp, h) := hs.stb
 have low := hr.low
 have s1 := Key.toNat_succ nx
 have r0 := hr.ext (E0 h nx Zb)
 have F0 : Fr rb (T.set nx (some Zb) h) nx.succ (T.set nx (some Zb) h) nx.succ := Fr.refl _ _ _
 have z0 := hs.mono (Fr.ext (rb := rb) (E0 h nx Zb))
 subst hkk
 refine S.c_ybm.call ?_
 simp [ybm]
 simp [ybm_r0]
 simp [ybm_r1]
 simp [ybm_r2, ybm_r4, ybm_r7, ybm_r13, ybm_r15, ybm_r21, ybm_r23]
 rcases hk with ⟨rfl, rfl⟩ | ⟨cs, rfl, hel, hcs⟩
 ·simp [ybm_r24, S.raw]
  refine (need_ok S _ _ _).mono ?_
  rintro o h1 nx1 ⟨rfl, e1⟩
  have t1 := e1.n
  have r1 := r0.ext e1
  have F1 := F0.trans (Fr.ext e1)
  have z1 := z0.mono (Fr.ext e1)
  simp [valueF, stopO]
  exact stop_ok F1.down r1
 ·rcases kids with _ | ⟨a, _ | ⟨b, _ | ⟨c, _ | ⟨d, kids⟩⟩⟩⟩
  ·simp [ybm_r24, S.raw]
   refine (need_ok S _ _ _).mono ?_
   rintro o h1 nx1 ⟨rfl, e1⟩
   have t1 := e1.n
   have r1 := r0.ext e1
   have F1 := F0.trans (Fr.ext e1)
   have z1 := z0.mono (Fr.ext e1)
   simp [valueF, stopO]
   exact stop_ok F1.down r1
  ·simp [ybm_r24, S.raw]
   refine (need_ok S _ _ _).mono ?_
   rintro o h1 nx1 ⟨rfl, e1⟩
   have t1 := e1.n
   have r1 := r0.ext e1
   have F1 := F0.trans (Fr.ext e1)
   have z1 := z0.mono (Fr.ext e1)
   simp [valueF, stopO]
   exact stop_ok F1.down r1
  ·simp [ybm_r24, S.raw]
   refine (need_ok S _ _ _).mono ?_
   rintro o h1 nx1 ⟨rfl, e1⟩
   have t1 := e1.n
   have r1 := r0.ext e1
   have F1 := F0.trans (Fr.ext e1)
   have z1 := z0.mono (Fr.ext e1)
   simp [valueF, stopO]
   exact stop_ok F1.down r1
  ·have hcl : cs.length = 21 := by have := hcs.hc; simpa using this
   simp [ybm_r24, S.raw]
   refine (need_ok S _ _ _).mono ?_
   rintro o h1 nx1 ⟨rfl, e1⟩
   have t1 := e1.n
   have r1 := r0.ext e1
   have F1 := F0.trans (Fr.ext e1)
   have z1 := z0.mono (Fr.ext e1)
   simp
   simp [ybm_r25]
   simp [ybm_r26, S.raw, hs', hcl]
   obtain ⟨_, ga⟩ := HE fn s a st sp (.cref (List.take 7 cs)) h1 nx1 hc r1 z1 (by simpa using IsP.at (rb := rb) (h := h1) (nx := nx1) hcs (i := 0) (by simp))
   refine (rtruth_ok S HE (e := a) (ep := .cref (List.take 7 cs)) hc r1 z1 (by simpa using IsP.at (rb := rb) (h := h1) (nx := nx1) hcs (i := 0) (by simp))).mono ?_
   rintro o h2 nx2 ⟨f2, hR⟩
   have t2 := f2.n
   have F2 := F1.trans f2
   cases hrec : rec_ fn s a st with
   | stop c' st' =>
    rw [hrec] at hR
    obtain ⟨rfl, hR⟩ := hR
    simp [stopO, valueF, truthF, hrec]
    exact stop_ok F2.down hR
   | ok v st' =>
    rw [hrec] at hR
    obtain ⟨a1, a2, hR⟩ := hR
    have hg := (ga v st' hrec).c
    have hgb := (ga v st' hrec).b
    by_cases hv : v.k = 1
    ·have ho := a1 hv
     subst ho
     cases ht : (v.n == 1) with
     | true =>
      simp [ybm_r27]
      obtain ⟨br, hb2, ha2⟩ := hR.blk
      have low2 : rb.toNat < nx2.toNat := by omega
      have s2 := Key.toNat_succ nx2
      have ha' : IsApp br (brsA st'.brs) st'.brs.length 3 (T.set nx2 (some (Blk.cells [SA fn, I at_, I 0] .fix)) h2) nx2.succ := ha2.keep (by omega) fun b hb _ => get_lt hb
      have hst : ∀ x ∈ [SA fn, I at_, I 0], Stb x := by
       intro x hx
       simp at hx
       rcases hx with rfl | rfl | rfl
       ·exact stb_str _ _
       ·exact fun k h => by cases k <;> rfl
       ·exact fun k h => by cases k <;> rfl
      have hfl := HL.f1
      have hcc1 := hR.c1
      obtain ⟨c', h3, nx3, he, ha3, t3, g3, o3⟩ := ha'.addO (new := [SA fn, I at_, I 0]) rfl (by omega) rfl hst
      have gr : ∀ v t, T.get rb (T.set nx2 v t) = T.get (α := Blk) rb t := fun v t => get_lt low2
      have hb3 : T.get rb h3 = some (.cells (runC D L st' br) .fix) := by
       rw [g3 rb (by omega) (by rw [gr, hb2]; trivial), gr]; exact hb2
      have hcc := ha3.cell.1
      have hcs2 := ha3.cell.2
      simp [-appendTo, ybm_r28, List.filter_cons, gr, hb2, he, hb3, hcc, hcs2]
      have R3 : Run rb D L { st' with brs := st'.brs ++ [⟨fn, at_, 0⟩] } (T.set rb (some (.cells (runC D L { st' with brs := st'.brs ++ [⟨fn, at_, 0⟩] } c') .fix)) h3) nx3 := by
       refine hR.put (by omega) (fun b hb hne hkp => ?_) (by rw [T.get_set_same]) ?_ hR.c0 hR.c1 ?_ hR.k0 hR.k1 hR.b0
       ·rw [T.get_set_ne _ _ _ _ hne, g3 b (by omega) (by rw [get_lt hb]; exact hkp), get_lt hb]
       ·have e1 : brsA (st'.brs ++ [⟨fn, at_, 0⟩]) = brsA st'.brs ++ [SA fn, I at_, I 0] := by simp [brsA, brA]
        simp only [e1, List.length_append, List.length_cons, List.length_nil]
        refine ha3.keep (Nat.le_refl _) fun b hb hx => ?_
        have hne : b ≠ rb := by
         intro e; subst e
         rcases hx with hx | ⟨l, hx⟩ <;> rw [hb3] at hx <;> cases hx
        rw [T.get_set_ne _ _ _ _ hne]
       ·simp; omega
      have f3 : Fr rb h2 nx2 (T.set rb (some (.cells (runC D L { st' with brs := st'.brs ++ [⟨fn, at_, 0⟩] } c') .fix)) h3) nx3 := Fr.app (by omega) (fun b hb hne hkp => by
       rw [g3 b (by omega) (by rw [get_lt hb]; exact hkp), get_lt hb]) fun b o => by rw [o3 b o]; omega
      have F3 := F2.trans f3
      have t3' := f3.n
      simp [ybm_r29, S.raw, hs', hcl, wrap01, wrap11, natOf_two]
      obtain ⟨ca, _⟩ := HE fn s b { st' with brs := st'.brs ++ [⟨fn, at_, 0⟩] } sp (.cref (List.take 7 (List.drop 7 cs))) _ nx3 (by simp; omega) R3 ((z1.mono f2).mono f3) (by simpa using IsP.at (rb := rb) (h := (T.set rb (some (.cells (runC D L { st' with brs := st'.brs ++ [⟨fn, at_, 0⟩] } c') .fix)) h3)) (nx := nx3) hcs (i := 1) (by simp))
      refine ca.mono ?_
      rintro o h4 nx4 ⟨f4, hR⟩
      have F4 := F3.trans f4
      have hval : valueF rec_ M fn s (.mk 6 (na, nb) n names binds [a, b, c] at_) st = rec_ fn s b { st' with brs := st'.brs ++ [⟨fn, at_, 0⟩] } := by
       simp [valueF, truthF, hrec, hv, ht]
      rw [hval]
      cases hres : rec_ fn s b { st' with brs := st'.brs ++ [⟨fn, at_, 0⟩] } with
      | stop c st2 =>
       rw [hres] at hR
       obtain ⟨rfl, hR⟩ := hR
       simp [stopO]
       exact stop_ok F4.down hR
      | ok v2 st2 =>
       rw [hres] at hR
       obtain ⟨⟨c4, hK4, rfl⟩, hR⟩ := hR
       have q4 := F4.res low
       have hcc4 := IsK.cell hK4
       have hcf4 : ∀ n h, frzA n c4 h = (c4, h) := IsK.stb hK4
       simp [q4, hcc4, hcf4]
       exact fin_ok F4 low hR hK4
     | false =>
      simp
      obtain ⟨br, hb2, ha2⟩ := hR.blk
      have low2 : rb.toNat < nx2.toNat := by omega
      have s2 := Key.toNat_succ nx2
      have ha' : IsApp br (brsA st'.brs) st'.brs.length 3 (T.set nx2 (some (Blk.cells [SA fn, I at_, I 1] .fix)) h2) nx2.succ := ha2.keep (by omega) fun b hb _ => get_lt hb
      have hst : ∀ x ∈ [SA fn, I at_, I 1], Stb x := by
       intro x hx
       simp at hx
       rcases hx with rfl | rfl | rfl
       ·exact stb_str _ _
       ·exact fun k h => by cases k <;> rfl
       ·exact fun k h => by cases k <;> rfl
      have hfl := HL.f1
      have hcc1 := hR.c1
      obtain ⟨c', h3, nx3, he, ha3, t3, g3, o3⟩ := ha'.addO (new := [SA fn, I at_, I 1]) rfl (by omega) rfl hst
      have gr : ∀ v t, T.get rb (T.set nx2 v t) = T.get (α := Blk) rb t := fun v t => get_lt low2
      have hb3 : T.get rb h3 = some (.cells (runC D L st' br) .fix) := by
       rw [g3 rb (by omega) (by rw [gr, hb2]; trivial), gr]; exact hb2
      have hcc := ha3.cell.1
      have hcs2 := ha3.cell.2
      simp [-appendTo, ybm_r28, List.filter_cons, gr, hb2, he, hb3, hcc, hcs2]
      have R3 : Run rb D L { st' with brs := st'.brs ++ [⟨fn, at_, 1⟩] } (T.set rb (some (.cells (runC D L { st' with brs := st'.brs ++ [⟨fn, at_, 1⟩] } c') .fix)) h3) nx3 := by
       refine hR.put (by omega) (fun b hb hne hkp => ?_) (by rw [T.get_set_same]) ?_ hR.c0 hR.c1 ?_ hR.k0 hR.k1 hR.b0
       ·rw [T.get_set_ne _ _ _ _ hne, g3 b (by omega) (by rw [get_lt hb]; exact hkp), get_lt hb]
       ·have e1 : brsA (st'.brs ++ [⟨fn, at_, 1⟩]) = brsA st'.brs ++ [SA fn, I at_, I 1] := by simp [brsA, brA]
        simp only [e1, List.length_append, List.length_cons, List.length_nil]
        refine ha3.keep (Nat.le_refl _) fun b hb hx => ?_
        have hne : b ≠ rb := by
         intro e; subst e
         rcases hx with hx | ⟨l, hx⟩ <;> rw [hb3] at hx <;> cases hx
        rw [T.get_set_ne _ _ _ _ hne]
       ·simp; omega
      have f3 : Fr rb h2 nx2 (T.set rb (some (.cells (runC D L { st' with brs := st'.brs ++ [⟨fn, at_, 1⟩] } c') .fix)) h3) nx3 := Fr.app (by omega) (fun b hb hne hkp => by
       rw [g3 b (by omega) (by rw [get_lt hb]; exact hkp), get_lt hb]) fun b o => by rw [o3 b o]; omega
      have F3 := F2.trans f3
      have t3' := f3.n
      simp [ybm_r29, S.raw, hs', hcl, wrap01, wrap11, natOf_two]
      obtain ⟨ca, _⟩ := HE fn s c { st' with brs := st'.brs ++ [⟨fn, at_, 1⟩] } sp (.cref (List.take 7 (List.drop 14 cs))) _ nx3 (by simp; omega) R3 ((z1.mono f2).mono f3) (by simpa using IsP.at (rb := rb) (h := (T.set rb (some (.cells (runC D L { st' with brs := st'.brs ++ [⟨fn, at_, 1⟩] } c') .fix)) h3)) (nx := nx3) hcs (i := 2) (by simp))
      refine ca.mono ?_
      rintro o h4 nx4 ⟨f4, hR⟩
      have F4 := F3.trans f4
      have hval : valueF rec_ M fn s (.mk 6 (na, nb) n names binds [a, b, c] at_) st = rec_ fn s c { st' with brs := st'.brs ++ [⟨fn, at_, 1⟩] } := by
       simp [valueF, truthF, hrec, hv, ht]
      rw [hval]
      cases hres : rec_ fn s c { st' with brs := st'.brs ++ [⟨fn, at_, 1⟩] } with
      | stop c st2 =>
       rw [hres] at hR
       obtain ⟨rfl, hR⟩ := hR
       simp [stopO]
       exact stop_ok F4.down hR
      | ok v2 st2 =>
       rw [hres] at hR
       obtain ⟨⟨c4, hK4, rfl⟩, hR⟩ := hR
       have q4 := F4.res low
       have hcc4 := IsK.cell hK4
       have hcf4 : ∀ n h, frzA n c4 h = (c4, h) := IsK.stb hK4
       simp [q4, hcc4, hcf4]
       exact fin_ok F4 low hR hK4
    ·have ho := a2 hv
     subst ho
     simp [stopO, valueF, truthF, hrec, hv]
     exact stop_ok F2.down hR
  ·simp [ybm_r24, S.raw]
   refine (need_ok S _ _ _).mono ?_
   rintro o h1 nx1 ⟨rfl, e1⟩
   have t1 := e1.n
   have r1 := r0.ext e1
   have F1 := F0.trans (Fr.ext e1)
   have z1 := z0.mono (Fr.ext e1)
   simp [valueF, stopO]
   exact stop_ok F1.down r1
theorem value7_c {fn : Go.Sx.S} {s : Sc} {k : Int} {na nb : Nat} {n : Int} {names : List Go.Sx.S} {binds : List (List Go.Sx.S)} {at_ : Int} {st : St} {sp cn cb ck : AV} {h : T Blk} {nx : Key} {t : List AV} {kids : List E} (hc : c0 ≤ st.cf) (hr : Run rb D L st h nx) (hs : IsSc rb h nx sp s)
  (hk : IsEK ck kids) (hkk : k = 7): CallA C n_ybm [.ptr rb 0, SA fn, sp, .cref ([I k, .str na nb, I n, cn, cb, ck, I at_] ++ t)] h nx (Ends rb D L h nx (valueF rec_ M fn s (.mk k (na, nb) n names binds kids at_) st)) := by
 have hs' : ∀ n h, frzA n sp h = (sp, h) := hs.stb
 have low := hr.low
 have s1 := Key.toNat_succ nx
 have r0 := hr.ext (E0 h nx Zb)
 have F0 : Fr rb (T.set nx (some Zb) h) nx.succ (T.set nx (some Zb) h) nx.succ := Fr.refl _ _ _
 have z0 := hs.mono (Fr.ext (rb := rb) (E0 h nx Zb))
 subst hkk
 refine S.c_ybm.call ?_
 simp [ybm]
 simp [ybm_r0]
 simp [ybm_r1]
 simp [ybm_r2, ybm_r4, ybm_r7, ybm_r13, ybm_r15, ybm_r21, ybm_r23, ybm_r30]
 rcases hk with ⟨rfl, rfl⟩ | ⟨cs, rfl, hel, hcs⟩
 ·simp [ybm_r31, S.raw]
  refine (need_ok S _ _ _).mono ?_
  rintro o h1 nx1 ⟨rfl, e1⟩
  have t1 := e1.n
  have r1 := r0.ext e1
  have F1 := F0.trans (Fr.ext e1)
  have z1 := z0.mono (Fr.ext e1)
  simp [valueF, stopO]
  exact stop_ok F1.down r1
 ·rcases kids with _ | ⟨a, _ | ⟨b, _ | ⟨c, kids⟩⟩⟩
  ·simp [ybm_r31, S.raw]
   refine (need_ok S _ _ _).mono ?_
   rintro o h1 nx1 ⟨rfl, e1⟩
   have t1 := e1.n
   have r1 := r0.ext e1
   have F1 := F0.trans (Fr.ext e1)
   have z1 := z0.mono (Fr.ext e1)
   simp [valueF, stopO]
   exact stop_ok F1.down r1
  ·simp [ybm_r31, S.raw]
   refine (need_ok S _ _ _).mono ?_
   rintro o h1 nx1 ⟨rfl, e1⟩
   have t1 := e1.n
   have r1 := r0.ext e1
   have F1 := F0.trans (Fr.ext e1)
   have z1 := z0.mono (Fr.ext e1)
   simp [valueF, stopO]
   exact stop_ok F1.down r1
  ·have hcl : cs.length = 14 := by have := hcs.hc; simpa using this
   have hbq : AV.beq (.sl cs 2 7 .any) (.sl cs 2 7 .any) = true := by simpa using hcs.beq
   have hbs : AV.beqs cs cs = true := by simpa [AV.beq, sfBeq_refl] using hbq
   simp [ybm_r31, S.raw]
   refine (need_ok S _ _ _).mono ?_
   rintro o h1 nx1 ⟨rfl, e1⟩
   have t1 := e1.n
   have r1 := r0.ext e1
   have F1 := F0.trans (Fr.ext e1)
   have z1 := z0.mono (Fr.ext e1)
   simp
   simp [ybm_r32, S.raw, hs', hcl]
   obtain ⟨ca, ga⟩ := HE fn s a st sp (.cref (List.take 7 cs)) h1 nx1 hc r1 z1 (by simpa using IsP.at (rb := rb) (h := h1) (nx := nx1) hcs (i := 0) (by simp))
   refine ca.mono ?_
   rintro o h2 nx2 ⟨f2, hR⟩
   have t2 := f2.n
   have F2 := F1.trans f2
   cases hrec : rec_ fn s a st with
   | stop c' st' =>
    rw [hrec] at hR
    obtain ⟨rfl, hR⟩ := hR
    simp [stopO, valueF, hrec]
    exact stop_ok F2.down hR
   | ok v st' =>
    rw [hrec] at hR
    obtain ⟨⟨c2, hK2, rfl⟩, hR⟩ := hR
    have hg := ga v st' hrec
    have hgc := hg.c
    have hcc := IsK.cell hK2
    have hcs2 := IsK.cells hK2
    have z2 := z1.mono f2
    have hsc := z2.cell
    have E2 := E0 h2 nx2 (.cells [.str na nb, I v.k, I v.n, .str v.a v.b, c2, I v.size, sp] .fix)
    have s2 := Key.toNat_succ nx2
    have F3 := F2.trans (Fr.ext E2)
    have z3 : IsSc rb (T.set nx2 (some (.cells [.str na nb, I v.k, I v.n, .str v.a v.b, c2, I v.size, sp] .fix)) h2) nx2.succ (.ptr nx2 0) (((na, nb), v) :: s) :=
     .cons nx2 (na, nb) v c2 sp s (by omega) (fun e => by have := hr.low; rw [← e] at this; omega) (by rw [T.get_set_same]) hK2 (by have := hg.f.z; omega) (z2.mono (Fr.ext E2))
    simp [AV.beq, hbs, sfBeq_refl, hsc.1, hsc.2, hcc, List.filter_cons, S.raw]
    obtain ⟨cb', _⟩ := HE fn (((na, nb), v) :: s) b st' (.ptr nx2 0) (.cref (List.take 7 (List.drop 7 cs))) _ nx2.succ (by omega) (hR.ext E2) z3 (by simpa using IsP.at (rb := rb) (h := (T.set nx2 (some (.cells [.str na nb, I v.k, I v.n, .str v.a v.b, c2, I v.size, sp] .fix)) h2)) (nx := nx2.succ) hcs (i := 1) (by simp))
    refine cb'.mono ?_
    rintro o h4 nx4 ⟨f4, hR⟩
    have F4 := F3.trans f4
    have hval : valueF rec_ M fn s (.mk 7 (na, nb) n names binds [a, b] at_) st = rec_ fn (((na, nb), v) :: s) b st' := by
     simp [valueF, hrec]
    rw [hval]
    cases hres : rec_ fn (((na, nb), v) :: s) b st' with
    | stop c st2 =>
     rw [hres] at hR
     obtain ⟨rfl, hR⟩ := hR
     simp [stopO]
     exact stop_ok F4.down hR
    | ok v2 st2 =>
     rw [hres] at hR
     obtain ⟨⟨c4, hK4, rfl⟩, hR⟩ := hR
     have q4 := F4.res low
     have hcc4 := IsK.cell hK4
     have hcf4 : ∀ n h, frzA n c4 h = (c4, h) := IsK.stb hK4
     simp [q4, hcc4, hcf4, List.filter_cons]
     exact fin_ok F4 low hR hK4
  ·simp [ybm_r31, S.raw]
   refine (need_ok S _ _ _).mono ?_
   rintro o h1 nx1 ⟨rfl, e1⟩
   have t1 := e1.n
   have r1 := r0.ext e1
   have F1 := F0.trans (Fr.ext e1)
   have z1 := z0.mono (Fr.ext e1)
   simp [valueF, stopO]
   exact stop_ok F1.down r1
theorem valueX_c {fn : Go.Sx.S} {s : Sc} {k : Int} {na nb : Nat} {n : Int} {names : List Go.Sx.S} {binds : List (List Go.Sx.S)} {at_ : Int} {st : St} {sp cn cb ck : AV} {h : T Blk} {nx : Key} {t : List AV} {kids : List E} (hc : c0 ≤ st.cf) (hr : Run rb D L st h nx) (hs : IsSc rb h nx sp s)
  (hk : IsEK ck kids) (hkk : k ≠ 0 ∧ k ≠ 1 ∧ k ≠ 2 ∧ k ≠ 3 ∧ k ≠ 4 ∧ k ≠ 5 ∧ k ≠ 6 ∧ k ≠ 7 ∧ k ≠ 8 ∧ k ≠ 9): CallA C n_ybm [.ptr rb 0, SA fn, sp, .cref ([I k, .str na nb, I n, cn, cb, ck, I at_] ++ t)] h nx (Ends rb D L h nx (valueF rec_ M fn s (.mk k (na, nb) n names binds kids at_) st)) := by
 have hs' : ∀ n h, frzA n sp h = (sp, h) := hs.stb
 have low := hr.low
 have s1 := Key.toNat_succ nx
 have r0 := hr.ext (E0 h nx Zb)
 have F0 : Fr rb (T.set nx (some Zb) h) nx.succ (T.set nx (some Zb) h) nx.succ := Fr.refl _ _ _
 have z0 := hs.mono (Fr.ext (rb := rb) (E0 h nx Zb))
 refine S.c_ybm.call ?_
 simp [ybm]
 simp [ybm_r0]
 simp [ybm_r1]
 obtain ⟨k0, k1, k2, k3, k4, k5, k6, k7, k8, k9⟩ := hkk
 have k0' : (k == 0) = false := by simpa using k0
 have k1' : (k == 1) = false := by simpa using k1
 have k2' : (k == 2) = false := by simpa using k2
 have k3' : (k == 3) = false := by simpa using k3
 have k4' : (k == 4) = false := by simpa using k4
 have k5' : (k == 5) = false := by simpa using k5
 have k6' : (k == 6) = false := by simpa using k6
 have k7' : (k == 7) = false := by simpa using k7
 have k8' : (k == 8) = false := by simpa using k8
 have k9' : (k == 9) = false := by simpa using k9
 simp [ybm_r2, ybm_r4, ybm_r7, ybm_r13, ybm_r15, ybm_r21, ybm_r23, ybm_r30, ybm_r33, ybm_r35, k0', k1', k2', k3', k4', k5', k6', k7', k8', k9']
 simp [ybm_r37, S.raw]
 refine (end_ok S _ _ _).mono ?_
 rintro o h2 nx2 ⟨rfl, e2⟩
 simp [stopO, valueF, k0, k1, k2, k3, k4, k5, k6, k7, k8, k9]
 exact stop_ok (F0.trans (Fr.ext e2)).down (r0.ext e2)
end Tz
