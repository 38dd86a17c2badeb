/-
  SV: the evaluator's function apply. No condition.
-/
import Derived.Test.YthhjnogfljegnaaGreatDoorVVal
set_option linter.unusedSimpArgs false
set_option linter.unusedVariables false
set_option linter.unusedSectionVars false
namespace Tz
open Go.Sx Go
def bmA : List (AV × AV) := [(.str 4 1702521203, .agg [I 1, .fn n_eval_builtins_c1 [] []]), (.str 2 29793, .agg [I 2, .fn n_eval_at [] []]), (.str 4 1752397168, .agg [I 2, .fn n_eval_builtins_c2 [] []]), (.str 4 1701536116, .agg [I 2, .fn n_eval_builtins_c3 [] []]), (.str 4 1886351972, .agg [I 2, .fn n_eval_builtins_c4 [] []]), (.str 3 7628147, .agg [I 3, .fn n_eval_set [] []]), (.str 3 7889261, .agg [I 2, .fn n_eval_builtins_c5 [] []]), (.str 3 7235949, .agg [I 2, .fn n_eval_builtins_c6 [] []]), (.str 4 1885957222, .agg [I 1, .fn n_eval_flip [] []])]
theorem len1 {l : List V} (h : l.length = [()].length) : ∃ x, l = [x] := by
  rcases l with _ | ⟨x, _ | ⟨y, l⟩⟩ <;> simp at h
  exact ⟨x, rfl⟩
theorem len2 {l : List V} (h : l.length = [(), ()].length) : ∃ x y, l = [x, y] := by
  rcases l with _ | ⟨x, _ | ⟨y, _ | ⟨z, l⟩⟩⟩ <;> simp at h
  exact ⟨x, y, rfl⟩
theorem len3 {l : List V} (h : l.length = [(), (), ()].length) : ∃ x y z, l = [x, y, z] := by
  rcases l with _ | ⟨x, _ | ⟨y, _ | ⟨z, _ | ⟨w, l⟩⟩⟩⟩ <;> simp at h
  exact ⟨x, y, z, rfl⟩
theorem rw1 {cs : List AV} {x : V} (h : Rw 5 IsZ cs [x]) : ∃ c, IsK c x.kids ∧ cs = szc x c := by
  obtain ⟨c, hK, e⟩ := h.hk 0 (by simp)
  refine ⟨c, hK, ?_⟩
  have hl := h.hc
  simp at hl e
  rwa [List.take_of_length_le (by omega)] at e
theorem rw2 {cs : List AV} {x y : V} (h : Rw 5 IsZ cs [x, y]) : ∃ c d, IsK c x.kids ∧ IsK d y.kids ∧ cs = szc x c ++ szc y d := by
  obtain ⟨c, hK, e⟩ := h.hk 0 (by simp)
  obtain ⟨d, hD, e2⟩ := h.hk 1 (by simp)
  refine ⟨c, d, hK, hD, ?_⟩
  have hl := h.hc
  simp at hl e e2
  have : cs = cs.take 5 ++ (cs.drop 5).take 5 := by
    rw [List.take_of_length_le (l := cs.drop 5) (by simp; omega), List.take_append_drop]
  rw [this, e, e2]
  try simp
theorem rw3 {cs : List AV} {x y z : V} (h : Rw 5 IsZ cs [x, y, z]) : ∃ c d e, IsK c x.kids ∧ IsK d y.kids ∧ IsK e z.kids ∧ cs = szc x c ++ szc y d ++ szc z e := by
  obtain ⟨c, hK, e⟩ := h.hk 0 (by simp)
  obtain ⟨d, hD, e2⟩ := h.hk 1 (by simp)
  obtain ⟨f, hF, e3⟩ := h.hk 2 (by simp)
  refine ⟨c, d, f, hK, hD, hF, ?_⟩
  have hl := h.hc
  simp at hl e e2 e3
  have : cs = cs.take 5 ++ (cs.drop 5).take 5 ++ (cs.drop 10).take 5 := by
    rw [List.take_of_length_le (l := cs.drop 10) (by simp; omega), List.append_assoc]
    have h1 : (cs.drop 5).take 5 ++ cs.drop 10 = cs.drop 5 := by
      rw [show cs.drop 10 = (cs.drop 5).drop 5 by simp, List.take_append_drop]
    rw [h1, List.take_append_drop]
  rw [this, e, e2, e3]
  try simp
theorem builtF_both (name : S) (l : List V) (st : St) : (∀ v st2, builtF name l st = .ok v st2 → st2 = st) ∧ (∀ c st2, builtF name l st = .stop c st2 → st2 = st) := by
  unfold builtF numR
  constructor
  · intro v st2 h
    repeat' split at h
    all_goals first | (cases h; rfl) | cases h
  · intro c st2 h
    repeat' split at h
    all_goals first | (cases h; rfl) | cases h
theorem builtF_st {name : S} {l : List V} {st : St} {v : V} {st2 : St} (h : builtF name l st = .ok v st2) : st2 = st := (builtF_both name l st).1 v st2 h
theorem builtF_st2 {name : S} {l : List V} {st : St} {c : Int} {st2 : St} (h : builtF name l st = .stop c st2) : st2 = st := (builtF_both name l st).2 c st2 h
variable {C : Cfg} (S : Std C) {rb : Key} {D : RunB} {L : Lim} {rec_ : Rec} {c0 : Int} (HE : EvOK C rb D L rec_ c0) (M : Md)
include S HE

theorem apply_b_c {fn : Go.Sx.S} {s : Sc} {k : Int} {na nb : Nat} {n : Int} {names : List Go.Sx.S} {binds : List (List Go.Sx.S)} {at_ : Int} {st : St} {sp cn cb ck : AV} {h : T Blk} {nx : Key} {t : List AV} {kids : List E} (hc : c0 ≤ st.cf) (hr : Run rb D L st h nx) (hs : IsSc rb h nx sp s)
    (hk : IsEK ck kids) {ar : Nat} {f : Nat} (HB : D.bm = bmA) (hfind : findK [] true (.str na nb) bmA = some (some (.agg [I ar, .fn f [] []]))) (har : arityF (na, nb) = some ar)
    (hcall : ∀ (l : List V) (cs : List AV) (st' : St), l.length = ar → Rw 5 IsZ cs l → (∀ v ∈ l, Fit v) → Pur C f [.ptr rb 0, .sl cs l.length 5 .any] (OutR (builtF (na, nb) l st'))) : CallA C n_eval_run_apply [.ptr rb 0, SA fn, sp, .cref ([I k, .str na nb, I n, cn, cb, ck, I at_] ++ t)] h nx (Ends rb D L h nx (applyF rec_ M fn s (.mk k (na, nb) n names binds kids at_) st)) := by
  have hs' : ∀ n h, frzA n sp h = (sp, h) := hs.stb
  have low := hr.low
  have s1 := Key.toNat_succ nx
  have s2 := Key.toNat_succ nx.succ
  have r0 := hr.ext (E0 h nx Zb)
  have F0 : Fr rb (T.set nx (some Zb) h) nx.succ (T.set nx (some Zb) h) nx.succ := Fr.refl _ _ _
  have z0 := hs.mono (Fr.ext (rb := rb) (E0 h nx Zb))
  have gb0 := r0.gb
  have lb0 := r0.lb
  rw [HB] at gb0
  obtain ⟨br, hb0, ha0⟩ := r0.blk
  refine S.c_eval_run_apply.call ?_
  simp [eval_run_apply]
  simp [eval_run_apply_r0]
  simp [eval_run_apply_r1, hb0, gb0, S.orc, hfind, List.filter_cons]
  simp [eval_run_apply_r2]
  have E1 := E0 (T.set nx (some Zb) h) nx.succ (.cells [I ar, .fn f [] []] .fix)
  have F1 := F0.trans (Fr.ext E1)
  have r1 := r0.ext E1
  have z1 := z0.mono (Fr.ext (rb := rb) E1)
  have hck : ∀ n h, frzA n ck h = (ck, h) := IsEK.stb hk
  by_cases hlen0 : kids.length = ar
  · have hl' : ((kids.length : Int) == (ar : Int)) = true := by simp [hlen0]
    rcases id hk with ⟨rfl, hke⟩ | ⟨cs, rfl, hel, hcs⟩
    · have hl2 : ((0 : Int) == (ar : Int)) = true := by simpa [hke] using hl'
      simp [eval_run_apply_r3, hl2, S.raw]
      refine (need_ok S _ _ _).mono ?_
      rintro o h2 nx2 ⟨rfl, e2⟩
      have t2 := e2.n
      have r2 := r1.ext e2
      have F2 := F1.trans (Fr.ext e2)
      have z2 := z1.mono (Fr.ext (rb := rb) e2)
      have w2 := e2.g nx.succ (by omega)
      simp at w2
      simp
      simp [eval_run_apply_r4, S.raw, hs', hck, w2]
      refine (rall_ok S HE hc r2 z2 hk).mono ?_
      rintro o h3 nx3 ⟨f3, hR⟩
      have t3 := f3.n
      have F3 := F2.trans f3
      have w3 := (f3.g nx.succ (by omega) (fun e => by rw [← e] at low; omega) (by rw [w2]; trivial)).trans w2
      have hap : applyF rec_ M fn s (.mk k (na, nb) n names binds kids at_) st = (match allF rec_ fn s kids st with
          | .stop c st => .stop c st
          | .ok l st => builtF (na, nb) l st) := by
        simp [applyF, har, hlen0]
        try (cases allF rec_ fn s kids st <;> rfl)
      rw [hap]
      cases hres : allF rec_ fn s kids st with
      | stop c' st' =>
        rw [hres] at hR
        obtain ⟨rfl, hR⟩ := hR
        simp [stopO]
        exact stop_ok F3.down hR
      | ok l st' =>
        rw [hres] at hR
        obtain ⟨⟨cs2, hcs2, rfl⟩, hR, hfit, hcf2, hcl2, hlen⟩ := hR
        simp [AV.beq, AV.beqs, w3, S.raw]
        refine (hcall l cs2 st' (by omega) hcs2 (fun v hv => (hfit v hv).1) _ _).mono ?_
        rintro o h4 nx4 ⟨ho, e4⟩
        have F4 := F3.trans (Fr.ext e4)
        have q4 := F4.res low
        cases hbu : builtF (na, nb) l st' with
        | stop c' st2 =>
          have := builtF_st2 hbu
          subst this
          rw [hbu] at ho
          have ho : o = stopO c' := ho
          subst ho
          simp [stopO]
          exact stop_ok F4.down (hR.ext e4)
        | ok v st2 =>
          have := builtF_st hbu
          subst this
          rw [hbu] at ho
          obtain ⟨c4, hK4, rfl⟩ := ho
          have hcc4 := IsK.cell hK4
          have hcf4 : ∀ n h, frzA n c4 h = (c4, h) := IsK.stb hK4
          simp [q4, hcc4, hcf4]
          exact fin_ok F4 low (hR.ext e4) hK4
    · simp [eval_run_apply_r3, hl', S.raw]
      refine (need_ok S _ _ _).mono ?_
      rintro o h2 nx2 ⟨rfl, e2⟩
      have t2 := e2.n
      have r2 := r1.ext e2
      have F2 := F1.trans (Fr.ext e2)
      have z2 := z1.mono (Fr.ext (rb := rb) e2)
      have w2 := e2.g nx.succ (by omega)
      simp at w2
      simp
      simp [eval_run_apply_r4, S.raw, hs', hck, w2]
      refine (rall_ok S HE hc r2 z2 hk).mono ?_
      rintro o h3 nx3 ⟨f3, hR⟩
      have t3 := f3.n
      have F3 := F2.trans f3
      have w3 := (f3.g nx.succ (by omega) (fun e => by rw [← e] at low; omega) (by rw [w2]; trivial)).trans w2
      have hap : applyF rec_ M fn s (.mk k (na, nb) n names binds kids at_) st = (match allF rec_ fn s kids st with
          | .stop c st => .stop c st
          | .ok l st => builtF (na, nb) l st) := by
        simp [applyF, har, hlen0]
        try (cases allF rec_ fn s kids st <;> rfl)
      rw [hap]
      cases hres : allF rec_ fn s kids st with
      | stop c' st' =>
        rw [hres] at hR
        obtain ⟨rfl, hR⟩ := hR
        simp [stopO]
        exact stop_ok F3.down hR
      | ok l st' =>
        rw [hres] at hR
        obtain ⟨⟨cs2, hcs2, rfl⟩, hR, hfit, hcf2, hcl2, hlen⟩ := hR
        simp [AV.beq, AV.beqs, w3, S.raw]
        refine (hcall l cs2 st' (by omega) hcs2 (fun v hv => (hfit v hv).1) _ _).mono ?_
        rintro o h4 nx4 ⟨ho, e4⟩
        have F4 := F3.trans (Fr.ext e4)
        have q4 := F4.res low
        cases hbu : builtF (na, nb) l st' with
        | stop c' st2 =>
          have := builtF_st2 hbu
          subst this
          rw [hbu] at ho
          have ho : o = stopO c' := ho
          subst ho
          simp [stopO]
          exact stop_ok F4.down (hR.ext e4)
        | ok v st2 =>
          have := builtF_st hbu
          subst this
          rw [hbu] at ho
          obtain ⟨c4, hK4, rfl⟩ := ho
          have hcc4 := IsK.cell hK4
          have hcf4 : ∀ n h, frzA n c4 h = (c4, h) := IsK.stb hK4
          simp [q4, hcc4, hcf4]
          exact fin_ok F4 low (hR.ext e4) hK4
  · have hl' : ((kids.length : Int) == (ar : Int)) = false := by simp; omega
    rcases id hk with ⟨rfl, hke⟩ | ⟨cs, rfl, hel, hcs⟩
    · have hl2 : ((0 : Int) == (ar : Int)) = false := by simpa [hke] using hl'
      simp [eval_run_apply_r3, hl2, S.raw]
      refine (need_ok S _ _ _).mono ?_
      rintro o h2 nx2 ⟨rfl, e2⟩
      have t2 := e2.n
      have r2 := r1.ext e2
      have F2 := F1.trans (Fr.ext e2)
      have z2 := z1.mono (Fr.ext (rb := rb) e2)
      have w2 := e2.g nx.succ (by omega)
      simp at w2
      simp [applyF, har, hlen0, stopO]
      exact stop_ok F2.down r2
    · simp [eval_run_apply_r3, hl', S.raw]
      refine (need_ok S _ _ _).mono ?_
      rintro o h2 nx2 ⟨rfl, e2⟩
      have t2 := e2.n
      have r2 := r1.ext e2
      have F2 := F1.trans (Fr.ext e2)
      have z2 := z1.mono (Fr.ext (rb := rb) e2)
      have w2 := e2.g nx.succ (by omega)
      simp at w2
      simp [applyF, har, hlen0, stopO]
      exact stop_ok F2.down r2

theorem apply_none_c {fn : Go.Sx.S} {s : Sc} {k : Int} {na nb : Nat} {n : Int} {names : List Go.Sx.S} {binds : List (List Go.Sx.S)} {at_ : Int} {st : St} {sp cn cb ck : AV} {h : T Blk} {nx : Key} {t : List AV} {kids : List E} (hc : c0 ≤ st.cf) (hr : Run rb D L st h nx) (hs : IsSc rb h nx sp s)
    (hk : IsEK ck kids) (HB : D.bm = bmA) (HF : D.fm = []) (HM : M.funs = []) (har : arityF (na, nb) = none) : CallA C n_eval_run_apply [.ptr rb 0, SA fn, sp, .cref ([I k, .str na nb, I n, cn, cb, ck, I at_] ++ t)] h nx (Ends rb D L h nx (applyF rec_ M fn s (.mk k (na, nb) n names binds kids at_) st)) := by
  have hs' : ∀ n h, frzA n sp h = (sp, h) := hs.stb
  have low := hr.low
  have s1 := Key.toNat_succ nx
  have s2 := Key.toNat_succ nx.succ
  have r0 := hr.ext (E0 h nx Zb)
  have F0 : Fr rb (T.set nx (some Zb) h) nx.succ (T.set nx (some Zb) h) nx.succ := Fr.refl _ _ _
  have z0 := hs.mono (Fr.ext (rb := rb) (E0 h nx Zb))
  have gb0 := r0.gb
  have lb0 := r0.lb
  rw [HB] at gb0
  obtain ⟨br, hb0, ha0⟩ := r0.blk
  refine S.c_eval_run_apply.call ?_
  simp [eval_run_apply]
  simp [eval_run_apply_r0]
  have gf0 := r0.gf
  rw [HF] at gf0
  have ne : (decide (na = 4) && decide (nb = 1702521203)) = false ∧ (decide (na = 2) && decide (nb = 29793)) = false ∧ (decide (na = 4) && decide (nb = 1752397168)) = false ∧ (decide (na = 4) && decide (nb = 1701536116)) = false ∧ (decide (na = 4) && decide (nb = 1886351972)) = false ∧ (decide (na = 3) && decide (nb = 7628147)) = false ∧ (decide (na = 3) && decide (nb = 7889261)) = false ∧ (decide (na = 3) && decide (nb = 7235949)) = false ∧ (decide (na = 4) && decide (nb = 1885957222)) = false := by
    unfold arityF at har
    repeat' split at har
    all_goals simp_all
  obtain ⟨n0, n1, n2, n3, n4, n5, n6, n7, n8⟩ := ne
  simp [eval_run_apply_r1, hb0, gb0, bmA, List.filter_cons, n0, n1, n2, n3, n4, n5, n6, n7, n8]
  simp [eval_run_apply_r2]
  have E1 := E0 (T.set nx (some Zb) h) nx.succ (.cells [I 0, .nilf] .fix)
  have F1 := F0.trans (Fr.ext E1)
  have r1 := r0.ext E1
  obtain ⟨br1, hb1, ha1⟩ := r1.blk
  have gf1 := r1.gf
  rw [HF] at gf1
  simp [eval_run_apply_r5, hb1, gf1]
  simp [eval_run_apply_r6]
  simp [eval_run_apply_r7, S.raw]
  refine (end_ok S _ _ _).mono ?_
  rintro o h2 nx2 ⟨rfl, e2⟩
  simp [stopO, applyF, har, HM, findA]
  exact stop_ok (F1.trans (Fr.ext e2)).down (r1.ext e2)

end Tz
/-
  SV: the evaluator's function apply. No condition.
-/
namespace Tz
open Go.Sx Go
variable {C : Cfg} (S : Std C) {rb : Key} {D : RunB} {L : Lim} {rec_ : Rec} {c0 : Int} (HE : EvOK C rb D L rec_ c0) (M : Md)
include S HE

theorem apply_b_p {fn : Go.Sx.S} {s : Sc} {k : Int} {na nb : Nat} {n : Int} {names : List Go.Sx.S} {binds : List (List Go.Sx.S)} {at_ : Int} {st : St} {sp cn cb ck : AV} {h : T Blk} {nx : Key} {pb : Key} {kids : List E} (hc : c0 ≤ st.cf) (hr : Run rb D L st h nx) (hs : IsSc rb h nx sp s)
    (hk : IsEK ck kids) (hpb : pb.toNat < nx.toNat) (hpr : pb ≠ rb) (hpg : T.get pb h = some (.cells [I k, .str na nb, I n, cn, cb, ck, I at_] .fix)) {ar : Nat} {f : Nat} (HB : D.bm = bmA) (hfind : findK [] true (.str na nb) bmA = some (some (.agg [I ar, .fn f [] []]))) (har : arityF (na, nb) = some ar)
    (hcall : ∀ (l : List V) (cs : List AV) (st' : St), l.length = ar → Rw 5 IsZ cs l → (∀ v ∈ l, Fit v) → Pur C f [.ptr rb 0, .sl cs l.length 5 .any] (OutR (builtF (na, nb) l st'))) : CallA C n_eval_run_apply [.ptr rb 0, SA fn, sp, .ptr pb 0] h nx (Ends rb D L h nx (applyF rec_ M fn s (.mk k (na, nb) n names binds kids at_) st)) := by
  have hs' : ∀ n h, frzA n sp h = (sp, h) := hs.stb
  have low := hr.low
  have s1 := Key.toNat_succ nx
  have s2 := Key.toNat_succ nx.succ
  have r0 := hr.ext (E0 h nx Zb)
  have F0 : Fr rb (T.set nx (some Zb) h) nx.succ (T.set nx (some Zb) h) nx.succ := Fr.refl _ _ _
  have z0 := hs.mono (Fr.ext (rb := rb) (E0 h nx Zb))
  have gb0 := r0.gb
  have lb0 := r0.lb
  rw [HB] at gb0
  obtain ⟨br, hb0, ha0⟩ := r0.blk
  have p0 : T.get pb (T.set nx (some Zb) h) = some (.cells [I k, .str na nb, I n, cn, cb, ck, I at_] .fix) := by rw [get_lt hpb]; exact hpg
  refine S.c_eval_run_apply.call ?_
  simp [eval_run_apply]
  simp [eval_run_apply_r0]
  simp [eval_run_apply_r1, hb0, gb0, S.orc, hfind, List.filter_cons, p0]
  simp [eval_run_apply_r2]
  have E1 := E0 (T.set nx (some Zb) h) nx.succ (.cells [I ar, .fn f [] []] .fix)
  have F1 := F0.trans (Fr.ext E1)
  have r1 := r0.ext E1
  have z1 := z0.mono (Fr.ext (rb := rb) E1)
  have p1 := (E1.g pb (by omega)).trans p0
  have hck : ∀ n h, frzA n ck h = (ck, h) := IsEK.stb hk
  by_cases hlen0 : kids.length = ar
  · have hl' : ((kids.length : Int) == (ar : Int)) = true := by simp [hlen0]
    rcases id hk with ⟨rfl, hke⟩ | ⟨cs, rfl, hel, hcs⟩
    · have hl2 : ((0 : Int) == (ar : Int)) = true := by simpa [hke] using hl'
      simp [eval_run_apply_r3, hl2, S.raw, p1]
      refine (need_ok S _ _ _).mono ?_
      rintro o h2 nx2 ⟨rfl, e2⟩
      have t2 := e2.n
      have r2 := r1.ext e2
      have F2 := F1.trans (Fr.ext e2)
      have z2 := z1.mono (Fr.ext (rb := rb) e2)
      have w2 := e2.g nx.succ (by omega)
      simp at w2
      have p2 := (e2.g pb (by omega)).trans p1
      simp
      simp [eval_run_apply_r4, S.raw, hs', hck, w2, p2]
      refine (rall_ok S HE hc r2 z2 hk).mono ?_
      rintro o h3 nx3 ⟨f3, hR⟩
      have t3 := f3.n
      have F3 := F2.trans f3
      have w3 := (f3.g nx.succ (by omega) (fun e => by rw [← e] at low; omega) (by rw [w2]; trivial)).trans w2
      have hap : applyF rec_ M fn s (.mk k (na, nb) n names binds kids at_) st = (match allF rec_ fn s kids st with
          | .stop c st => .stop c st
          | .ok l st => builtF (na, nb) l st) := by
        simp [applyF, har, hlen0]
        try (cases allF rec_ fn s kids st <;> rfl)
      rw [hap]
      cases hres : allF rec_ fn s kids st with
      | stop c' st' =>
        rw [hres] at hR
        obtain ⟨rfl, hR⟩ := hR
        simp [stopO]
        exact stop_ok F3.down hR
      | ok l st' =>
        rw [hres] at hR
        obtain ⟨⟨cs2, hcs2, rfl⟩, hR, hfit, hcf2, hcl2, hlen⟩ := hR
        simp [AV.beq, AV.beqs, w3, S.raw]
        refine (hcall l cs2 st' (by omega) hcs2 (fun v hv => (hfit v hv).1) _ _).mono ?_
        rintro o h4 nx4 ⟨ho, e4⟩
        have F4 := F3.trans (Fr.ext e4)
        have q4 := F4.res low
        cases hbu : builtF (na, nb) l st' with
        | stop c' st2 =>
          have := builtF_st2 hbu
          subst this
          rw [hbu] at ho
          have ho : o = stopO c' := ho
          subst ho
          simp [stopO]
          exact stop_ok F4.down (hR.ext e4)
        | ok v st2 =>
          have := builtF_st hbu
          subst this
          rw [hbu] at ho
          obtain ⟨c4, hK4, rfl⟩ := ho
          have hcc4 := IsK.cell hK4
          have hcf4 : ∀ n h, frzA n c4 h = (c4, h) := IsK.stb hK4
          simp [q4, hcc4, hcf4]
          exact fin_ok F4 low (hR.ext e4) hK4
    · simp [eval_run_apply_r3, hl', S.raw, p1]
      refine (need_ok S _ _ _).mono ?_
      rintro o h2 nx2 ⟨rfl, e2⟩
      have t2 := e2.n
      have r2 := r1.ext e2
      have F2 := F1.trans (Fr.ext e2)
      have z2 := z1.mono (Fr.ext (rb := rb) e2)
      have w2 := e2.g nx.succ (by omega)
      simp at w2
      have p2 := (e2.g pb (by omega)).trans p1
      simp
      simp [eval_run_apply_r4, S.raw, hs', hck, w2, p2]
      refine (rall_ok S HE hc r2 z2 hk).mono ?_
      rintro o h3 nx3 ⟨f3, hR⟩
      have t3 := f3.n
      have F3 := F2.trans f3
      have w3 := (f3.g nx.succ (by omega) (fun e => by rw [← e] at low; omega) (by rw [w2]; trivial)).trans w2
      have hap : applyF rec_ M fn s (.mk k (na, nb) n names binds kids at_) st = (match allF rec_ fn s kids st with
          | .stop c st => .stop c st
          | .ok l st => builtF (na, nb) l st) := by
        simp [applyF, har, hlen0]
        try (cases allF rec_ fn s kids st <;> rfl)
      rw [hap]
      cases hres : allF rec_ fn s kids st with
      | stop c' st' =>
        rw [hres] at hR
        obtain ⟨rfl, hR⟩ := hR
        simp [stopO]
        exact stop_ok F3.down hR
      | ok l st' =>
        rw [hres] at hR
        obtain ⟨⟨cs2, hcs2, rfl⟩, hR, hfit, hcf2, hcl2, hlen⟩ := hR
        simp [AV.beq, AV.beqs, w3, S.raw]
        refine (hcall l cs2 st' (by omega) hcs2 (fun v hv => (hfit v hv).1) _ _).mono ?_
        rintro o h4 nx4 ⟨ho, e4⟩
        have F4 := F3.trans (Fr.ext e4)
        have q4 := F4.res low
        cases hbu : builtF (na, nb) l st' with
        | stop c' st2 =>
          have := builtF_st2 hbu
          subst this
          rw [hbu] at ho
          have ho : o = stopO c' := ho
          subst ho
          simp [stopO]
          exact stop_ok F4.down (hR.ext e4)
        | ok v st2 =>
          have := builtF_st hbu
          subst this
          rw [hbu] at ho
          obtain ⟨c4, hK4, rfl⟩ := ho
          have hcc4 := IsK.cell hK4
          have hcf4 : ∀ n h, frzA n c4 h = (c4, h) := IsK.stb hK4
          simp [q4, hcc4, hcf4]
          exact fin_ok F4 low (hR.ext e4) hK4
  · have hl' : ((kids.length : Int) == (ar : Int)) = false := by simp; omega
    rcases id hk with ⟨rfl, hke⟩ | ⟨cs, rfl, hel, hcs⟩
    · have hl2 : ((0 : Int) == (ar : Int)) = false := by simpa [hke] using hl'
      simp [eval_run_apply_r3, hl2, S.raw, p1]
      refine (need_ok S _ _ _).mono ?_
      rintro o h2 nx2 ⟨rfl, e2⟩
      have t2 := e2.n
      have r2 := r1.ext e2
      have F2 := F1.trans (Fr.ext e2)
      have z2 := z1.mono (Fr.ext (rb := rb) e2)
      have w2 := e2.g nx.succ (by omega)
      simp at w2
      have p2 := (e2.g pb (by omega)).trans p1
      simp [applyF, har, hlen0, stopO]
      exact stop_ok F2.down r2
    · simp [eval_run_apply_r3, hl', S.raw, p1]
      refine (need_ok S _ _ _).mono ?_
      rintro o h2 nx2 ⟨rfl, e2⟩
      have t2 := e2.n
      have r2 := r1.ext e2
      have F2 := F1.trans (Fr.ext e2)
      have z2 := z1.mono (Fr.ext (rb := rb) e2)
      have w2 := e2.g nx.succ (by omega)
      simp at w2
      have p2 := (e2.g pb (by omega)).trans p1
      simp [applyF, har, hlen0, stopO]
      exact stop_ok F2.down r2

theorem apply_none_p {fn : Go.Sx.S} {s : Sc} {k : Int} {na nb : Nat} {n : Int} {names : List Go.Sx.S} {binds : List (List Go.Sx.S)} {at_ : Int} {st : St} {sp cn cb ck : AV} {h : T Blk} {nx : Key} {pb : Key} {kids : List E} (hc : c0 ≤ st.cf) (hr : Run rb D L st h nx) (hs : IsSc rb h nx sp s)
    (hk : IsEK ck kids) (hpb : pb.toNat < nx.toNat) (hpr : pb ≠ rb) (hpg : T.get pb h = some (.cells [I k, .str na nb, I n, cn, cb, ck, I at_] .fix)) (HB : D.bm = bmA) (HF : D.fm = []) (HM : M.funs = []) (har : arityF (na, nb) = none) : CallA C n_eval_run_apply [.ptr rb 0, SA fn, sp, .ptr pb 0] h nx (Ends rb D L h nx (applyF rec_ M fn s (.mk k (na, nb) n names binds kids at_) st)) := by
  have hs' : ∀ n h, frzA n sp h = (sp, h) := hs.stb
  have low := hr.low
  have s1 := Key.toNat_succ nx
  have s2 := Key.toNat_succ nx.succ
  have r0 := hr.ext (E0 h nx Zb)
  have F0 : Fr rb (T.set nx (some Zb) h) nx.succ (T.set nx (some Zb) h) nx.succ := Fr.refl _ _ _
  have z0 := hs.mono (Fr.ext (rb := rb) (E0 h nx Zb))
  have gb0 := r0.gb
  have lb0 := r0.lb
  rw [HB] at gb0
  obtain ⟨br, hb0, ha0⟩ := r0.blk
  have p0 : T.get pb (T.set nx (some Zb) h) = some (.cells [I k, .str na nb, I n, cn, cb, ck, I at_] .fix) := by rw [get_lt hpb]; exact hpg
  refine S.c_eval_run_apply.call ?_
  simp [eval_run_apply]
  simp [eval_run_apply_r0]
  have gf0 := r0.gf
  rw [HF] at gf0
  have ne : (decide (na = 4) && decide (nb = 1702521203)) = false ∧ (decide (na = 2) && decide (nb = 29793)) = false ∧ (decide (na = 4) && decide (nb = 1752397168)) = false ∧ (decide (na = 4) && decide (nb = 1701536116)) = false ∧ (decide (na = 4) && decide (nb = 1886351972)) = false ∧ (decide (na = 3) && decide (nb = 7628147)) = false ∧ (decide (na = 3) && decide (nb = 7889261)) = false ∧ (decide (na = 3) && decide (nb = 7235949)) = false ∧ (decide (na = 4) && decide (nb = 1885957222)) = false := by
    unfold arityF at har
    repeat' split at har
    all_goals simp_all
  obtain ⟨n0, n1, n2, n3, n4, n5, n6, n7, n8⟩ := ne
  simp [eval_run_apply_r1, hb0, gb0, bmA, List.filter_cons, n0, n1, n2, n3, n4, n5, n6, n7, n8, p0]
  simp [eval_run_apply_r2]
  have E1 := E0 (T.set nx (some Zb) h) nx.succ (.cells [I 0, .nilf] .fix)
  have F1 := F0.trans (Fr.ext E1)
  have r1 := r0.ext E1
  obtain ⟨br1, hb1, ha1⟩ := r1.blk
  have gf1 := r1.gf
  rw [HF] at gf1
  have p1 := (E1.g pb (by omega)).trans p0
  simp [eval_run_apply_r5, hb1, gf1, p1]
  simp [eval_run_apply_r6]
  simp [eval_run_apply_r7, S.raw]
  refine (end_ok S _ _ _).mono ?_
  rintro o h2 nx2 ⟨rfl, e2⟩
  simp [stopO, applyF, har, HM, findA]
  exact stop_ok (F1.trans (Fr.ext e2)).down (r1.ext e2)

end Tz
/-
  SV: the evaluator does what the interpreter says. No condition.
-/
namespace Tz
open Go.Sx Go
/- what the run's maps hold -/
structure Maps (D : RunB) (M : Md) : Prop where
  b : D.bm = bmA
  f : D.fm = []
  m : M.funs = []
  c : ∀ a b, findK [] true (.str a b) D.cm = some ((findA (a, b) M.ctors).map I)

section
variable {C : Cfg} (S : Std C)
include S
theorem b_size (rb : Key) (l : List V) (cs : List AV) (st' : St) (hl : l.length = 1) (hcs : Rw 5 IsZ cs l) (hf : ∀ v ∈ l, Fit v) : Pur C n_eval_builtins_c1 [.ptr rb 0, .sl cs l.length 5 .any] (OutR (builtF (4, 1702521203) l st')) := by
  obtain ⟨x, rfl⟩ := len1 hl
  obtain ⟨d0, hz0, rfl⟩ := rw1 hcs
  exact bsize_ok S rb x hz0 st'
theorem b_at (rb : Key) (l : List V) (cs : List AV) (st' : St) (hl : l.length = 2) (hcs : Rw 5 IsZ cs l) (hf : ∀ v ∈ l, Fit v) : Pur C n_eval_at [.ptr rb 0, .sl cs l.length 5 .any] (OutR (builtF (2, 29793) l st')) := by
  obtain ⟨x, y, rfl⟩ := len2 hl
  obtain ⟨d0, d1, hz0, hz1, rfl⟩ := rw2 hcs
  exact bat_ok S rb x y hz0 hz1 (hf x (by simp)) st'
theorem b_push (rb : Key) (l : List V) (cs : List AV) (st' : St) (hl : l.length = 2) (hcs : Rw 5 IsZ cs l) (hf : ∀ v ∈ l, Fit v) : Pur C n_eval_builtins_c2 [.ptr rb 0, .sl cs l.length 5 .any] (OutR (builtF (4, 1752397168) l st')) := by
  obtain ⟨x, y, rfl⟩ := len2 hl
  obtain ⟨d0, d1, hz0, hz1, rfl⟩ := rw2 hcs
  exact bpush_ok S rb x y hz0 hz1 (hf x (by simp)) (hf y (by simp)) st'
theorem b_take (rb : Key) (l : List V) (cs : List AV) (st' : St) (hl : l.length = 2) (hcs : Rw 5 IsZ cs l) (hf : ∀ v ∈ l, Fit v) : Pur C n_eval_builtins_c3 [.ptr rb 0, .sl cs l.length 5 .any] (OutR (builtF (4, 1701536116) l st')) := by
  obtain ⟨x, y, rfl⟩ := len2 hl
  obtain ⟨d0, d1, hz0, hz1, rfl⟩ := rw2 hcs
  exact btake_ok S rb x y hz0 hz1 (hf x (by simp)) st'
theorem b_drop (rb : Key) (l : List V) (cs : List AV) (st' : St) (hl : l.length = 2) (hcs : Rw 5 IsZ cs l) (hf : ∀ v ∈ l, Fit v) : Pur C n_eval_builtins_c4 [.ptr rb 0, .sl cs l.length 5 .any] (OutR (builtF (4, 1886351972) l st')) := by
  obtain ⟨x, y, rfl⟩ := len2 hl
  obtain ⟨d0, d1, hz0, hz1, rfl⟩ := rw2 hcs
  exact bdrop_ok S rb x y hz0 hz1 (hf x (by simp)) st'
theorem b_set (rb : Key) (l : List V) (cs : List AV) (st' : St) (hl : l.length = 3) (hcs : Rw 5 IsZ cs l) (hf : ∀ v ∈ l, Fit v) : Pur C n_eval_set [.ptr rb 0, .sl cs l.length 5 .any] (OutR (builtF (3, 7628147) l st')) := by
  obtain ⟨x, y, z, rfl⟩ := len3 hl
  obtain ⟨d0, d1, d2, hz0, hz1, hz2, rfl⟩ := rw3 hcs
  exact bset_ok S rb x y z hz0 hz1 hz2 (hf x (by simp)) (hf z (by simp)) st'
theorem b_max (rb : Key) (l : List V) (cs : List AV) (st' : St) (hl : l.length = 2) (hcs : Rw 5 IsZ cs l) (hf : ∀ v ∈ l, Fit v) : Pur C n_eval_builtins_c5 [.ptr rb 0, .sl cs l.length 5 .any] (OutR (builtF (3, 7889261) l st')) := by
  obtain ⟨x, y, rfl⟩ := len2 hl
  obtain ⟨d0, d1, hz0, hz1, rfl⟩ := rw2 hcs
  exact bmax_ok S rb x y hz0 hz1 st'
theorem b_min (rb : Key) (l : List V) (cs : List AV) (st' : St) (hl : l.length = 2) (hcs : Rw 5 IsZ cs l) (hf : ∀ v ∈ l, Fit v) : Pur C n_eval_builtins_c6 [.ptr rb 0, .sl cs l.length 5 .any] (OutR (builtF (3, 7235949) l st')) := by
  obtain ⟨x, y, rfl⟩ := len2 hl
  obtain ⟨d0, d1, hz0, hz1, rfl⟩ := rw2 hcs
  exact bmin_ok S rb x y hz0 hz1 st'
end
section
variable {C : Cfg} (S : Std C) {rb : Key} {D : RunB} {L : Lim} {rec_ : Rec} {c0 : Int} (HE : EvOK C rb D L rec_ c0) {M : Md} (HM : Maps D M)
include S HE HM
theorem apply_ok' {fn : Go.Sx.S} {s : Sc} {e : E} {st : St} {sp ep : AV} {h : T Blk} {nx : Key} (hc : c0 ≤ st.cf) (hr : Run rb D L st h nx) (hs : IsSc rb h nx sp s) (hp : IsP rb h nx ep e) (h3 : e.k = 3) :
    CallA C n_eval_run_apply [.ptr rb 0, SA fn, sp, ep] h nx (Ends rb D L h nx (applyF rec_ M fn s e st)) := by
  obtain ⟨l, hl, hp⟩ := hp
  obtain ⟨cn, cb, ck, rfl, hn, hb, hk, hq⟩ := hl.cells
  obtain ⟨k, ⟨na, nb⟩, n, names, binds, kids, at_⟩ := e
  simp only [E_k, E_name, E_n, E_names, E_binds, E_kids, E_at] at *
  have hq := hq.1
  rcases hp with ⟨t, rfl⟩ | ⟨pb, rfl, hg, hlt, hne, h39⟩
  · by_cases q1 : na = 4 ∧ nb = 1702521203
    · obtain ⟨rfl, rfl⟩ := q1
      exact apply_b_c S HE M hc hr hs hk (ar := 1) HM.b (by simp [bmA]) (by decide) (b_size S rb)
    by_cases q2 : na = 2 ∧ nb = 29793
    · obtain ⟨rfl, rfl⟩ := q2
      exact apply_b_c S HE M hc hr hs hk (ar := 2) HM.b (by simp [bmA]) (by decide) (b_at S rb)
    by_cases q3 : na = 4 ∧ nb = 1752397168
    · obtain ⟨rfl, rfl⟩ := q3
      exact apply_b_c S HE M hc hr hs hk (ar := 2) HM.b (by simp [bmA]) (by decide) (b_push S rb)
    by_cases q4 : na = 4 ∧ nb = 1701536116
    · obtain ⟨rfl, rfl⟩ := q4
      exact apply_b_c S HE M hc hr hs hk (ar := 2) HM.b (by simp [bmA]) (by decide) (b_take S rb)
    by_cases q5 : na = 4 ∧ nb = 1886351972
    · obtain ⟨rfl, rfl⟩ := q5
      exact apply_b_c S HE M hc hr hs hk (ar := 2) HM.b (by simp [bmA]) (by decide) (b_drop S rb)
    by_cases q6 : na = 3 ∧ nb = 7628147
    · obtain ⟨rfl, rfl⟩ := q6
      exact apply_b_c S HE M hc hr hs hk (ar := 3) HM.b (by simp [bmA]) (by decide) (b_set S rb)
    by_cases q7 : na = 3 ∧ nb = 7889261
    · obtain ⟨rfl, rfl⟩ := q7
      exact apply_b_c S HE M hc hr hs hk (ar := 2) HM.b (by simp [bmA]) (by decide) (b_max S rb)
    by_cases q8 : na = 3 ∧ nb = 7235949
    · obtain ⟨rfl, rfl⟩ := q8
      exact apply_b_c S HE M hc hr hs hk (ar := 2) HM.b (by simp [bmA]) (by decide) (b_min S rb)
    refine apply_none_c S HE M hc hr hs hk HM.b HM.f HM.m ?_
    have q9 : ¬ (na = 4 ∧ nb = 1885957222) := fun hh => hq ⟨h3, by rw [hh.1, hh.2]⟩
    simp [arityF, q1, q2, q3, q4, q5, q6, q7, q8, q9]
  · by_cases q1 : na = 4 ∧ nb = 1702521203
    · obtain ⟨rfl, rfl⟩ := q1
      exact apply_b_p S HE M hc hr hs hk hlt hne hg (ar := 1) HM.b (by simp [bmA]) (by decide) (b_size S rb)
    by_cases q2 : na = 2 ∧ nb = 29793
    · obtain ⟨rfl, rfl⟩ := q2
      exact apply_b_p S HE M hc hr hs hk hlt hne hg (ar := 2) HM.b (by simp [bmA]) (by decide) (b_at S rb)
    by_cases q3 : na = 4 ∧ nb = 1752397168
    · obtain ⟨rfl, rfl⟩ := q3
      exact apply_b_p S HE M hc hr hs hk hlt hne hg (ar := 2) HM.b (by simp [bmA]) (by decide) (b_push S rb)
    by_cases q4 : na = 4 ∧ nb = 1701536116
    · obtain ⟨rfl, rfl⟩ := q4
      exact apply_b_p S HE M hc hr hs hk hlt hne hg (ar := 2) HM.b (by simp [bmA]) (by decide) (b_take S rb)
    by_cases q5 : na = 4 ∧ nb = 1886351972
    · obtain ⟨rfl, rfl⟩ := q5
      exact apply_b_p S HE M hc hr hs hk hlt hne hg (ar := 2) HM.b (by simp [bmA]) (by decide) (b_drop S rb)
    by_cases q6 : na = 3 ∧ nb = 7628147
    · obtain ⟨rfl, rfl⟩ := q6
      exact apply_b_p S HE M hc hr hs hk hlt hne hg (ar := 3) HM.b (by simp [bmA]) (by decide) (b_set S rb)
    by_cases q7 : na = 3 ∧ nb = 7889261
    · obtain ⟨rfl, rfl⟩ := q7
      exact apply_b_p S HE M hc hr hs hk hlt hne hg (ar := 2) HM.b (by simp [bmA]) (by decide) (b_max S rb)
    by_cases q8 : na = 3 ∧ nb = 7235949
    · obtain ⟨rfl, rfl⟩ := q8
      exact apply_b_p S HE M hc hr hs hk hlt hne hg (ar := 2) HM.b (by simp [bmA]) (by decide) (b_min S rb)
    refine apply_none_p S HE M hc hr hs hk hlt hne hg HM.b HM.f HM.m ?_
    have q9 : ¬ (na = 4 ∧ nb = 1885957222) := fun hh => hq ⟨h3, by rw [hh.1, hh.2]⟩
    simp [arityF, q1, q2, q3, q4, q5, q6, q7, q8, q9]

theorem value_ok (HL : Lims L) {fn : Go.Sx.S} {s : Sc} {e : E} {st : St} {sp ep : AV} {h : T Blk} {nx : Key} (hc : c0 ≤ st.cf) (hr : Run rb D L st h nx) (hs : IsSc rb h nx sp s) (hp : IsP rb h nx ep e) (hbr : (st.brs.length : Int) + 1 ≤ st.cf) :
    CallA C n_eval_run_value [.ptr rb 0, SA fn, sp, ep] h nx (Ends rb D L h nx (valueF rec_ M fn s e st)) := by
  obtain ⟨l, hl, hp⟩ := hp
  obtain ⟨cn, cb, ck, rfl, hn, hb, hk, hq⟩ := hl.cells
  obtain ⟨k, ⟨na, nb⟩, n, names, binds, kids, at_⟩ := e
  simp only [E_k, E_name, E_n, E_names, E_binds, E_kids, E_at] at *
  have h8 := hq.2
  rcases hp with ⟨t, rfl⟩ | ⟨pb, rfl, hg, hlt, hne, h39⟩
  · by_cases k0 : k = 0
    · exact value0_c S HE M hc hr hs hk k0
    by_cases k1 : k = 1
    · exact value1_c S HE M hc hr hs hk k1
    by_cases k2 : k = 2
    · exact value2_c S HE M hc hr hs hk k2
    by_cases k4 : k = 4
    · exact value4_c S HE M hc hr hs hk HM.c k4
    by_cases k5 : k = 5
    · exact value5_c S HE M hc hr hs hk k5
    by_cases k6 : k = 6
    · exact value6_c S HE M hc hr hs hk HL hbr k6
    by_cases k7 : k = 7
    · exact value7_c S HE M hc hr hs hk k7
    by_cases k3 : k = 3
    · subst k3
      exact value3_c S HE M hc hr hs hk (fun h nx r z p => apply_ok' S HE HM hc r z p rfl) hl rfl
    by_cases k9 : k = 9
    · subst k9
      exact value9_c S HE M hc hr hs hk (fun h nx r z p => op_ok S HE M fn s _ st sp _ h nx hc r z p) hl rfl
    exact valueX_c S HE M hc hr hs hk ⟨k0, k1, k2, k3, k4, k5, k6, k7, h8, k9⟩
  · rcases h39 with k3 | k9
    · subst k3
      exact value3_p S HE M hc hr hs hk hlt hne hg (fun h nx r z p => apply_ok' S HE HM hc r z p rfl) hl rfl
    · subst k9
      exact value9_p S HE M hc hr hs hk hlt hne hg (fun h nx r z p => op_ok S HE M fn s _ st sp _ h nx hc r z p) hl rfl
end
end Tz
