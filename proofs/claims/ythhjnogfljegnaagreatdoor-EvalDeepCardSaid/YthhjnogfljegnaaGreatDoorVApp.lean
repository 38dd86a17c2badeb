/-
 SV: the evaluator's function apply. No condition.
-/
import Derived.Test.YthhjnogfljegnaaGreatDoorVVal
import Derived.Test.YthhjnogfljegnaaGreatDoorVMem
set_option linter.unusedSimpArgs false
set_option linter.unusedVariables false
set_option linter.unusedSectionVars false
namespace Tz
open Go.Sx Go
def bmA : List (AV × AV) := [(.str 4 1702521203, .agg [I 1, .fn n_yam [] []]), (.str 2 29793, .agg [I 2, .fn n_yak [] []]), (.str 4 1752397168, .agg [I 2, .fn n_yan [] []]), (.str 4 1701536116, .agg [I 2, .fn n_yao [] []]), (.str 4 1886351972, .agg [I 2, .fn n_yap [] []]), (.str 3 7628147, .agg [I 3, .fn n_ybn [] []]), (.str 3 7889261, .agg [I 2, .fn n_yaq [] []]), (.str 3 7235949, .agg [I 2, .fn n_yar [] []]), (.str 4 1885957222, .agg [I 1, .fn n_eval_flip [] []])]
theorem len1 {l : List V} (h : l.length = [()].length) : ∃ x, l = [x] := by
 rcases l with _ | ⟨x, _ | ⟨y, l⟩⟩ <;> simp at h
 exact ⟨x, rfl⟩
theorem len2 {l : List V} (h : l.length = [(), ()].length) : ∃ x y, l = [x, y] := by
 rcases l with _ | ⟨x, _ | ⟨y, _ | ⟨z, l⟩⟩⟩ <;> simp at h
 exact ⟨x, y, rfl⟩
theorem len3 {l : List V} (h : l.length = [(), (), ()].length) : ∃ x y z, l = [x, y, z] := by
 rcases l with _ | ⟨x, _ | ⟨y, _ | ⟨z, _ | ⟨w, l⟩⟩⟩⟩ <;> simp at h
 exact ⟨x, y, z, rfl⟩
theorem rw1 {cs : List AV} {x : V} (h : Rw 5 IsZ cs [x]) : ∃ c, IsK c x.kids ∧ cs = szc x c := by
 obtain ⟨c, hK, e⟩ := h.hk 0 (by simp)
 refine ⟨c, hK, ?_⟩
 have hl := h.hc
 simp at hl e
 rwa [List.take_of_length_le (by omega)] at e
theorem rw2 {cs : List AV} {x y : V} (h : Rw 5 IsZ cs [x, y]) : ∃ c d, IsK c x.kids ∧ IsK d y.kids ∧ cs = szc x c ++ szc y d := by
 obtain ⟨c, hK, e⟩ := h.hk 0 (by simp)
 obtain ⟨d, hD, e2⟩ := h.hk 1 (by simp)
 refine ⟨c, d, hK, hD, ?_⟩
 have hl := h.hc
 simp at hl e e2
 have : cs = cs.take 5 ++ (cs.drop 5).take 5 := by
  rw [List.take_of_length_le (l := cs.drop 5) (by simp; omega), List.take_append_drop]
 rw [this, e, e2]
 try simp
theorem rw3 {cs : List AV} {x y z : V} (h : Rw 5 IsZ cs [x, y, z]) : ∃ c d e, IsK c x.kids ∧ IsK d y.kids ∧ IsK e z.kids ∧ cs = szc x c ++ szc y d ++ szc z e := by
 obtain ⟨c, hK, e⟩ := h.hk 0 (by simp)
 obtain ⟨d, hD, e2⟩ := h.hk 1 (by simp)
 obtain ⟨f, hF, e3⟩ := h.hk 2 (by simp)
 refine ⟨c, d, f, hK, hD, hF, ?_⟩
 have hl := h.hc
 simp at hl e e2 e3
 have : cs = cs.take 5 ++ (cs.drop 5).take 5 ++ (cs.drop 10).take 5 := by
  rw [List.take_of_length_le (l := cs.drop 10) (by simp; omega), List.append_assoc]
  have h1 : (cs.drop 5).take 5 ++ cs.drop 10 = cs.drop 5 := by
   rw [show cs.drop 10 = (cs.drop 5).drop 5 by simp, List.take_append_drop]
  rw [h1, List.take_append_drop]
 rw [this, e, e2, e3]
 try simp
theorem builtF_both (name : S) (l : List V) (st : St) : (∀ v st2, builtF name l st = .ok v st2 → st2 = st) ∧ (∀ c st2, builtF name l st = .stop c st2 → st2 = st) := by
 unfold builtF numR
 constructor
 ·intro v st2 h
  repeat' split at h
  all_goals first | (cases h; rfl) | cases h
 ·intro c st2 h
  repeat' split at h
  all_goals first | (cases h; rfl) | cases h
theorem builtF_st {name : S} {l : List V} {st : St} {v : V} {st2 : St} (h : builtF name l st = .ok v st2) : st2 = st := (builtF_both name l st).1 v st2 h
theorem builtF_st2 {name : S} {l : List V} {st : St} {c : Int} {st2 : St} (h : builtF name l st = .stop c st2) : st2 = st := (builtF_both name l st).2 c st2 h
variable {C : Cfg} (S : Std C) {rb : Key} {D : RunB} {L : Lim} {rec_ : Rec} {c0 : Int} (HE : EvOK C rb D L rec_ c0) (M : Md)
include S HE
theorem apply_b_c {fn : Go.Sx.S} {s : Sc} {k : Int} {na nb : Nat} {n : Int} {names : List Go.Sx.S} {binds : List (List Go.Sx.S)} {at_ : Int} {st : St} {sp cn cb ck : AV} {h : T Blk} {nx : Key} {t : List AV} {kids : List E} (hc : c0 ≤ st.cf) (hr : Run rb D L st h nx) (hs : IsSc rb h nx sp s)
  (hk : IsEK ck kids) {ar : Nat} {f : Nat} (HB : D.bm = bmA) (hfind : findK [] true (.str na nb) bmA = some (some (.agg [I ar, .fn f [] []]))) (har : arityF (na, nb) = some ar)
  (hcall : ∀ (l : List V) (cs : List AV) (st' : St), l.length = ar → Rw 5 IsZ cs l → (∀ v ∈ l, Fit v) → Pur C f [.ptr rb 0, .sl cs l.length 5 .any] (OutR (builtF (na, nb) l st'))) : CallA C n_ybe [.ptr rb 0, SA fn, sp, .cref ([I k, .str na nb, I n, cn, cb, ck, I at_] ++ t)] h nx (Ends rb D L h nx (applyF rec_ M fn s (.mk k (na, nb) n names binds kids at_) st)) := by
 have hs' : ∀ n h, frzA n sp h = (sp, h) := hs.stb
 have low := hr.low
 have s1 := Key.toNat_succ nx
 have s2 := Key.toNat_succ nx.succ
 have r0 := hr.ext (E0 h nx Zb)
 have F0 : Fr rb (T.set nx (some Zb) h) nx.succ (T.set nx (some Zb) h) nx.succ := Fr.refl _ _ _
 have z0 := hs.mono (Fr.ext (rb := rb) (E0 h nx Zb))
 have gb0 := r0.gb
 have lb0 := r0.lb
 rw [HB] at gb0
 obtain ⟨br, hb0, ha0⟩ := r0.blk
 refine S.c_ybe.call ?_
 simp [ybe]
 simp [ybe_r0]
 simp [ybe_r1, hb0, gb0, S.orc, hfind, List.filter_cons]
 simp [ybe_r2]
 have E1 := E0 (T.set nx (some Zb) h) nx.succ (.cells [I ar, .fn f [] []] .fix)
 have F1 := F0.trans (Fr.ext E1)
 have r1 := r0.ext E1
 have z1 := z0.mono (Fr.ext (rb := rb) E1)
 have hck : ∀ n h, frzA n ck h = (ck, h) := IsEK.stb hk
 by_cases hlen0 : kids.length = ar
 ·have hl' : ((kids.length : Int) == (ar : Int)) = true := by simp [hlen0]
  rcases id hk with ⟨rfl, hke⟩ | ⟨cs, rfl, hel, hcs⟩
  ·have hl2 : ((0 : Int) == (ar : Int)) = true := by simpa [hke] using hl'
   simp [ybe_r3, hl2, S.raw]
   refine (need_ok S _ _ _).mono ?_
   rintro o h2 nx2 ⟨rfl, e2⟩
   have t2 := e2.n
   have r2 := r1.ext e2
   have F2 := F1.trans (Fr.ext e2)
   have z2 := z1.mono (Fr.ext (rb := rb) e2)
   have w2 := e2.g nx.succ (by omega)
   simp at w2
   simp
   simp [ybe_r4, S.raw, hs', hck, w2]
   refine (rall_ok S HE hc r2 z2 hk).mono ?_
   rintro o h3 nx3 ⟨f3, hR⟩
   have t3 := f3.n
   have F3 := F2.trans f3
   have w3 := (f3.g nx.succ (by omega) (fun e => by rw [← e] at low; omega) (by rw [w2]; trivial)).trans w2
   have hap : applyF rec_ M fn s (.mk k (na, nb) n names binds kids at_) st = (match allF rec_ fn s kids st with
     | .stop c st => .stop c st
     | .ok l st => builtF (na, nb) l st) := by
    simp [applyF, har, hlen0]
    try (cases allF rec_ fn s kids st <;> rfl)
   rw [hap]
   cases hres : allF rec_ fn s kids st with
   | stop c' st' =>
    rw [hres] at hR
    obtain ⟨rfl, hR⟩ := hR
    simp [stopO]
    exact stop_ok F3.down hR
   | ok l st' =>
    rw [hres] at hR
    obtain ⟨⟨cs2, hcs2, rfl⟩, hR, hfit, hcf2, hcl2, hlen⟩ := hR
    simp [AV.beq, AV.beqs, w3, S.raw]
    refine (hcall l cs2 st' (by omega) hcs2 (fun v hv => (hfit v hv).1) _ _).mono ?_
    rintro o h4 nx4 ⟨ho, e4⟩
    have F4 := F3.trans (Fr.ext e4)
    have q4 := F4.res low
    cases hbu : builtF (na, nb) l st' with
    | stop c' st2 =>
     have := builtF_st2 hbu
     subst this
     rw [hbu] at ho
     have ho : o = stopO c' := ho
     subst ho
     simp [stopO]
     exact stop_ok F4.down (hR.ext e4)
    | ok v st2 =>
     have := builtF_st hbu
     subst this
     rw [hbu] at ho
     obtain ⟨c4, hK4, rfl⟩ := ho
     have hcc4 := IsK.cell hK4
     have hcf4 : ∀ n h, frzA n c4 h = (c4, h) := IsK.stb hK4
     simp [q4, hcc4, hcf4]
     exact fin_ok F4 low (hR.ext e4) hK4
  ·simp [ybe_r3, hl', S.raw]
   refine (need_ok S _ _ _).mono ?_
   rintro o h2 nx2 ⟨rfl, e2⟩
   have t2 := e2.n
   have r2 := r1.ext e2
   have F2 := F1.trans (Fr.ext e2)
   have z2 := z1.mono (Fr.ext (rb := rb) e2)
   have w2 := e2.g nx.succ (by omega)
   simp at w2
   simp
   simp [ybe_r4, S.raw, hs', hck, w2]
   refine (rall_ok S HE hc r2 z2 hk).mono ?_
   rintro o h3 nx3 ⟨f3, hR⟩
   have t3 := f3.n
   have F3 := F2.trans f3
   have w3 := (f3.g nx.succ (by omega) (fun e => by rw [← e] at low; omega) (by rw [w2]; trivial)).trans w2
   have hap : applyF rec_ M fn s (.mk k (na, nb) n names binds kids at_) st = (match allF rec_ fn s kids st with
     | .stop c st => .stop c st
     | .ok l st => builtF (na, nb) l st) := by
    simp [applyF, har, hlen0]
    try (cases allF rec_ fn s kids st <;> rfl)
   rw [hap]
   cases hres : allF rec_ fn s kids st with
   | stop c' st' =>
    rw [hres] at hR
    obtain ⟨rfl, hR⟩ := hR
    simp [stopO]
    exact stop_ok F3.down hR
   | ok l st' =>
    rw [hres] at hR
    obtain ⟨⟨cs2, hcs2, rfl⟩, hR, hfit, hcf2, hcl2, hlen⟩ := hR
    simp [AV.beq, AV.beqs, w3, S.raw]
    refine (hcall l cs2 st' (by omega) hcs2 (fun v hv => (hfit v hv).1) _ _).mono ?_
    rintro o h4 nx4 ⟨ho, e4⟩
    have F4 := F3.trans (Fr.ext e4)
    have q4 := F4.res low
    cases hbu : builtF (na, nb) l st' with
    | stop c' st2 =>
     have := builtF_st2 hbu
     subst this
     rw [hbu] at ho
     have ho : o = stopO c' := ho
     subst ho
     simp [stopO]
     exact stop_ok F4.down (hR.ext e4)
    | ok v st2 =>
     have := builtF_st hbu
     subst this
     rw [hbu] at ho
     obtain ⟨c4, hK4, rfl⟩ := ho
     have hcc4 := IsK.cell hK4
     have hcf4 : ∀ n h, frzA n c4 h = (c4, h) := IsK.stb hK4
     simp [q4, hcc4, hcf4]
     exact fin_ok F4 low (hR.ext e4) hK4
 ·have hl' : ((kids.length : Int) == (ar : Int)) = false := by simp; omega
  rcases id hk with ⟨rfl, hke⟩ | ⟨cs, rfl, hel, hcs⟩
  ·have hl2 : ((0 : Int) == (ar : Int)) = false := by simpa [hke] using hl'
   simp [ybe_r3, hl2, S.raw]
   refine (need_ok S _ _ _).mono ?_
   rintro o h2 nx2 ⟨rfl, e2⟩
   have t2 := e2.n
   have r2 := r1.ext e2
   have F2 := F1.trans (Fr.ext e2)
   have z2 := z1.mono (Fr.ext (rb := rb) e2)
   have w2 := e2.g nx.succ (by omega)
   simp at w2
   simp [applyF, har, hlen0, stopO]
   exact stop_ok F2.down r2
  ·simp [ybe_r3, hl', S.raw]
   refine (need_ok S _ _ _).mono ?_
   rintro o h2 nx2 ⟨rfl, e2⟩
   have t2 := e2.n
   have r2 := r1.ext e2
   have F2 := F1.trans (Fr.ext e2)
   have z2 := z1.mono (Fr.ext (rb := rb) e2)
   have w2 := e2.g nx.succ (by omega)
   simp at w2
   simp [applyF, har, hlen0, stopO]
   exact stop_ok F2.down r2
theorem apply_none_c {fn : Go.Sx.S} {s : Sc} {k : Int} {na nb : Nat} {n : Int} {names : List Go.Sx.S} {binds : List (List Go.Sx.S)} {at_ : Int} {st : St} {sp cn cb ck : AV} {h : T Blk} {nx : Key} {t : List AV} {kids : List E} (hc : c0 ≤ st.cf) (hr : Run rb D L st h nx) (hs : IsSc rb h nx sp s)
  (hk : IsEK ck kids) (HB : D.bm = bmA) (HF : findK [] true (.str na nb) D.fm = some none) (HM : findA (na, nb) M.funs = none) (har : arityF (na, nb) = none) : CallA C n_ybe [.ptr rb 0, SA fn, sp, .cref ([I k, .str na nb, I n, cn, cb, ck, I at_] ++ t)] h nx (Ends rb D L h nx (applyF rec_ M fn s (.mk k (na, nb) n names binds kids at_) st)) := by
 have hs' : ∀ n h, frzA n sp h = (sp, h) := hs.stb
 have low := hr.low
 have s1 := Key.toNat_succ nx
 have s2 := Key.toNat_succ nx.succ
 have r0 := hr.ext (E0 h nx Zb)
 have F0 : Fr rb (T.set nx (some Zb) h) nx.succ (T.set nx (some Zb) h) nx.succ := Fr.refl _ _ _
 have z0 := hs.mono (Fr.ext (rb := rb) (E0 h nx Zb))
 have gb0 := r0.gb
 have lb0 := r0.lb
 rw [HB] at gb0
 obtain ⟨br, hb0, ha0⟩ := r0.blk
 refine S.c_ybe.call ?_
 simp [ybe]
 simp [ybe_r0]
 have ne : (decide (na = 4) && decide (nb = 1702521203)) = false ∧ (decide (na = 2) && decide (nb = 29793)) = false ∧ (decide (na = 4) && decide (nb = 1752397168)) = false ∧ (decide (na = 4) && decide (nb = 1701536116)) = false ∧ (decide (na = 4) && decide (nb = 1886351972)) = false ∧ (decide (na = 3) && decide (nb = 7628147)) = false ∧ (decide (na = 3) && decide (nb = 7889261)) = false ∧ (decide (na = 3) && decide (nb = 7235949)) = false ∧ (decide (na = 4) && decide (nb = 1885957222)) = false := by
  unfold arityF at har
  repeat' split at har
  all_goals simp_all
 obtain ⟨n0, n1, n2, n3, n4, n5, n6, n7, n8⟩ := ne
 simp [ybe_r1, hb0, gb0, bmA, List.filter_cons, n0, n1, n2, n3, n4, n5, n6, n7, n8]
 simp [ybe_r2]
 have E1 := E0 (T.set nx (some Zb) h) nx.succ (.cells [I 0, .nilf] .fix)
 have F1 := F0.trans (Fr.ext E1)
 have r1 := r0.ext E1
 obtain ⟨br1, hb1, ha1⟩ := r1.blk
 have gf1 := r1.gf
 simp [ybe_r5, hb1, gf1, HF, S.orc]
 simp [ybe_r6]
 simp [ybe_r7, S.raw]
 refine (end_ok S _ _ _).mono ?_
 rintro o h2 nx2 ⟨rfl, e2⟩
 simp [stopO, applyF, har, HM]
 exact stop_ok (F1.trans (Fr.ext e2)).down (r1.ext e2)
end Tz
/-
 SV: the evaluator's function apply. No condition.
-/
namespace Tz
open Go.Sx Go
variable {C : Cfg} (S : Std C) {rb : Key} {D : RunB} {L : Lim} {rec_ : Rec} {c0 : Int} (HE : EvOK C rb D L rec_ c0) (M : Md)
include S HE
theorem apply_b_p {fn : Go.Sx.S} {s : Sc} {k : Int} {na nb : Nat} {n : Int} {names : List Go.Sx.S} {binds : List (List Go.Sx.S)} {at_ : Int} {st : St} {sp cn cb ck : AV} {h : T Blk} {nx : Key} {pb : Key} {kids : List E} (hc : c0 ≤ st.cf) (hr : Run rb D L st h nx) (hs : IsSc rb h nx sp s)
  (hk : IsEK ck kids) (hpb : pb.toNat < nx.toNat) (hpr : pb ≠ rb) (hpg : T.get pb h = some (.cells [I k, .str na nb, I n, cn, cb, ck, I at_] .fix)) {ar : Nat} {f : Nat} (HB : D.bm = bmA) (hfind : findK [] true (.str na nb) bmA = some (some (.agg [I ar, .fn f [] []]))) (har : arityF (na, nb) = some ar)
  (hcall : ∀ (l : List V) (cs : List AV) (st' : St), l.length = ar → Rw 5 IsZ cs l → (∀ v ∈ l, Fit v) → Pur C f [.ptr rb 0, .sl cs l.length 5 .any] (OutR (builtF (na, nb) l st'))) : CallA C n_ybe [.ptr rb 0, SA fn, sp, .ptr pb 0] h nx (Ends rb D L h nx (applyF rec_ M fn s (.mk k (na, nb) n names binds kids at_) st)) := by
 have hs' : ∀ n h, frzA n sp h = (sp, h) := hs.stb
 have low := hr.low
 have s1 := Key.toNat_succ nx
 have s2 := Key.toNat_succ nx.succ
 have r0 := hr.ext (E0 h nx Zb)
 have F0 : Fr rb (T.set nx (some Zb) h) nx.succ (T.set nx (some Zb) h) nx.succ := Fr.refl _ _ _
 have z0 := hs.mono (Fr.ext (rb := rb) (E0 h nx Zb))
 have gb0 := r0.gb
 have lb0 := r0.lb
 rw [HB] at gb0
 obtain ⟨br, hb0, ha0⟩ := r0.blk
 have p0 : T.get pb (T.set nx (some Zb) h) = some (.cells [I k, .str na nb, I n, cn, cb, ck, I at_] .fix) := by rw [get_lt hpb]; exact hpg
 refine S.c_ybe.call ?_
 simp [ybe]
 simp [ybe_r0]
 simp [ybe_r1, hb0, gb0, S.orc, hfind, List.filter_cons, p0]
 simp [ybe_r2]
 have E1 := E0 (T.set nx (some Zb) h) nx.succ (.cells [I ar, .fn f [] []] .fix)
 have F1 := F0.trans (Fr.ext E1)
 have r1 := r0.ext E1
 have z1 := z0.mono (Fr.ext (rb := rb) E1)
 have p1 := (E1.g pb (by omega)).trans p0
 have hck : ∀ n h, frzA n ck h = (ck, h) := IsEK.stb hk
 by_cases hlen0 : kids.length = ar
 ·have hl' : ((kids.length : Int) == (ar : Int)) = true := by simp [hlen0]
  rcases id hk with ⟨rfl, hke⟩ | ⟨cs, rfl, hel, hcs⟩
  ·have hl2 : ((0 : Int) == (ar : Int)) = true := by simpa [hke] using hl'
   simp [ybe_r3, hl2, S.raw, p1]
   refine (need_ok S _ _ _).mono ?_
   rintro o h2 nx2 ⟨rfl, e2⟩
   have t2 := e2.n
   have r2 := r1.ext e2
   have F2 := F1.trans (Fr.ext e2)
   have z2 := z1.mono (Fr.ext (rb := rb) e2)
   have w2 := e2.g nx.succ (by omega)
   simp at w2
   have p2 := (e2.g pb (by omega)).trans p1
   simp
   simp [ybe_r4, S.raw, hs', hck, w2, p2]
   refine (rall_ok S HE hc r2 z2 hk).mono ?_
   rintro o h3 nx3 ⟨f3, hR⟩
   have t3 := f3.n
   have F3 := F2.trans f3
   have w3 := (f3.g nx.succ (by omega) (fun e => by rw [← e] at low; omega) (by rw [w2]; trivial)).trans w2
   have hap : applyF rec_ M fn s (.mk k (na, nb) n names binds kids at_) st = (match allF rec_ fn s kids st with
     | .stop c st => .stop c st
     | .ok l st => builtF (na, nb) l st) := by
    simp [applyF, har, hlen0]
    try (cases allF rec_ fn s kids st <;> rfl)
   rw [hap]
   cases hres : allF rec_ fn s kids st with
   | stop c' st' =>
    rw [hres] at hR
    obtain ⟨rfl, hR⟩ := hR
    simp [stopO]
    exact stop_ok F3.down hR
   | ok l st' =>
    rw [hres] at hR
    obtain ⟨⟨cs2, hcs2, rfl⟩, hR, hfit, hcf2, hcl2, hlen⟩ := hR
    simp [AV.beq, AV.beqs, w3, S.raw]
    refine (hcall l cs2 st' (by omega) hcs2 (fun v hv => (hfit v hv).1) _ _).mono ?_
    rintro o h4 nx4 ⟨ho, e4⟩
    have F4 := F3.trans (Fr.ext e4)
    have q4 := F4.res low
    cases hbu : builtF (na, nb) l st' with
    | stop c' st2 =>
     have := builtF_st2 hbu
     subst this
     rw [hbu] at ho
     have ho : o = stopO c' := ho
     subst ho
     simp [stopO]
     exact stop_ok F4.down (hR.ext e4)
    | ok v st2 =>
     have := builtF_st hbu
     subst this
     rw [hbu] at ho
     obtain ⟨c4, hK4, rfl⟩ := ho
     have hcc4 := IsK.cell hK4
     have hcf4 : ∀ n h, frzA n c4 h = (c4, h) := IsK.stb hK4
     simp [q4, hcc4, hcf4]
     exact fin_ok F4 low (hR.ext e4) hK4
  ·simp [ybe_r3, hl', S.raw, p1]
   refine (need_ok S _ _ _).mono ?_
   rintro o h2 nx2 ⟨rfl, e2⟩
   have t2 := e2.n
   have r2 := r1.ext e2
   have F2 := F1.trans (Fr.ext e2)
   have z2 := z1.mono (Fr.ext (rb := rb) e2)
   have w2 := e2.g nx.succ (by omega)
   simp at w2
   have p2 := (e2.g pb (by omega)).trans p1
   simp
   simp [ybe_r4, S.raw, hs', hck, w2, p2]
   refine (rall_ok S HE hc r2 z2 hk).mono ?_
   rintro o h3 nx3 ⟨f3, hR⟩
   have t3 := f3.n
   have F3 := F2.trans f3
   have w3 := (f3.g nx.succ (by omega) (fun e => by rw [← e] at low; omega) (by rw [w2]; trivial)).trans w2
   have hap : applyF rec_ M fn s (.mk k (na, nb) n names binds kids at_) st = (match allF rec_ fn s kids st with
     | .stop c st => .stop c st
     | .ok l st => builtF (na, nb) l st) := by
    simp [applyF, har, hlen0]
    try (cases allF rec_ fn s kids st <;> rfl)
   rw [hap]
   cases hres : allF rec_ fn s kids st with
   | stop c' st' =>
    rw [hres] at hR
    obtain ⟨rfl, hR⟩ := hR
    simp [stopO]
    exact stop_ok F3.down hR
   | ok l st' =>
    rw [hres] at hR
    obtain ⟨⟨cs2, hcs2, rfl⟩, hR, hfit, hcf2, hcl2, hlen⟩ := hR
    simp [AV.beq, AV.beqs, w3, S.raw]
    refine (hcall l cs2 st' (by omega) hcs2 (fun v hv => (hfit v hv).1) _ _).mono ?_
    rintro o h4 nx4 ⟨ho, e4⟩
    have F4 := F3.trans (Fr.ext e4)
    have q4 := F4.res low
    cases hbu : builtF (na, nb) l st' with
    | stop c' st2 =>
     have := builtF_st2 hbu
     subst this
     rw [hbu] at ho
     have ho : o = stopO c' := ho
     subst ho
     simp [stopO]
     exact stop_ok F4.down (hR.ext e4)
    | ok v st2 =>
     have := builtF_st hbu
     subst this
     rw [hbu] at ho
     obtain ⟨c4, hK4, rfl⟩ := ho
     have hcc4 := IsK.cell hK4
     have hcf4 : ∀ n h, frzA n c4 h = (c4, h) := IsK.stb hK4
     simp [q4, hcc4, hcf4]
     exact fin_ok F4 low (hR.ext e4) hK4
 ·have hl' : ((kids.length : Int) == (ar : Int)) = false := by simp; omega
  rcases id hk with ⟨rfl, hke⟩ | ⟨cs, rfl, hel, hcs⟩
  ·have hl2 : ((0 : Int) == (ar : Int)) = false := by simpa [hke] using hl'
   simp [ybe_r3, hl2, S.raw, p1]
   refine (need_ok S _ _ _).mono ?_
   rintro o h2 nx2 ⟨rfl, e2⟩
   have t2 := e2.n
   have r2 := r1.ext e2
   have F2 := F1.trans (Fr.ext e2)
   have z2 := z1.mono (Fr.ext (rb := rb) e2)
   have w2 := e2.g nx.succ (by omega)
   simp at w2
   have p2 := (e2.g pb (by omega)).trans p1
   simp [applyF, har, hlen0, stopO]
   exact stop_ok F2.down r2
  ·simp [ybe_r3, hl', S.raw, p1]
   refine (need_ok S _ _ _).mono ?_
   rintro o h2 nx2 ⟨rfl, e2⟩
   have t2 := e2.n
   have r2 := r1.ext e2
   have F2 := F1.trans (Fr.ext e2)
   have z2 := z1.mono (Fr.ext (rb := rb) e2)
   have w2 := e2.g nx.succ (by omega)
   simp at w2
   have p2 := (e2.g pb (by omega)).trans p1
   simp [applyF, har, hlen0, stopO]
   exact stop_ok F2.down r2
theorem apply_none_p {fn : Go.Sx.S} {s : Sc} {k : Int} {na nb : Nat} {n : Int} {names : List Go.Sx.S} {binds : List (List Go.Sx.S)} {at_ : Int} {st : St} {sp cn cb ck : AV} {h : T Blk} {nx : Key} {pb : Key} {kids : List E} (hc : c0 ≤ st.cf) (hr : Run rb D L st h nx) (hs : IsSc rb h nx sp s)
  (hk : IsEK ck kids) (hpb : pb.toNat < nx.toNat) (hpr : pb ≠ rb) (hpg : T.get pb h = some (.cells [I k, .str na nb, I n, cn, cb, ck, I at_] .fix)) (HB : D.bm = bmA) (HF : findK [] true (.str na nb) D.fm = some none) (HM : findA (na, nb) M.funs = none) (har : arityF (na, nb) = none) : CallA C n_ybe [.ptr rb 0, SA fn, sp, .ptr pb 0] h nx (Ends rb D L h nx (applyF rec_ M fn s (.mk k (na, nb) n names binds kids at_) st)) := by
 have hs' : ∀ n h, frzA n sp h = (sp, h) := hs.stb
 have low := hr.low
 have s1 := Key.toNat_succ nx
 have s2 := Key.toNat_succ nx.succ
 have r0 := hr.ext (E0 h nx Zb)
 have F0 : Fr rb (T.set nx (some Zb) h) nx.succ (T.set nx (some Zb) h) nx.succ := Fr.refl _ _ _
 have z0 := hs.mono (Fr.ext (rb := rb) (E0 h nx Zb))
 have gb0 := r0.gb
 have lb0 := r0.lb
 rw [HB] at gb0
 obtain ⟨br, hb0, ha0⟩ := r0.blk
 have p0 : T.get pb (T.set nx (some Zb) h) = some (.cells [I k, .str na nb, I n, cn, cb, ck, I at_] .fix) := by rw [get_lt hpb]; exact hpg
 refine S.c_ybe.call ?_
 simp [ybe]
 simp [ybe_r0]
 have ne : (decide (na = 4) && decide (nb = 1702521203)) = false ∧ (decide (na = 2) && decide (nb = 29793)) = false ∧ (decide (na = 4) && decide (nb = 1752397168)) = false ∧ (decide (na = 4) && decide (nb = 1701536116)) = false ∧ (decide (na = 4) && decide (nb = 1886351972)) = false ∧ (decide (na = 3) && decide (nb = 7628147)) = false ∧ (decide (na = 3) && decide (nb = 7889261)) = false ∧ (decide (na = 3) && decide (nb = 7235949)) = false ∧ (decide (na = 4) && decide (nb = 1885957222)) = false := by
  unfold arityF at har
  repeat' split at har
  all_goals simp_all
 obtain ⟨n0, n1, n2, n3, n4, n5, n6, n7, n8⟩ := ne
 simp [ybe_r1, hb0, gb0, bmA, List.filter_cons, n0, n1, n2, n3, n4, n5, n6, n7, n8, p0]
 simp [ybe_r2]
 have E1 := E0 (T.set nx (some Zb) h) nx.succ (.cells [I 0, .nilf] .fix)
 have F1 := F0.trans (Fr.ext E1)
 have r1 := r0.ext E1
 obtain ⟨br1, hb1, ha1⟩ := r1.blk
 have gf1 := r1.gf
 have p1 := (E1.g pb (by omega)).trans p0
 simp [ybe_r5, hb1, gf1, HF, S.orc, p1]
 simp [ybe_r6]
 simp [ybe_r7, S.raw]
 refine (end_ok S _ _ _).mono ?_
 rintro o h2 nx2 ⟨rfl, e2⟩
 simp [stopO, applyF, har, HM]
 exact stop_ok (F1.trans (Fr.ext e2)).down (r1.ext e2)
end Tz
/-
 SV: the evaluator's calls of declared functions. No condition.
-/
namespace Tz
open Go.Sx Go
theorem bindS_take {ps : List S} {xs : List V} {j : Nat} (hp : j < ps.length) (hx : j < xs.length) (s : Sc) : bindS (ps.take (j + 1)) (xs.take (j + 1)) s = (ps[j], xs[j]) :: bindS (ps.take j) (xs.take j) s := by
 induction j generalizing ps xs s with
 | zero =>
  cases ps with
  | nil => simp at hp
  | cons p ps => cases xs with
   | nil => simp at hx
   | cons x xs => simp [bindS]
 | succ j ih =>
  cases ps with
  | nil => simp at hp
  | cons p ps => cases xs with
   | nil => simp at hx
   | cons x xs =>
    simp at hp hx
    have := ih hp hx ((p, x) :: s)
    simpa [bindS] using this
theorem Run.pend {rb : Key} {D : RunB} {L : Lim} {st3 st : St} {h3 h5 : T Blk} {k nx5 : Key} {B : Blk} (r3 : Run rb D L st3 h3 k) (f : Fr rb h3 k.succ h5 nx5) (r : Run rb D L st h5 nx5) : Run rb D L st (T.set k (some B) h5) nx5 := by
 have s1 := Key.toNat_succ k
 have low3 := r3.low
 have no : ¬ OwnE rb h5 k := by
  intro o
  obtain ⟨l, kk, c, g1, g2, g3⟩ := f.o (by omega) k (by omega) o
  obtain ⟨br, hb, ha⟩ := r3.blk
  rw [hb] at g1
  cases g1
  simp at g2
  subst g2
  have := ha.lt g3
  omega
 have l1 := r3.lf
 have l2 := r3.lc
 have l3 := r3.lb
 have ne : ∀ b : Key, b.toNat < k.toNat → b ≠ k := fun b hb e => by rw [e] at hb; omega
 obtain ⟨⟨br, hb, ha⟩, low', gf, gc, gb, lf, lc, lb, c0, c1, nb, k0, k1, b0⟩ := r
 refine ⟨⟨br, by rw [T.get_set_ne _ _ _ _ (ne _ low3)]; exact hb, ?_⟩, low', ?_, ?_, ?_, lf, lc, lb, c0, c1, nb, k0, k1, b0⟩
 ·have ow : ∀ b, OwnC br b → b ≠ k := fun b o e => no ⟨_, _, br, hb, by simp, by rw [← e]; exact o⟩
  rcases ha with ⟨rfl, h1, h2⟩ | ⟨b, rfl, hb', hlt, hll⟩ | ⟨t, rfl, ht, hlt⟩
  ·exact .inl ⟨rfl, h1, h2⟩
  ·exact .inr (.inl ⟨b, rfl, by rw [T.get_set_ne _ _ _ _ (ow b (.inl ⟨_, _, rfl⟩))]; exact hb', hlt, hll⟩)
  ·exact .inr (.inr ⟨t, rfl, by rw [T.get_set_ne _ _ _ _ (ow t (.inr ⟨_, _, _, rfl⟩))]; exact ht, hlt⟩)
 ·rw [T.get_set_ne _ _ _ _ (ne _ l1)]; exact gf
 ·rw [T.get_set_ne _ _ _ _ (ne _ l2)]; exact gc
 ·rw [T.get_set_ne _ _ _ _ (ne _ l3)]; exact gb
def ParInv (rb : Key) (D : RunB) (L : Lim) (st : St) (ps : List S) (l : List V) (pp cp ca : AV) (rk : Key) (h0 : T Blk) (n0 : Key) (m : Nat) (tm' : T AV) (h' : T Blk) (nx' : Key) : Prop :=
 ∃ (j : Nat) (sp : AV), m = ps.length - j ∧ j ≤ ps.length ∧ T.get (K 0) tm' = some (.ptr rb 0) ∧ T.get (K 1) tm' = some pp ∧ T.get (K 2) tm' = some ca ∧ T.get (K 6) tm' = some (.ptr rk 0) ∧ T.get (K 7) tm' = some sp ∧ T.get (K 20) tm' = some cp ∧ T.get (K 21) tm' = some (I ps.length) ∧ T.get (K 22) tm' = some (I j) ∧
  Ext h0 n0 h' nx' ∧ IsSc rb h' nx' sp (bindS (ps.take j) (l.take j) [])
section
variable {C : Cfg} (S : Std C) {rb : Key} {D : RunB} {L : Lim} {rec_ : Rec} {c0 : Int} (HE : EvOK C rb D L rec_ c0)
include S HE
theorem fcall_ok {F : Fun} {l : List V} {cs : List AV} {p : AV} {st : St} {h : T Blk} {nx : Key} (hc : c0 ≤ st.cf) (hr : Run rb D L st h nx) (hp : IsFp p F) (hcs : Rw 5 IsZ cs l) (hl : F.params.length = l.length) (hz : ∀ v ∈ l, v.size ≤ 1073741824) :
  CallA C n_ybf [.ptr rb 0, p, .sl cs l.length 5 .any] h nx (Ends rb D L h nx (callF rec_ F l st)) := by
 obtain ⟨ld, d, rfl, hd, rfl⟩ := hp
 have low := hr.low
 have s1 := Key.toNat_succ nx
 have r0 := hr.ext (E0 h nx Zb)
 have hn0 : nx ≠ rb := fun e => by rw [← e] at low; omega
 obtain ⟨br, hb0, ha0⟩ := r0.blk
 have hlen := hd.len
 have k0 := hr.k0
 have k1 := hr.k1
 refine S.c_ybf.call ?_
 simp [ybf]
 simp [ybf_r0]
 by_cases hdeep : 256 ≤ st.calls
 ·have hdeep2 : ¬ st.calls < 256 := by omega
  simp [ybf_r1, hb0, hdeep2]
  simp [ybf_r2, S.raw]
  refine (end_ok S _ _ _).mono ?_
  rintro o h1 nx1 ⟨rfl, e1⟩
  simp [stopO, callF, hdeep]
  exact stop_ok (Fr.down (Fr.ext e1)) (r0.ext e1)
 ·have hdeep2 : st.calls < 256 := by omega
  obtain ⟨cp, hp4, hps⟩ := hd.ps
  simp [ybf_r1, hb0, hdeep2]
  simp [ybf_r3]
  have hpl : d.f.params.length ≤ 4000 := by
   rcases hps with ⟨_, hz⟩ | ⟨_, _, hpl, _⟩
   ·rw [hz]; simp
   ·exact hpl
  have rest : ∀ tm h2 nx2 sp, T.get (K 0) tm = some (.ptr rb 0) → T.get (K 1) tm = some (.cref ld) → T.get (K 6) tm = some (.ptr nx 0) → T.get (K 7) tm = some sp → Ext (T.set nx (some Zb) h) nx.succ h2 nx2 → IsSc rb h2 nx2 sp (bindS d.f.params l []) →
    wpC C (.seq (.ops ybf_r9) (.seq (.staged ybf_r10 ⟨[K 44, K 45, K 46, K 47, K 48, K 49, K 50, K 51, K 52, K 53, K 10], []⟩) (.seq (.ops ybf_r11) (.seq (.ops ybf_r12) .ret))))
     (BodyP [.cell (K 6) true 5] (Ends rb D L h nx (callF rec_ d.f l st))) tm h2 nx2 := by
   intro tm h2 nx2 sp f0 f1 f6 f7 e2 hS2
   have hs' : ∀ n h, frzA n sp h = (sp, h) := hS2.stb
   have hsb := hS2.beq
   have t2 := e2.n
   have u2 := Key.toNat_succ nx2
   have R2 := r0.ext e2
   obtain ⟨br2, hb2, ha2⟩ := R2.blk
   have hw : wrapF .i64 (st.calls + 1) = st.calls + 1 := wrap_id (by omega) (by omega)
   simp [ybf_r9, f0, hb2, hw]
   have R3 : Run rb D L { st with calls := st.calls + 1 } (T.set rb (some (.cells (runC D L { st with calls := st.calls + 1 } br2) .fix)) h2) nx2 := R2.nums hb2 ha2 rfl R2.c0 R2.c1 R2.nb (by simp; omega) (by simp; omega) R2.b0
   have F3 : Fr rb (T.set nx (some Zb) h) nx.succ (T.set rb (some (.cells (runC D L { st with calls := st.calls + 1 } br2) .fix)) h2) nx2 := (Fr.ext e2).trans (Fr.run hb2)
   have S3 : IsSc rb (T.set rb (some (.cells (runC D L { st with calls := st.calls + 1 } br2) .fix)) h2) nx2 sp (bindS d.f.params l []) := hS2.mono (Fr.run hb2)
   generalize T.set rb (some (.cells (runC D L { st with calls := st.calls + 1 } br2) .fix)) h2 = h3 at *
   have hbE := hd.bd
   have hnm := hd.nm
   have hbs : AV.beq (SA d.f.name) (SA d.f.name) = true := beq_refl _ rfl
   have E4 : Ext h3 nx2 h3 nx2.succ := ⟨by omega, fun _ _ => rfl⟩
   have R4 := R3.ext E4
   have S4 := S3.mono (Fr.ext (rb := rb) E4)
   have hP : IsP rb h3 nx2.succ (.cref (ld.drop 8)) d.f.body := ⟨_, hbE, .inl ⟨(ld.drop 8).drop 7, by rw [List.take_append_drop]⟩⟩
   have hk := HE d.f.name (bindS d.f.params l []) d.f.body { st with calls := st.calls + 1 } sp (.cref (ld.drop 8)) _ _ hc R4 S4 hP
   simp [ybf_r10, List.filter_cons, f0, f1, f7, hnm, S.raw, hs']
   refine hk.1.mono ?_
   rintro o h5 nx5 ⟨f5, hR⟩
   have t5 := f5.n
   have F5 := (F3.trans (Fr.ext E4)).trans f5
   have u5 := Key.toNat_succ nx5
   cases hrec : rec_ d.f.name (bindS d.f.params l []) d.f.body { st with calls := st.calls + 1 } with
   | stop c st' =>
    rw [hrec] at hR
    obtain ⟨rfl, hR⟩ := hR
    simp [stopO, callF, hdeep, hrec]
    exact stop_ok F5.down hR
   | ok v st' =>
    rw [hrec] at hR
    obtain ⟨⟨c, hK, rfl⟩, hR⟩ := hR
    have hg := hk.2 v st' hrec
    have hgk := hg.k
    simp at hgk
    have hcc := IsK.cell hK
    have hcf : ∀ n h, frzA n c h = (c, h) := IsK.stb hK
    simp [hcc, hnm, hbs, hsb, AV.beq, AV.beqs]
    have R6 : Run rb D L st' (T.set nx2 (some (.cells [I v.k, I v.n, .str v.a v.b, c, I v.size] .fix)) h5) nx5 := Run.pend R3 f5 hR
    have F6 : Fr rb (T.set nx (some Zb) h) nx.succ (T.set nx2 (some (.cells [I v.k, I v.n, .str v.a v.b, c, I v.size] .fix)) h5) nx5 := F5.set (by omega)
    have q26 : T.get nx2 (T.set nx2 (some (.cells [I v.k, I v.n, .str v.a v.b, c, I v.size] .fix)) h5) = some (.cells [I v.k, I v.n, .str v.a v.b, c, I v.size] .fix) := T.get_set_same _ _ _
    generalize T.set nx2 (some (.cells [I v.k, I v.n, .str v.a v.b, c, I v.size] .fix)) h5 = h6 at *
    obtain ⟨br6, hb6, ha6⟩ := R6.blk
    have hn2 : nx2 ≠ rb := fun e => by rw [e] at t2; omega
    have hw2 : wrapF .i64 (st'.calls - 1) = st'.calls - 1 := wrap_id (by omega) (by omega)
    simp [ybf_r11, f0, hb6, hw2]
    have R7 : Run rb D L { st' with calls := st'.calls - 1 } (T.set rb (some (.cells (runC D L { st' with calls := st'.calls - 1 } br6) .fix)) h6) nx5 := R6.nums hb6 ha6 rfl R6.c0 R6.c1 R6.nb (by simp; omega) (by simp; omega) R6.b0
    have F7 := F6.trans (Fr.run (st' := { st' with calls := st'.calls - 1 }) hb6)
    have q27 : T.get nx2 (T.set rb (some (.cells (runC D L { st' with calls := st'.calls - 1 } br6) .fix)) h6) = some (.cells [I v.k, I v.n, .str v.a v.b, c, I v.size] .fix) := by rw [T.get_set_ne _ _ _ _ hn2]; exact q26
    have q07 := F7.res low
    generalize T.set rb (some (.cells (runC D L { st' with calls := st'.calls - 1 } br6) .fix)) h6 = h7 at *
    simp [ybf_r12, f6, q27, q07, hcc, hcf]
    have : callF rec_ d.f l st = .ok v { st' with calls := st'.calls - 1 } := by simp [callF, hdeep, hrec]
    rw [this]
    exact fin_ok F7 low R7 hK
  simp only [wpC_seq, wpC_ops, wpC_staged] at rest
  rcases hps with ⟨rfl, hpn⟩ | ⟨pcs, rfl, hpl2, hpcs⟩
  ·have hln : l = [] := List.eq_nil_of_length_eq_zero (by rw [← hl, hpn]; rfl)
   simp [ybf_r4, hp4]
   refine W.unroll (W.of ?_)
   simp [ybf_l0]
   simp [ybf_r5]
   refine rest _ _ _ .nilp ?_ ?_ ?_ ?_ (Ext.refl _ _) (by rw [hpn, hln]; exact .nil) <;> simp
  ·simp [ybf_r4, hp4]
   refine W.loopM (n := d.f.params.length) (ParInv rb D L st d.f.params l (.cref ld) (.sl pcs d.f.params.length 4 .any) (.sl cs l.length 5 .any) nx (T.set nx (some Zb) h) nx.succ) ?_ ?_
   ·refine ⟨0, .nilp, by simp, by omega, ?_, ?_, ?_, ?_, ?_, ?_, ?_, ?_, Ext.refl _ _, .nil⟩ <;> simp
   ·rintro m tm1 h1 nx1 ⟨j, sp, rfl, hj, f0, f1, f2, f6, f7, f20, f21, f22, e1, hS⟩
    have t1 := e1.n
    have u1 := Key.toNat_succ nx1
    have u2 := Key.toNat_succ nx1.succ
    refine W.of ?_
    simp [ybf_l0]
    simp [ybf_r5, f21, f22]
    refine ⟨fun hlt => ?_, fun hge => ?_⟩
    ·have hjl : j < d.f.params.length := by omega
     have hjv : j < l.length := by omega
     have h4 : 4 ≤ pcs.length - j * 4 := by have := hpcs.hc; omega
     have h5 : 5 ≤ cs.length - j * 5 := by have := hcs.hc; omega
     have hpr := hpcs.hk j hjl
     obtain ⟨c, hK, ec⟩ := hcs.hk j hjv
     have hcc := IsK.cell hK
     have hcf : ∀ n h, frzA n c h = (c, h) := IsK.stb hK
     have hsc := hS.cell
     obtain ⟨x1, x2, x3, ht, y1, y2, y3⟩ := hpr
     simp [ybf_r6, f20, f22, hjl, h4, ht, y1, y2, y3]
     simp [ybf_r7, f2, f7, hjv, h5, ec, hcc, hsc.1, hsc.2]
     simp [ybf_r8, f22]
     have hzj := hz l[j] (List.getElem_mem hjv)
     have E3 := (E0 h1 nx1 (.cells [SA d.f.params[j], x1, x2, x3] .fix)).trans (E0 _ nx1.succ (.cells [SA d.f.params[j], I l[j].k, I l[j].n, .str l[j].a l[j].b, c, I l[j].size, sp] .fix))
     refine ⟨d.f.params.length - (j + 1), by omega, j + 1, .ptr nx1.succ 0, rfl, by omega, ?_, ?_, ?_, ?_, ?_, ?_, ?_, ?_, e1.trans E3, ?_⟩
     ·simp [f0]
     ·simp [f1]
     ·simp [f2]
     ·simp [f6]
     ·simp
     ·simp [f20]
     ·simp [f21]
     ·simp; rw [wrap_id (by omega) (by omega)]
     ·rw [bindS_take hjl hjv]
      exact .cons nx1.succ _ _ c sp _ (by omega) (fun e => by rw [← e] at low; omega) (T.get_set_same _ _ _) hK hzj (hS.mono (Fr.ext (rb := rb) E3))
    ·have hjl : j = d.f.params.length := by omega
     subst hjl
     rw [List.take_length, List.take_of_length_le (by omega)] at hS
     exact rest _ _ _ sp (by simp [f0]) (by simp [f1]) (by simp [f6]) (by simp [f7]) e1 hS
end
end Tz
/-
 SV: the evaluator's function apply. No condition.
-/
namespace Tz
open Go.Sx Go
variable {C : Cfg} (S : Std C) {rb : Key} {D : RunB} {L : Lim} {rec_ : Rec} {c0 : Int} (HE : EvOK C rb D L rec_ c0) (M : Md)
include S HE
theorem apply_fun_c {fn : Go.Sx.S} {s : Sc} {k : Int} {na nb : Nat} {n : Int} {names : List Go.Sx.S} {binds : List (List Go.Sx.S)} {at_ : Int} {st : St} {sp cn cb ck : AV} {h : T Blk} {nx : Key} {t : List AV} {kids : List E} (hc : c0 ≤ st.cf) (hr : Run rb D L st h nx) (hs : IsSc rb h nx sp s)
  (hk : IsEK ck kids) {F : Fun} {p : AV} (HB : D.bm = bmA) (HF : findK [] true (.str na nb) D.fm = some (some p)) (hF : IsFp p F) (HM : findA (na, nb) M.funs = some F) (har : arityF (na, nb) = none) : CallA C n_ybe [.ptr rb 0, SA fn, sp, .cref ([I k, .str na nb, I n, cn, cb, ck, I at_] ++ t)] h nx (Ends rb D L h nx (applyF rec_ M fn s (.mk k (na, nb) n names binds kids at_) st)) := by
 have hs' : ∀ n h, frzA n sp h = (sp, h) := hs.stb
 have low := hr.low
 have s1 := Key.toNat_succ nx
 have s2 := Key.toNat_succ nx.succ
 have r0 := hr.ext (E0 h nx Zb)
 have F0 : Fr rb (T.set nx (some Zb) h) nx.succ (T.set nx (some Zb) h) nx.succ := Fr.refl _ _ _
 have z0 := hs.mono (Fr.ext (rb := rb) (E0 h nx Zb))
 have gb0 := r0.gb
 have lb0 := r0.lb
 rw [HB] at gb0
 obtain ⟨br, hb0, ha0⟩ := r0.blk
 refine S.c_ybe.call ?_
 simp [ybe]
 simp [ybe_r0]
 have ne : (decide (na = 4) && decide (nb = 1702521203)) = false ∧ (decide (na = 2) && decide (nb = 29793)) = false ∧ (decide (na = 4) && decide (nb = 1752397168)) = false ∧ (decide (na = 4) && decide (nb = 1701536116)) = false ∧ (decide (na = 4) && decide (nb = 1886351972)) = false ∧ (decide (na = 3) && decide (nb = 7628147)) = false ∧ (decide (na = 3) && decide (nb = 7889261)) = false ∧ (decide (na = 3) && decide (nb = 7235949)) = false ∧ (decide (na = 4) && decide (nb = 1885957222)) = false := by
  unfold arityF at har
  repeat' split at har
  all_goals simp_all
 obtain ⟨n0, n1, n2, n3, n4, n5, n6, n7, n8⟩ := ne
 simp [ybe_r1, hb0, gb0, bmA, List.filter_cons, n0, n1, n2, n3, n4, n5, n6, n7, n8]
 simp [ybe_r2]
 have E1 := E0 (T.set nx (some Zb) h) nx.succ (.cells [I 0, .nilf] .fix)
 have F1 := F0.trans (Fr.ext E1)
 have r1 := r0.ext E1
 have z1 := z0.mono (Fr.ext (rb := rb) E1)
 obtain ⟨br1, hb1, ha1⟩ := r1.blk
 have gf1 := r1.gf
 obtain ⟨ld, d, rfl, hd, rfl⟩ := hF
 simp [ybe_r5, hb1, gf1, HF, S.orc]
 simp [ybe_r6]
 obtain ⟨cp, hp4, hps⟩ := hd.ps
 have hpn : AV.isCell cp = true ∧ ∃ pl : Int, pl = d.f.params.length ∧ ((cp = .nils ∧ pl = 0) ∨ ∃ pcs, cp = .sl pcs d.f.params.length 4 .any) := by
  rcases hps with ⟨rfl, hz⟩ | ⟨pcs, rfl, _, _⟩
  ·exact ⟨rfl, _, rfl, .inl ⟨rfl, by rw [hz]; rfl⟩⟩
  ·exact ⟨rfl, _, rfl, .inr ⟨pcs, rfl⟩⟩
 have hck : ∀ n h, frzA n ck h = (ck, h) := IsEK.stb hk
 obtain ⟨hpc, pl, hpl, hpn⟩ := hpn
 by_cases hlen0 : kids.length = d.f.params.length
 ·have hl' : ((kids.length : Int) == (d.f.params.length : Int)) = true := by simp [hlen0]
  rcases id hk with ⟨rfl, hke⟩ | ⟨cs, rfl, hel, hcs⟩
  ·have hl2 : ((0 : Int) == (d.f.params.length : Int)) = true := by simpa [hke] using hl'
   rcases hpn with ⟨rfl, h0⟩ | ⟨pcs, rfl⟩
   ·simp [ybe_r8, hp4, S.raw]
    refine (need_ok S _ _ _).mono ?_
    rintro o h2 nx2 ⟨rfl, e2⟩
    have t2 := e2.n
    have r2 := r1.ext e2
    have F2 := F1.trans (Fr.ext e2)
    have z2 := z1.mono (Fr.ext (rb := rb) e2)
    simp
    simp [ybe_r9, S.raw, hs', hck]
    refine (rall_ok S HE hc r2 z2 hk).mono ?_
    rintro o h3 nx3 ⟨f3, hR⟩
    have t3 := f3.n
    have F3 := F2.trans f3
    have hap : applyF rec_ M fn s (.mk k (na, nb) n names binds kids at_) st = (match allF rec_ fn s kids st with
      | .stop c st => .stop c st
      | .ok l st => callF rec_ d.f l st) := by
     simp [applyF, har, hlen0, HM]
     try (cases allF rec_ fn s kids st <;> rfl)
    rw [hap]
    cases hres : allF rec_ fn s kids st with
    | stop c' st' =>
     rw [hres] at hR
     obtain ⟨rfl, hR⟩ := hR
     simp [stopO]
     exact stop_ok F3.down hR
    | ok l st' =>
     rw [hres] at hR
     obtain ⟨⟨cs2, hcs2, rfl⟩, hR, hfit, hcf2, hcl2, hlen⟩ := hR
     simp [AV.beq, AV.beqs, S.raw]
     refine (fcall_ok S HE (F := d.f) (l := l) (by omega) hR ⟨ld, d, rfl, hd, rfl⟩ hcs2 (by omega) (fun v hv => by have := (hfit v hv).1.z; omega)).mono ?_
     rintro o h4 nx4 ⟨f4, hR4⟩
     have F4 := F3.trans f4
     have q4 := F4.res low
     cases hbu : callF rec_ d.f l st' with
     | stop c' st2 =>
      rw [hbu] at hR4
      obtain ⟨rfl, hR4⟩ := hR4
      simp [stopO]
      exact stop_ok F4.down hR4
     | ok v st2 =>
      rw [hbu] at hR4
      obtain ⟨⟨c4, hK4, rfl⟩, hR4⟩ := hR4
      have hcc4 := IsK.cell hK4
      have hcf4 : ∀ n h, frzA n c4 h = (c4, h) := IsK.stb hK4
      simp [q4, hcc4, hcf4]
      exact fin_ok F4 low hR4 hK4
   ·simp [ybe_r8, hp4, hl2, S.raw]
    refine (need_ok S _ _ _).mono ?_
    rintro o h2 nx2 ⟨rfl, e2⟩
    have t2 := e2.n
    have r2 := r1.ext e2
    have F2 := F1.trans (Fr.ext e2)
    have z2 := z1.mono (Fr.ext (rb := rb) e2)
    simp
    simp [ybe_r9, S.raw, hs', hck]
    refine (rall_ok S HE hc r2 z2 hk).mono ?_
    rintro o h3 nx3 ⟨f3, hR⟩
    have t3 := f3.n
    have F3 := F2.trans f3
    have hap : applyF rec_ M fn s (.mk k (na, nb) n names binds kids at_) st = (match allF rec_ fn s kids st with
      | .stop c st => .stop c st
      | .ok l st => callF rec_ d.f l st) := by
     simp [applyF, har, hlen0, HM]
     try (cases allF rec_ fn s kids st <;> rfl)
    rw [hap]
    cases hres : allF rec_ fn s kids st with
    | stop c' st' =>
     rw [hres] at hR
     obtain ⟨rfl, hR⟩ := hR
     simp [stopO]
     exact stop_ok F3.down hR
    | ok l st' =>
     rw [hres] at hR
     obtain ⟨⟨cs2, hcs2, rfl⟩, hR, hfit, hcf2, hcl2, hlen⟩ := hR
     simp [AV.beq, AV.beqs, S.raw]
     refine (fcall_ok S HE (F := d.f) (l := l) (by omega) hR ⟨ld, d, rfl, hd, rfl⟩ hcs2 (by omega) (fun v hv => by have := (hfit v hv).1.z; omega)).mono ?_
     rintro o h4 nx4 ⟨f4, hR4⟩
     have F4 := F3.trans f4
     have q4 := F4.res low
     cases hbu : callF rec_ d.f l st' with
     | stop c' st2 =>
      rw [hbu] at hR4
      obtain ⟨rfl, hR4⟩ := hR4
      simp [stopO]
      exact stop_ok F4.down hR4
     | ok v st2 =>
      rw [hbu] at hR4
      obtain ⟨⟨c4, hK4, rfl⟩, hR4⟩ := hR4
      have hcc4 := IsK.cell hK4
      have hcf4 : ∀ n h, frzA n c4 h = (c4, h) := IsK.stb hK4
      simp [q4, hcc4, hcf4]
      exact fin_ok F4 low hR4 hK4
  ·rcases hpn with ⟨rfl, h0⟩ | ⟨pcs, rfl⟩
   ·have hl2 : ((kids.length : Int) == (0 : Int)) = true := by rw [beq_iff_eq]; omega
    simp [ybe_r8, hp4, hl2, S.raw]
    refine (need_ok S _ _ _).mono ?_
    rintro o h2 nx2 ⟨rfl, e2⟩
    have t2 := e2.n
    have r2 := r1.ext e2
    have F2 := F1.trans (Fr.ext e2)
    have z2 := z1.mono (Fr.ext (rb := rb) e2)
    simp
    simp [ybe_r9, S.raw, hs', hck]
    refine (rall_ok S HE hc r2 z2 hk).mono ?_
    rintro o h3 nx3 ⟨f3, hR⟩
    have t3 := f3.n
    have F3 := F2.trans f3
    have hap : applyF rec_ M fn s (.mk k (na, nb) n names binds kids at_) st = (match allF rec_ fn s kids st with
      | .stop c st => .stop c st
      | .ok l st => callF rec_ d.f l st) := by
     simp [applyF, har, hlen0, HM]
     try (cases allF rec_ fn s kids st <;> rfl)
    rw [hap]
    cases hres : allF rec_ fn s kids st with
    | stop c' st' =>
     rw [hres] at hR
     obtain ⟨rfl, hR⟩ := hR
     simp [stopO]
     exact stop_ok F3.down hR
    | ok l st' =>
     rw [hres] at hR
     obtain ⟨⟨cs2, hcs2, rfl⟩, hR, hfit, hcf2, hcl2, hlen⟩ := hR
     simp [AV.beq, AV.beqs, S.raw]
     refine (fcall_ok S HE (F := d.f) (l := l) (by omega) hR ⟨ld, d, rfl, hd, rfl⟩ hcs2 (by omega) (fun v hv => by have := (hfit v hv).1.z; omega)).mono ?_
     rintro o h4 nx4 ⟨f4, hR4⟩
     have F4 := F3.trans f4
     have q4 := F4.res low
     cases hbu : callF rec_ d.f l st' with
     | stop c' st2 =>
      rw [hbu] at hR4
      obtain ⟨rfl, hR4⟩ := hR4
      simp [stopO]
      exact stop_ok F4.down hR4
     | ok v st2 =>
      rw [hbu] at hR4
      obtain ⟨⟨c4, hK4, rfl⟩, hR4⟩ := hR4
      have hcc4 := IsK.cell hK4
      have hcf4 : ∀ n h, frzA n c4 h = (c4, h) := IsK.stb hK4
      simp [q4, hcc4, hcf4]
      exact fin_ok F4 low hR4 hK4
   ·simp [ybe_r8, hp4, hl', S.raw]
    refine (need_ok S _ _ _).mono ?_
    rintro o h2 nx2 ⟨rfl, e2⟩
    have t2 := e2.n
    have r2 := r1.ext e2
    have F2 := F1.trans (Fr.ext e2)
    have z2 := z1.mono (Fr.ext (rb := rb) e2)
    simp
    simp [ybe_r9, S.raw, hs', hck]
    refine (rall_ok S HE hc r2 z2 hk).mono ?_
    rintro o h3 nx3 ⟨f3, hR⟩
    have t3 := f3.n
    have F3 := F2.trans f3
    have hap : applyF rec_ M fn s (.mk k (na, nb) n names binds kids at_) st = (match allF rec_ fn s kids st with
      | .stop c st => .stop c st
      | .ok l st => callF rec_ d.f l st) := by
     simp [applyF, har, hlen0, HM]
     try (cases allF rec_ fn s kids st <;> rfl)
    rw [hap]
    cases hres : allF rec_ fn s kids st with
    | stop c' st' =>
     rw [hres] at hR
     obtain ⟨rfl, hR⟩ := hR
     simp [stopO]
     exact stop_ok F3.down hR
    | ok l st' =>
     rw [hres] at hR
     obtain ⟨⟨cs2, hcs2, rfl⟩, hR, hfit, hcf2, hcl2, hlen⟩ := hR
     simp [AV.beq, AV.beqs, S.raw]
     refine (fcall_ok S HE (F := d.f) (l := l) (by omega) hR ⟨ld, d, rfl, hd, rfl⟩ hcs2 (by omega) (fun v hv => by have := (hfit v hv).1.z; omega)).mono ?_
     rintro o h4 nx4 ⟨f4, hR4⟩
     have F4 := F3.trans f4
     have q4 := F4.res low
     cases hbu : callF rec_ d.f l st' with
     | stop c' st2 =>
      rw [hbu] at hR4
      obtain ⟨rfl, hR4⟩ := hR4
      simp [stopO]
      exact stop_ok F4.down hR4
     | ok v st2 =>
      rw [hbu] at hR4
      obtain ⟨⟨c4, hK4, rfl⟩, hR4⟩ := hR4
      have hcc4 := IsK.cell hK4
      have hcf4 : ∀ n h, frzA n c4 h = (c4, h) := IsK.stb hK4
      simp [q4, hcc4, hcf4]
      exact fin_ok F4 low hR4 hK4
 ·have hl' : ((kids.length : Int) == (d.f.params.length : Int)) = false := by simp; omega
  rcases id hk with ⟨rfl, hke⟩ | ⟨cs, rfl, hel, hcs⟩
  ·have hl2 : ((0 : Int) == (d.f.params.length : Int)) = false := by simpa [hke] using hl'
   rcases hpn with ⟨rfl, h0⟩ | ⟨pcs, rfl⟩
   ·exfalso; simp [hke] at hlen0; omega
   ·simp [ybe_r8, hp4, hl2, S.raw]
    refine (need_ok S _ _ _).mono ?_
    rintro o h2 nx2 ⟨rfl, e2⟩
    have t2 := e2.n
    have r2 := r1.ext e2
    have F2 := F1.trans (Fr.ext e2)
    have z2 := z1.mono (Fr.ext (rb := rb) e2)
    simp [applyF, har, hlen0, HM, stopO]
    exact stop_ok F2.down r2
  ·rcases hpn with ⟨rfl, h0⟩ | ⟨pcs, rfl⟩
   ·have hl2 : ((kids.length : Int) == (0 : Int)) = false := beq_eq_false_iff_ne.2 (by omega)
    simp [ybe_r8, hp4, hl2, S.raw]
    refine (need_ok S _ _ _).mono ?_
    rintro o h2 nx2 ⟨rfl, e2⟩
    have t2 := e2.n
    have r2 := r1.ext e2
    have F2 := F1.trans (Fr.ext e2)
    have z2 := z1.mono (Fr.ext (rb := rb) e2)
    simp [applyF, har, hlen0, HM, stopO]
    exact stop_ok F2.down r2
   ·simp [ybe_r8, hp4, hl', S.raw]
    refine (need_ok S _ _ _).mono ?_
    rintro o h2 nx2 ⟨rfl, e2⟩
    have t2 := e2.n
    have r2 := r1.ext e2
    have F2 := F1.trans (Fr.ext e2)
    have z2 := z1.mono (Fr.ext (rb := rb) e2)
    simp [applyF, har, hlen0, HM, stopO]
    exact stop_ok F2.down r2
theorem apply_fun_p {fn : Go.Sx.S} {s : Sc} {k : Int} {na nb : Nat} {n : Int} {names : List Go.Sx.S} {binds : List (List Go.Sx.S)} {at_ : Int} {st : St} {sp cn cb ck : AV} {h : T Blk} {nx : Key} {pb : Key} {kids : List E} (hc : c0 ≤ st.cf) (hr : Run rb D L st h nx) (hs : IsSc rb h nx sp s)
  (hk : IsEK ck kids) (hpb : pb.toNat < nx.toNat) (hpr : pb ≠ rb) (hpg : T.get pb h = some (.cells [I k, .str na nb, I n, cn, cb, ck, I at_] .fix)) {F : Fun} {p : AV} (HB : D.bm = bmA) (HF : findK [] true (.str na nb) D.fm = some (some p)) (hF : IsFp p F) (HM : findA (na, nb) M.funs = some F) (har : arityF (na, nb) = none) : CallA C n_ybe [.ptr rb 0, SA fn, sp, .ptr pb 0] h nx (Ends rb D L h nx (applyF rec_ M fn s (.mk k (na, nb) n names binds kids at_) st)) := by
 have hs' : ∀ n h, frzA n sp h = (sp, h) := hs.stb
 have low := hr.low
 have s1 := Key.toNat_succ nx
 have s2 := Key.toNat_succ nx.succ
 have r0 := hr.ext (E0 h nx Zb)
 have F0 : Fr rb (T.set nx (some Zb) h) nx.succ (T.set nx (some Zb) h) nx.succ := Fr.refl _ _ _
 have z0 := hs.mono (Fr.ext (rb := rb) (E0 h nx Zb))
 have gb0 := r0.gb
 have lb0 := r0.lb
 rw [HB] at gb0
 obtain ⟨br, hb0, ha0⟩ := r0.blk
 have p0 : T.get pb (T.set nx (some Zb) h) = some (.cells [I k, .str na nb, I n, cn, cb, ck, I at_] .fix) := by rw [get_lt hpb]; exact hpg
 refine S.c_ybe.call ?_
 simp [ybe]
 simp [ybe_r0]
 have ne : (decide (na = 4) && decide (nb = 1702521203)) = false ∧ (decide (na = 2) && decide (nb = 29793)) = false ∧ (decide (na = 4) && decide (nb = 1752397168)) = false ∧ (decide (na = 4) && decide (nb = 1701536116)) = false ∧ (decide (na = 4) && decide (nb = 1886351972)) = false ∧ (decide (na = 3) && decide (nb = 7628147)) = false ∧ (decide (na = 3) && decide (nb = 7889261)) = false ∧ (decide (na = 3) && decide (nb = 7235949)) = false ∧ (decide (na = 4) && decide (nb = 1885957222)) = false := by
  unfold arityF at har
  repeat' split at har
  all_goals simp_all
 obtain ⟨n0, n1, n2, n3, n4, n5, n6, n7, n8⟩ := ne
 simp [ybe_r1, hb0, gb0, bmA, List.filter_cons, n0, n1, n2, n3, n4, n5, n6, n7, n8, p0]
 simp [ybe_r2]
 have E1 := E0 (T.set nx (some Zb) h) nx.succ (.cells [I 0, .nilf] .fix)
 have F1 := F0.trans (Fr.ext E1)
 have r1 := r0.ext E1
 have z1 := z0.mono (Fr.ext (rb := rb) E1)
 obtain ⟨br1, hb1, ha1⟩ := r1.blk
 have gf1 := r1.gf
 have p1 := (E1.g pb (by omega)).trans p0
 obtain ⟨ld, d, rfl, hd, rfl⟩ := hF
 simp [ybe_r5, hb1, gf1, HF, S.orc, p1]
 simp [ybe_r6]
 obtain ⟨cp, hp4, hps⟩ := hd.ps
 have hpn : AV.isCell cp = true ∧ ∃ pl : Int, pl = d.f.params.length ∧ ((cp = .nils ∧ pl = 0) ∨ ∃ pcs, cp = .sl pcs d.f.params.length 4 .any) := by
  rcases hps with ⟨rfl, hz⟩ | ⟨pcs, rfl, _, _⟩
  ·exact ⟨rfl, _, rfl, .inl ⟨rfl, by rw [hz]; rfl⟩⟩
  ·exact ⟨rfl, _, rfl, .inr ⟨pcs, rfl⟩⟩
 have hck : ∀ n h, frzA n ck h = (ck, h) := IsEK.stb hk
 obtain ⟨hpc, pl, hpl, hpn⟩ := hpn
 by_cases hlen0 : kids.length = d.f.params.length
 ·have hl' : ((kids.length : Int) == (d.f.params.length : Int)) = true := by simp [hlen0]
  rcases id hk with ⟨rfl, hke⟩ | ⟨cs, rfl, hel, hcs⟩
  ·have hl2 : ((0 : Int) == (d.f.params.length : Int)) = true := by simpa [hke] using hl'
   rcases hpn with ⟨rfl, h0⟩ | ⟨pcs, rfl⟩
   ·simp [ybe_r8, hp4, S.raw, p1]
    refine (need_ok S _ _ _).mono ?_
    rintro o h2 nx2 ⟨rfl, e2⟩
    have t2 := e2.n
    have r2 := r1.ext e2
    have F2 := F1.trans (Fr.ext e2)
    have z2 := z1.mono (Fr.ext (rb := rb) e2)
    have p2 := (e2.g pb (by omega)).trans p1
    simp
    simp [ybe_r9, S.raw, hs', hck, p2]
    refine (rall_ok S HE hc r2 z2 hk).mono ?_
    rintro o h3 nx3 ⟨f3, hR⟩
    have t3 := f3.n
    have F3 := F2.trans f3
    have hap : applyF rec_ M fn s (.mk k (na, nb) n names binds kids at_) st = (match allF rec_ fn s kids st with
      | .stop c st => .stop c st
      | .ok l st => callF rec_ d.f l st) := by
     simp [applyF, har, hlen0, HM]
     try (cases allF rec_ fn s kids st <;> rfl)
    rw [hap]
    cases hres : allF rec_ fn s kids st with
    | stop c' st' =>
     rw [hres] at hR
     obtain ⟨rfl, hR⟩ := hR
     simp [stopO]
     exact stop_ok F3.down hR
    | ok l st' =>
     rw [hres] at hR
     obtain ⟨⟨cs2, hcs2, rfl⟩, hR, hfit, hcf2, hcl2, hlen⟩ := hR
     simp [AV.beq, AV.beqs, S.raw]
     refine (fcall_ok S HE (F := d.f) (l := l) (by omega) hR ⟨ld, d, rfl, hd, rfl⟩ hcs2 (by omega) (fun v hv => by have := (hfit v hv).1.z; omega)).mono ?_
     rintro o h4 nx4 ⟨f4, hR4⟩
     have F4 := F3.trans f4
     have q4 := F4.res low
     cases hbu : callF rec_ d.f l st' with
     | stop c' st2 =>
      rw [hbu] at hR4
      obtain ⟨rfl, hR4⟩ := hR4
      simp [stopO]
      exact stop_ok F4.down hR4
     | ok v st2 =>
      rw [hbu] at hR4
      obtain ⟨⟨c4, hK4, rfl⟩, hR4⟩ := hR4
      have hcc4 := IsK.cell hK4
      have hcf4 : ∀ n h, frzA n c4 h = (c4, h) := IsK.stb hK4
      simp [q4, hcc4, hcf4]
      exact fin_ok F4 low hR4 hK4
   ·simp [ybe_r8, hp4, hl2, S.raw, p1]
    refine (need_ok S _ _ _).mono ?_
    rintro o h2 nx2 ⟨rfl, e2⟩
    have t2 := e2.n
    have r2 := r1.ext e2
    have F2 := F1.trans (Fr.ext e2)
    have z2 := z1.mono (Fr.ext (rb := rb) e2)
    have p2 := (e2.g pb (by omega)).trans p1
    simp
    simp [ybe_r9, S.raw, hs', hck, p2]
    refine (rall_ok S HE hc r2 z2 hk).mono ?_
    rintro o h3 nx3 ⟨f3, hR⟩
    have t3 := f3.n
    have F3 := F2.trans f3
    have hap : applyF rec_ M fn s (.mk k (na, nb) n names binds kids at_) st = (match allF rec_ fn s kids st with
      | .stop c st => .stop c st
      | .ok l st => callF rec_ d.f l st) := by
     simp [applyF, har, hlen0, HM]
     try (cases allF rec_ fn s kids st <;> rfl)
    rw [hap]
    cases hres : allF rec_ fn s kids st with
    | stop c' st' =>
     rw [hres] at hR
     obtain ⟨rfl, hR⟩ := hR
     simp [stopO]
     exact stop_ok F3.down hR
    | ok l st' =>
     rw [hres] at hR
     obtain ⟨⟨cs2, hcs2, rfl⟩, hR, hfit, hcf2, hcl2, hlen⟩ := hR
     simp [AV.beq, AV.beqs, S.raw]
     refine (fcall_ok S HE (F := d.f) (l := l) (by omega) hR ⟨ld, d, rfl, hd, rfl⟩ hcs2 (by omega) (fun v hv => by have := (hfit v hv).1.z; omega)).mono ?_
     rintro o h4 nx4 ⟨f4, hR4⟩
     have F4 := F3.trans f4
     have q4 := F4.res low
     cases hbu : callF rec_ d.f l st' with
     | stop c' st2 =>
      rw [hbu] at hR4
      obtain ⟨rfl, hR4⟩ := hR4
      simp [stopO]
      exact stop_ok F4.down hR4
     | ok v st2 =>
      rw [hbu] at hR4
      obtain ⟨⟨c4, hK4, rfl⟩, hR4⟩ := hR4
      have hcc4 := IsK.cell hK4
      have hcf4 : ∀ n h, frzA n c4 h = (c4, h) := IsK.stb hK4
      simp [q4, hcc4, hcf4]
      exact fin_ok F4 low hR4 hK4
  ·rcases hpn with ⟨rfl, h0⟩ | ⟨pcs, rfl⟩
   ·have hl2 : ((kids.length : Int) == (0 : Int)) = true := by rw [beq_iff_eq]; omega
    simp [ybe_r8, hp4, hl2, S.raw, p1]
    refine (need_ok S _ _ _).mono ?_
    rintro o h2 nx2 ⟨rfl, e2⟩
    have t2 := e2.n
    have r2 := r1.ext e2
    have F2 := F1.trans (Fr.ext e2)
    have z2 := z1.mono (Fr.ext (rb := rb) e2)
    have p2 := (e2.g pb (by omega)).trans p1
    simp
    simp [ybe_r9, S.raw, hs', hck, p2]
    refine (rall_ok S HE hc r2 z2 hk).mono ?_
    rintro o h3 nx3 ⟨f3, hR⟩
    have t3 := f3.n
    have F3 := F2.trans f3
    have hap : applyF rec_ M fn s (.mk k (na, nb) n names binds kids at_) st = (match allF rec_ fn s kids st with
      | .stop c st => .stop c st
      | .ok l st => callF rec_ d.f l st) := by
     simp [applyF, har, hlen0, HM]
     try (cases allF rec_ fn s kids st <;> rfl)
    rw [hap]
    cases hres : allF rec_ fn s kids st with
    | stop c' st' =>
     rw [hres] at hR
     obtain ⟨rfl, hR⟩ := hR
     simp [stopO]
     exact stop_ok F3.down hR
    | ok l st' =>
     rw [hres] at hR
     obtain ⟨⟨cs2, hcs2, rfl⟩, hR, hfit, hcf2, hcl2, hlen⟩ := hR
     simp [AV.beq, AV.beqs, S.raw]
     refine (fcall_ok S HE (F := d.f) (l := l) (by omega) hR ⟨ld, d, rfl, hd, rfl⟩ hcs2 (by omega) (fun v hv => by have := (hfit v hv).1.z; omega)).mono ?_
     rintro o h4 nx4 ⟨f4, hR4⟩
     have F4 := F3.trans f4
     have q4 := F4.res low
     cases hbu : callF rec_ d.f l st' with
     | stop c' st2 =>
      rw [hbu] at hR4
      obtain ⟨rfl, hR4⟩ := hR4
      simp [stopO]
      exact stop_ok F4.down hR4
     | ok v st2 =>
      rw [hbu] at hR4
      obtain ⟨⟨c4, hK4, rfl⟩, hR4⟩ := hR4
      have hcc4 := IsK.cell hK4
      have hcf4 : ∀ n h, frzA n c4 h = (c4, h) := IsK.stb hK4
      simp [q4, hcc4, hcf4]
      exact fin_ok F4 low hR4 hK4
   ·simp [ybe_r8, hp4, hl', S.raw, p1]
    refine (need_ok S _ _ _).mono ?_
    rintro o h2 nx2 ⟨rfl, e2⟩
    have t2 := e2.n
    have r2 := r1.ext e2
    have F2 := F1.trans (Fr.ext e2)
    have z2 := z1.mono (Fr.ext (rb := rb) e2)
    have p2 := (e2.g pb (by omega)).trans p1
    simp
    simp [ybe_r9, S.raw, hs', hck, p2]
    refine (rall_ok S HE hc r2 z2 hk).mono ?_
    rintro o h3 nx3 ⟨f3, hR⟩
    have t3 := f3.n
    have F3 := F2.trans f3
    have hap : applyF rec_ M fn s (.mk k (na, nb) n names binds kids at_) st = (match allF rec_ fn s kids st with
      | .stop c st => .stop c st
      | .ok l st => callF rec_ d.f l st) := by
     simp [applyF, har, hlen0, HM]
     try (cases allF rec_ fn s kids st <;> rfl)
    rw [hap]
    cases hres : allF rec_ fn s kids st with
    | stop c' st' =>
     rw [hres] at hR
     obtain ⟨rfl, hR⟩ := hR
     simp [stopO]
     exact stop_ok F3.down hR
    | ok l st' =>
     rw [hres] at hR
     obtain ⟨⟨cs2, hcs2, rfl⟩, hR, hfit, hcf2, hcl2, hlen⟩ := hR
     simp [AV.beq, AV.beqs, S.raw]
     refine (fcall_ok S HE (F := d.f) (l := l) (by omega) hR ⟨ld, d, rfl, hd, rfl⟩ hcs2 (by omega) (fun v hv => by have := (hfit v hv).1.z; omega)).mono ?_
     rintro o h4 nx4 ⟨f4, hR4⟩
     have F4 := F3.trans f4
     have q4 := F4.res low
     cases hbu : callF rec_ d.f l st' with
     | stop c' st2 =>
      rw [hbu] at hR4
      obtain ⟨rfl, hR4⟩ := hR4
      simp [stopO]
      exact stop_ok F4.down hR4
     | ok v st2 =>
      rw [hbu] at hR4
      obtain ⟨⟨c4, hK4, rfl⟩, hR4⟩ := hR4
      have hcc4 := IsK.cell hK4
      have hcf4 : ∀ n h, frzA n c4 h = (c4, h) := IsK.stb hK4
      simp [q4, hcc4, hcf4]
      exact fin_ok F4 low hR4 hK4
 ·have hl' : ((kids.length : Int) == (d.f.params.length : Int)) = false := by simp; omega
  rcases id hk with ⟨rfl, hke⟩ | ⟨cs, rfl, hel, hcs⟩
  ·have hl2 : ((0 : Int) == (d.f.params.length : Int)) = false := by simpa [hke] using hl'
   rcases hpn with ⟨rfl, h0⟩ | ⟨pcs, rfl⟩
   ·exfalso; simp [hke] at hlen0; omega
   ·simp [ybe_r8, hp4, hl2, S.raw, p1]
    refine (need_ok S _ _ _).mono ?_
    rintro o h2 nx2 ⟨rfl, e2⟩
    have t2 := e2.n
    have r2 := r1.ext e2
    have F2 := F1.trans (Fr.ext e2)
    have z2 := z1.mono (Fr.ext (rb := rb) e2)
    have p2 := (e2.g pb (by omega)).trans p1
    simp [applyF, har, hlen0, HM, stopO]
    exact stop_ok F2.down r2
  ·rcases hpn with ⟨rfl, h0⟩ | ⟨pcs, rfl⟩
   ·have hl2 : ((kids.length : Int) == (0 : Int)) = false := beq_eq_false_iff_ne.2 (by omega)
    simp [ybe_r8, hp4, hl2, S.raw, p1]
    refine (need_ok S _ _ _).mono ?_
    rintro o h2 nx2 ⟨rfl, e2⟩
    have t2 := e2.n
    have r2 := r1.ext e2
    have F2 := F1.trans (Fr.ext e2)
    have z2 := z1.mono (Fr.ext (rb := rb) e2)
    have p2 := (e2.g pb (by omega)).trans p1
    simp [applyF, har, hlen0, HM, stopO]
    exact stop_ok F2.down r2
   ·simp [ybe_r8, hp4, hl', S.raw, p1]
    refine (need_ok S _ _ _).mono ?_
    rintro o h2 nx2 ⟨rfl, e2⟩
    have t2 := e2.n
    have r2 := r1.ext e2
    have F2 := F1.trans (Fr.ext e2)
    have z2 := z1.mono (Fr.ext (rb := rb) e2)
    have p2 := (e2.g pb (by omega)).trans p1
    simp [applyF, har, hlen0, HM, stopO]
    exact stop_ok F2.down r2
end Tz
/-
 SV: the evaluator does what the interpreter says. No condition.
-/
namespace Tz
open Go.Sx Go
structure Maps (D : RunB) (M : Md) : Prop where
 b : D.bm = bmA
 f : RelF D.fm M.funs
 c : ∀ a b, findK [] true (.str a b) D.cm = some ((findA (a, b) M.ctors).map I)
section
variable {C : Cfg} (S : Std C)
include S
theorem b_size (rb : Key) (l : List V) (cs : List AV) (st' : St) (hl : l.length = 1) (hcs : Rw 5 IsZ cs l) (hf : ∀ v ∈ l, Fit v) : Pur C n_yam [.ptr rb 0, .sl cs l.length 5 .any] (OutR (builtF (4, 1702521203) l st')) := by
 obtain ⟨x, rfl⟩ := len1 hl
 obtain ⟨d0, hz0, rfl⟩ := rw1 hcs
 exact bsize_ok S rb x hz0 st'
theorem b_at (rb : Key) (l : List V) (cs : List AV) (st' : St) (hl : l.length = 2) (hcs : Rw 5 IsZ cs l) (hf : ∀ v ∈ l, Fit v) : Pur C n_yak [.ptr rb 0, .sl cs l.length 5 .any] (OutR (builtF (2, 29793) l st')) := by
 obtain ⟨x, y, rfl⟩ := len2 hl
 obtain ⟨d0, d1, hz0, hz1, rfl⟩ := rw2 hcs
 exact bat_ok S rb x y hz0 hz1 (hf x (by simp)) st'
theorem b_push (rb : Key) (l : List V) (cs : List AV) (st' : St) (hl : l.length = 2) (hcs : Rw 5 IsZ cs l) (hf : ∀ v ∈ l, Fit v) : Pur C n_yan [.ptr rb 0, .sl cs l.length 5 .any] (OutR (builtF (4, 1752397168) l st')) := by
 obtain ⟨x, y, rfl⟩ := len2 hl
 obtain ⟨d0, d1, hz0, hz1, rfl⟩ := rw2 hcs
 exact bpush_ok S rb x y hz0 hz1 (hf x (by simp)) (hf y (by simp)) st'
theorem b_take (rb : Key) (l : List V) (cs : List AV) (st' : St) (hl : l.length = 2) (hcs : Rw 5 IsZ cs l) (hf : ∀ v ∈ l, Fit v) : Pur C n_yao [.ptr rb 0, .sl cs l.length 5 .any] (OutR (builtF (4, 1701536116) l st')) := by
 obtain ⟨x, y, rfl⟩ := len2 hl
 obtain ⟨d0, d1, hz0, hz1, rfl⟩ := rw2 hcs
 exact btake_ok S rb x y hz0 hz1 (hf x (by simp)) st'
theorem b_drop (rb : Key) (l : List V) (cs : List AV) (st' : St) (hl : l.length = 2) (hcs : Rw 5 IsZ cs l) (hf : ∀ v ∈ l, Fit v) : Pur C n_yap [.ptr rb 0, .sl cs l.length 5 .any] (OutR (builtF (4, 1886351972) l st')) := by
 obtain ⟨x, y, rfl⟩ := len2 hl
 obtain ⟨d0, d1, hz0, hz1, rfl⟩ := rw2 hcs
 exact bdrop_ok S rb x y hz0 hz1 (hf x (by simp)) st'
theorem b_set (rb : Key) (l : List V) (cs : List AV) (st' : St) (hl : l.length = 3) (hcs : Rw 5 IsZ cs l) (hf : ∀ v ∈ l, Fit v) : Pur C n_ybn [.ptr rb 0, .sl cs l.length 5 .any] (OutR (builtF (3, 7628147) l st')) := by
 obtain ⟨x, y, z, rfl⟩ := len3 hl
 obtain ⟨d0, d1, d2, hz0, hz1, hz2, rfl⟩ := rw3 hcs
 exact bset_ok S rb x y z hz0 hz1 hz2 (hf x (by simp)) (hf z (by simp)) st'
theorem b_max (rb : Key) (l : List V) (cs : List AV) (st' : St) (hl : l.length = 2) (hcs : Rw 5 IsZ cs l) (hf : ∀ v ∈ l, Fit v) : Pur C n_yaq [.ptr rb 0, .sl cs l.length 5 .any] (OutR (builtF (3, 7889261) l st')) := by
 obtain ⟨x, y, rfl⟩ := len2 hl
 obtain ⟨d0, d1, hz0, hz1, rfl⟩ := rw2 hcs
 exact bmax_ok S rb x y hz0 hz1 st'
theorem b_min (rb : Key) (l : List V) (cs : List AV) (st' : St) (hl : l.length = 2) (hcs : Rw 5 IsZ cs l) (hf : ∀ v ∈ l, Fit v) : Pur C n_yar [.ptr rb 0, .sl cs l.length 5 .any] (OutR (builtF (3, 7235949) l st')) := by
 obtain ⟨x, y, rfl⟩ := len2 hl
 obtain ⟨d0, d1, hz0, hz1, rfl⟩ := rw2 hcs
 exact bmin_ok S rb x y hz0 hz1 st'
end
section
variable {C : Cfg} (S : Std C) {rb : Key} {D : RunB} {L : Lim} {rec_ : Rec} {c0 : Int} (HE : EvOK C rb D L rec_ c0) {M : Md} (HM : Maps D M)
include S HE HM
theorem apply_ok' {fn : Go.Sx.S} {s : Sc} {e : E} {st : St} {sp ep : AV} {h : T Blk} {nx : Key} (hc : c0 ≤ st.cf) (hr : Run rb D L st h nx) (hs : IsSc rb h nx sp s) (hp : IsP rb h nx ep e) (h3 : e.k = 3) :
  CallA C n_ybe [.ptr rb 0, SA fn, sp, ep] h nx (Ends rb D L h nx (applyF rec_ M fn s e st)) := by
 obtain ⟨l, hl, hp⟩ := hp
 obtain ⟨cn, cb, ck, rfl, hn, hb, hk, hq⟩ := hl.cells
 obtain ⟨k, ⟨na, nb⟩, n, names, binds, kids, at_⟩ := e
 simp only [E_k, E_name, E_n, E_names, E_binds, E_kids, E_at] at *
 have hq := hq.1
 rcases hp with ⟨t, rfl⟩ | ⟨pb, rfl, hg, hlt, hne, h39⟩
 ·by_cases q1 : na = 4 ∧ nb = 1702521203
  ·obtain ⟨rfl, rfl⟩ := q1
   exact apply_b_c S HE M hc hr hs hk (ar := 1) HM.b (by simp [bmA]) (by decide) (b_size S rb)
  by_cases q2 : na = 2 ∧ nb = 29793
  ·obtain ⟨rfl, rfl⟩ := q2
   exact apply_b_c S HE M hc hr hs hk (ar := 2) HM.b (by simp [bmA]) (by decide) (b_at S rb)
  by_cases q3 : na = 4 ∧ nb = 1752397168
  ·obtain ⟨rfl, rfl⟩ := q3
   exact apply_b_c S HE M hc hr hs hk (ar := 2) HM.b (by simp [bmA]) (by decide) (b_push S rb)
  by_cases q4 : na = 4 ∧ nb = 1701536116
  ·obtain ⟨rfl, rfl⟩ := q4
   exact apply_b_c S HE M hc hr hs hk (ar := 2) HM.b (by simp [bmA]) (by decide) (b_take S rb)
  by_cases q5 : na = 4 ∧ nb = 1886351972
  ·obtain ⟨rfl, rfl⟩ := q5
   exact apply_b_c S HE M hc hr hs hk (ar := 2) HM.b (by simp [bmA]) (by decide) (b_drop S rb)
  by_cases q6 : na = 3 ∧ nb = 7628147
  ·obtain ⟨rfl, rfl⟩ := q6
   exact apply_b_c S HE M hc hr hs hk (ar := 3) HM.b (by simp [bmA]) (by decide) (b_set S rb)
  by_cases q7 : na = 3 ∧ nb = 7889261
  ·obtain ⟨rfl, rfl⟩ := q7
   exact apply_b_c S HE M hc hr hs hk (ar := 2) HM.b (by simp [bmA]) (by decide) (b_max S rb)
  by_cases q8 : na = 3 ∧ nb = 7235949
  ·obtain ⟨rfl, rfl⟩ := q8
   exact apply_b_c S HE M hc hr hs hk (ar := 2) HM.b (by simp [bmA]) (by decide) (b_min S rb)
  have q9 : ¬ (na = 4 ∧ nb = 1885957222) := fun hh => hq ⟨h3, by rw [hh.1, hh.2]⟩
  have har : arityF (na, nb) = none := by simp [arityF, q1, q2, q3, q4, q5, q6, q7, q8, q9]
  have hf := HM.f (na, nb)
  cases hfa : findA (na, nb) M.funs with
  | none =>
   rw [hfa] at hf
   exact apply_none_c S HE M hc hr hs hk HM.b hf hfa har
  | some F =>
   rw [hfa] at hf
   obtain ⟨p, hf, hF⟩ := hf
   exact apply_fun_c S HE M hc hr hs hk HM.b hf hF hfa har
 ·by_cases q1 : na = 4 ∧ nb = 1702521203
  ·obtain ⟨rfl, rfl⟩ := q1
   exact apply_b_p S HE M hc hr hs hk hlt hne hg (ar := 1) HM.b (by simp [bmA]) (by decide) (b_size S rb)
  by_cases q2 : na = 2 ∧ nb = 29793
  ·obtain ⟨rfl, rfl⟩ := q2
   exact apply_b_p S HE M hc hr hs hk hlt hne hg (ar := 2) HM.b (by simp [bmA]) (by decide) (b_at S rb)
  by_cases q3 : na = 4 ∧ nb = 1752397168
  ·obtain ⟨rfl, rfl⟩ := q3
   exact apply_b_p S HE M hc hr hs hk hlt hne hg (ar := 2) HM.b (by simp [bmA]) (by decide) (b_push S rb)
  by_cases q4 : na = 4 ∧ nb = 1701536116
  ·obtain ⟨rfl, rfl⟩ := q4
   exact apply_b_p S HE M hc hr hs hk hlt hne hg (ar := 2) HM.b (by simp [bmA]) (by decide) (b_take S rb)
  by_cases q5 : na = 4 ∧ nb = 1886351972
  ·obtain ⟨rfl, rfl⟩ := q5
   exact apply_b_p S HE M hc hr hs hk hlt hne hg (ar := 2) HM.b (by simp [bmA]) (by decide) (b_drop S rb)
  by_cases q6 : na = 3 ∧ nb = 7628147
  ·obtain ⟨rfl, rfl⟩ := q6
   exact apply_b_p S HE M hc hr hs hk hlt hne hg (ar := 3) HM.b (by simp [bmA]) (by decide) (b_set S rb)
  by_cases q7 : na = 3 ∧ nb = 7889261
  ·obtain ⟨rfl, rfl⟩ := q7
   exact apply_b_p S HE M hc hr hs hk hlt hne hg (ar := 2) HM.b (by simp [bmA]) (by decide) (b_max S rb)
  by_cases q8 : na = 3 ∧ nb = 7235949
  ·obtain ⟨rfl, rfl⟩ := q8
   exact apply_b_p S HE M hc hr hs hk hlt hne hg (ar := 2) HM.b (by simp [bmA]) (by decide) (b_min S rb)
  have q9 : ¬ (na = 4 ∧ nb = 1885957222) := fun hh => hq ⟨h3, by rw [hh.1, hh.2]⟩
  have har : arityF (na, nb) = none := by simp [arityF, q1, q2, q3, q4, q5, q6, q7, q8, q9]
  have hf := HM.f (na, nb)
  cases hfa : findA (na, nb) M.funs with
  | none =>
   rw [hfa] at hf
   exact apply_none_p S HE M hc hr hs hk hlt hne hg HM.b hf hfa har
  | some F =>
   rw [hfa] at hf
   obtain ⟨p, hf, hF⟩ := hf
   exact apply_fun_p S HE M hc hr hs hk hlt hne hg HM.b hf hF hfa har
theorem value_ok (HL : Lims L) {fn : Go.Sx.S} {s : Sc} {e : E} {st : St} {sp ep : AV} {h : T Blk} {nx : Key} (hc : c0 ≤ st.cf) (hr : Run rb D L st h nx) (hs : IsSc rb h nx sp s) (hp : IsP rb h nx ep e) (hbr : (st.brs.length : Int) + 1 ≤ st.cf) :
  CallA C n_ybm [.ptr rb 0, SA fn, sp, ep] h nx (Ends rb D L h nx (valueF rec_ M fn s e st)) := by
 obtain ⟨l, hl, hp⟩ := hp
 obtain ⟨cn, cb, ck, rfl, hn, hb, hk, hq⟩ := hl.cells
 obtain ⟨k, ⟨na, nb⟩, n, names, binds, kids, at_⟩ := e
 simp only [E_k, E_name, E_n, E_names, E_binds, E_kids, E_at] at *
 have h8 := hq.2
 rcases hp with ⟨t, rfl⟩ | ⟨pb, rfl, hg, hlt, hne, h39⟩
 ·by_cases k0 : k = 0
  ·exact value0_c S HE M hc hr hs hk k0
  by_cases k1 : k = 1
  ·exact value1_c S HE M hc hr hs hk k1
  by_cases k2 : k = 2
  ·exact value2_c S HE M hc hr hs hk k2
  by_cases k4 : k = 4
  ·exact value4_c S HE M hc hr hs hk HM.c k4
  by_cases k5 : k = 5
  ·exact value5_c S HE M hc hr hs hk k5
  by_cases k6 : k = 6
  ·exact value6_c S HE M hc hr hs hk HL hbr k6
  by_cases k7 : k = 7
  ·exact value7_c S HE M hc hr hs hk k7
  by_cases k3 : k = 3
  ·subst k3
   exact value3_c S HE M hc hr hs hk (fun h nx r z p => apply_ok' S HE HM hc r z p rfl) hl rfl
  by_cases k9 : k = 9
  ·subst k9
   exact value9_c S HE M hc hr hs hk (fun h nx r z p => op_ok S HE M fn s _ st sp _ h nx hc r z p) hl rfl
  exact valueX_c S HE M hc hr hs hk ⟨k0, k1, k2, k3, k4, k5, k6, k7, h8, k9⟩
 ·rcases h39 with k3 | k9
  ·subst k3
   exact value3_p S HE M hc hr hs hk hlt hne hg (fun h nx r z p => apply_ok' S HE HM hc r z p rfl) hl rfl
  ·subst k9
   exact value9_p S HE M hc hr hs hk hlt hne hg (fun h nx r z p => op_ok S HE M fn s _ st sp _ h nx hc r z p) hl rfl
end
end Tz
