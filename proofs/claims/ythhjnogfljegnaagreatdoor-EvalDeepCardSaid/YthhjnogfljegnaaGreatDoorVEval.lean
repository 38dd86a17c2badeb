/-
 SV: the evaluator's function eval. No condition.
-/
import Derived.Test.YthhjnogfljegnaaGreatDoorVApp
set_option linter.unusedSimpArgs false
set_option linter.unusedVariables false
set_option linter.unusedSectionVars false
namespace Tz
open Go.Sx Go
section
variable {C : Cfg} (S : Std C) {rb : Key} {D : RunB} {L : Lim} {rec_ : Rec} {c0 : Int} (HE : EvOK C rb D L rec_ (c0 + 1)) {M : Md} (HM : Maps D M) (HL : Lims L)
include S HE HM HL
theorem eval_call {fn : Go.Sx.S} {s : Sc} {e : E} {st : St} {sp ep : AV} {h : T Blk} {nx : Key} (hc : c0 ≤ st.cf) (hr : Run rb D L st h nx) (hs : IsSc rb h nx sp s) (hp : IsP rb h nx ep e) :
  CallA C n_ybg [.ptr rb 0, SA fn, sp, ep] h nx (Ends rb D L h nx (evalF rec_ L M fn s e st)) := by
 have hs' : ∀ n h, frzA n sp h = (sp, h) := hs.stb
 have hp' : ∀ n h, frzA n ep h = (ep, h) := hp.stb
 have low := hr.low
 have hrb : nx ≠ rb := fun e => by rw [← e] at low; omega
 have s1 := Key.toNat_succ nx
 have r0 := hr.ext (E0 h nx Zb)
 have z0 := hs.mono (Fr.ext (rb := rb) (E0 h nx Zb))
 have p0 := hp.mono (Fr.ext (rb := rb) (E0 h nx Zb))
 obtain ⟨br, hb0, ha0⟩ := r0.blk
 have hf1 := HL.f1
 have hf0 := HL.f0
 have hr1 := HL.r1
 have hr0 := HL.r0
 have c00 := r0.c0
 have c01 := r0.c1
 refine S.c_ybg.call ?_
 simp [ybg]
 simp [ybg_r0]
 by_cases hfu : L.fuel ≤ st.cf
 ·have hfu' : ¬ st.cf < L.fuel := by omega
  simp [ybg_r1, hb0, hfu, hfu']
  simp [ybg_r2, S.raw]
  refine (end_ok S _ _ _).mono ?_
  rintro o h1 nx1 ⟨rfl, e1⟩
  simp [stopO, evalF, hfu]
  exact stop_ok (Fr.down (Fr.ext e1)) (r0.ext e1)
 ·have hfu' : st.cf < L.fuel := by omega
  simp [ybg_r1, hb0, hfu, hfu']
  have hw : wrapF .i64 (st.cf + 1) = st.cf + 1 := wrap_id (by omega) (by omega)
  simp [ybg_r3, hb0, hw]
  have nb0 := r0.nb
  have R1 : Run rb D L { st with cf := st.cf + 1 } (T.set rb (some (.cells (runC D L { st with cf := st.cf + 1 } br) .fix)) (T.set nx (some Zb) h)) nx.succ :=
   r0.nums hb0 ha0 rfl (by simp; omega) (by simp; omega) (by simp; omega) r0.k0 r0.k1 r0.b0
  have F1 : Fr rb (T.set nx (some Zb) h) nx.succ (T.set rb (some (.cells (runC D L { st with cf := st.cf + 1 } br) .fix)) (T.set nx (some Zb) h)) nx.succ := Fr.run hb0
  simp [ybg_r4, S.raw, hs', hp']
  refine (value_ok S HE HM HL (fn := fn) (st := { st with cf := st.cf + 1 }) (by simp; omega) R1 (z0.mono F1) (p0.mono F1) (by simp; omega)).mono ?_
  rintro o h2 nx2 ⟨f2, hR⟩
  have t2 := f2.n
  have F2 := F1.trans f2
  have s2 := Key.toNat_succ nx2
  cases hres : valueF rec_ M fn s e { st with cf := st.cf + 1 } with
  | stop c st' =>
   rw [hres] at hR
   obtain ⟨rfl, hR⟩ := hR
   simp [stopO, evalF, hfu, hres]
   exact stop_ok F2.down hR
  | ok v st' =>
   rw [hres] at hR
   obtain ⟨⟨c, hK, rfl⟩, hR⟩ := hR
   have hcc := IsK.cell hK
   have hcf : ∀ n h, frzA n c h = (c, h) := IsK.stb hK
   simp [hcc]
   have hrb2 : nx2 ≠ rb := fun e => by rw [← e] at low; omega
   have E2 := E0 h2 nx2 (.cells [I v.k, I v.n, .str v.a v.b, c, I v.size] .fix)
   have F3 := F2.trans (Fr.ext E2)
   have R3 := hR.ext E2
   obtain ⟨br3, hb3, ha3⟩ := R3.blk
   have hmx : ∀ (A B : AV), A = I st'.cb → B = I v.size → (if st'.cb < (v.size : Int) then B else A) = I (max st'.cb v.size) := by
    intro A B hA hB
    subst hA hB
    by_cases hlt : st'.cb < (v.size : Int)
    ·rw [if_pos hlt, Int.max_eq_right (by omega)]
    ·rw [if_neg hlt, Int.max_eq_left (by omega)]
   have b0 := R3.b0
   have R4 : Run rb D L { st' with cb := max st'.cb v.size } (T.set rb (some (.cells (runC D L { st' with cb := max st'.cb v.size } br3) .fix)) (T.set nx2 (some (.cells [I v.k, I v.n, .str v.a v.b, c, I v.size] .fix)) h2)) nx2.succ :=
    R3.nums hb3 ha3 rfl R3.c0 R3.c1 R3.nb R3.k0 R3.k1 (by simp; omega)
   have F4 := F3.trans (Fr.run (st' := { st' with cb := max st'.cb v.size }) hb3)
   have g2 : ∀ u t, T.get nx2 (T.set rb u t) = T.get (α := Blk) nx2 t := fun u t => T.get_set_ne _ _ _ _ hrb2
   have gr : ∀ u t, T.get rb (T.set nx2 u t) = T.get (α := Blk) rb t := fun u t => T.get_set_ne _ _ _ _ (fun e => hrb2 e.symm)
   have r4low : rb.toNat < nx2.toNat := by omega
   -- what is left once the greatest size has been laid down
   have rest : ∀ tm, T.get (K 0) tm = some (.ptr rb 0) → T.get (K 8) tm = some (.ptr nx 0) → T.get (K 9) tm = some (.ptr nx2 0) →
     wpC C (.seq (.seq (.staged ybg_r6 ⟨[K 47, K 48, K 49, K 50, K 51, K 52, K 53, K 54, K 55, K 56, K 57, K 58, K 59, K 60, K 61, K 62, K 63, K 64, K 65, K 66], []⟩) (.cond (.t (K 66)) (.ops ybg_r7) .skip)) (.seq (.ops ybg_r8) .ret))
      (BodyP [.cell (K 8) true 5] (Ends rb D L h nx (evalF rec_ L M fn s e st))) tm (T.set rb (some (.cells (runC D L { st' with cb := max st'.cb v.size } br3) .fix)) (T.set nx2 (some (.cells [I v.k, I v.n, .str v.a v.b, c, I v.size] .fix)) h2)) nx2.succ := by
    intro tm f0 f8 f9
    have stops : (L.room < v.size ∨ (v.k = 2 ∧ 256 < v.kids.length)) → ∀ tm', wpO C (seqPost (wpC C (.seq (.ops ybg_r8) .ret) (BodyP [.cell (K 8) true 5] (Ends rb D L h nx (evalF rec_ L M fn s e st)))) (BodyP [.cell (K 8) true 5] (Ends rb D L h nx (evalF rec_ L M fn s e st)))) ybg_r7 tm'
      (T.set rb (some (.cells (runC D L { st' with cb := max st'.cb v.size } br3) .fix)) (T.set nx2 (some (.cells [I v.k, I v.n, .str v.a v.b, c, I v.size] .fix)) h2)) nx2.succ := by
     intro hh tm'
     simp [ybg_r7, S.raw]
     refine (end_ok S _ _ _).mono ?_
     rintro o h5 nx5 ⟨rfl, e5⟩
     have hev : evalF rec_ L M fn s e st = .stop 16 { st' with cb := max st'.cb v.size } := by
      simp [evalF, hfu, hres, hh]
     rw [hev]
     simp [stopO]
     exact stop_ok (F4.trans (Fr.ext e5)).down (R4.ext e5)
    have good : ¬ (L.room < v.size ∨ (v.k = 2 ∧ 256 < v.kids.length)) → ∀ tm', T.get (K 8) tm' = some (.ptr nx 0) → T.get (K 9) tm' = some (.ptr nx2 0) → wpO C (seqPost (wpC C .ret (BodyP [.cell (K 8) true 5] (Ends rb D L h nx (evalF rec_ L M fn s e st)))) (BodyP [.cell (K 8) true 5] (Ends rb D L h nx (evalF rec_ L M fn s e st)))) ybg_r8 tm'
      (T.set rb (some (.cells (runC D L { st' with cb := max st'.cb v.size } br3) .fix)) (T.set nx2 (some (.cells [I v.k, I v.n, .str v.a v.b, c, I v.size] .fix)) h2)) nx2.succ := by
     intro hh tm' g8 g9
     have q4 := F4.res low
     simp [ybg_r8, g8, g9, g2, q4, hcc, hcf]
     have hev : evalF rec_ L M fn s e st = .ok v { st' with cb := max st'.cb v.size } := by
      simp [evalF, hfu, hres, hh]
     rw [hev]
     exact fin_ok F4 low R4 hK
    by_cases hroom : L.room < v.size
    ·simp [ybg_r6, f0, f9, g2, hroom]
     exact stops (.inl hroom) _
    ·by_cases hk2 : v.k = 2
     ·have hk2' : (v.k == 2) = true := by simpa using hk2
      rcases id hK with ⟨rfl, hx⟩ | ⟨cs, rfl, hvl, hcs⟩
      ·simp [ybg_r6, f0, f9, g2, hroom, hk2']
       refine good ?_ _ (by simp [f8]) (by simp [f9])
       simp [hroom, hx]
      ·by_cases hl : 256 < v.kids.length
       ·have hl' : (256 : Int) < v.kids.length := by omega
        simp [ybg_r6, f0, f9, g2, hroom, hk2', hl, hl']
        exact stops (.inr ⟨hk2, hl⟩) _
       ·have hl' : ¬ (256 : Int) < v.kids.length := by omega
        simp [ybg_r6, f0, f9, g2, hroom, hk2', hl, hl']
        refine good ?_ _ (by simp [f8]) (by simp [f9])
        simp [hroom, hl]
     ·have hk2' : (v.k == 2) = false := by simpa using hk2
      simp [ybg_r6, f0, f9, g2, hroom, hk2']
      refine good ?_ _ (by simp [f8]) (by simp [f9])
      simp [hroom, hk2]
   by_cases hlt : st'.cb < (v.size : Int)
   ·have hm : max st'.cb (v.size : Int) = v.size := Int.max_eq_right (by omega)
    simp [ybg_r5, hb3, gr, hlt]
    have := rest
    simp [hm] at this
    refine this _ ?_ ?_ ?_ <;> simp
   ·have hm : max st'.cb (v.size : Int) = st'.cb := Int.max_eq_left (by omega)
    simp [ybg_r5, hb3, gr, hlt]
    have := rest
    simp [hm] at this
    refine this _ ?_ ?_ ?_ <;> simp
end
end Tz
/-
 SV: what the interpreter keeps; the evaluator does as the interpreter says. No condition.
-/
namespace Tz
open Go.Sx Go
def GoodR (L : Lim) (rec_ : Rec) : Prop := ∀ fn s e st v st', rec_ fn s e st = .ok v st' → Good L st v st'
structure Mono (st st' : St) : Prop where
 c : st.cf ≤ st'.cf
 k : st'.calls = st.calls
 b : st.cf - st.brs.length ≤ st'.cf - st'.brs.length
structure Mono1 (st st' : St) : Prop where
 c : st.cf ≤ st'.cf
 k : st'.calls = st.calls
 b : st.cf - st.brs.length - 1 ≤ st'.cf - st'.brs.length
theorem Mono.refl (st : St) : Mono st st := ⟨Int.le_refl _, rfl, Int.le_refl _⟩
theorem Mono.trans {a b c : St} (h : Mono a b) (k : Mono b c) : Mono a c := ⟨Int.le_trans h.c k.c, k.k.trans h.k, Int.le_trans h.b k.b⟩
theorem Mono.one {a b : St} (h : Mono a b) : Mono1 a b := ⟨h.c, h.k, by have := h.b; omega⟩
theorem Mono.add {a b c : St} (h : Mono a b) (x : Br) (k : Mono { b with brs := b.brs ++ [x] } c) : Mono1 a c := by
 have h1 := h.c; have h2 := h.b; have k1 := k.c; have k2 := k.b
 simp at k1 k2
 exact ⟨by omega, k.k.trans h.k, by omega⟩
section
variable {L : Lim} {rec_ : Rec} (G : GoodR L rec_)
include G
theorem rec_mono {fn : S} {s : Sc} {e : E} {st : St} {v : V} {st' : St} (h : rec_ fn s e st = .ok v st') : Mono st st' := ⟨(G _ _ _ _ _ _ h).c, (G _ _ _ _ _ _ h).k, (G _ _ _ _ _ _ h).b⟩
theorem allF_mono {fn : S} {s : Sc} : ∀ {es : List E} {st : St} {l : List V} {st' : St}, allF rec_ fn s es st = .ok l st' → Mono st st'
 | [], st, l, st', h => by rw [allF] at h; cases h; exact Mono.refl _
 | e :: es, st, l, st', h => by
  rw [allF] at h
  cases h1 : rec_ fn s e st with
  | stop c st1 => rw [h1] at h; cases h
  | ok v st1 =>
   rw [h1] at h
   simp only at h
   cases h2 : allF rec_ fn s es st1 with
   | stop c st2 => rw [h2] at h; cases h
   | ok r st2 =>
    rw [h2] at h
    cases h
    exact (rec_mono G h1).trans (allF_mono h2)
theorem truthF_mono {fn : S} {s : Sc} {e : E} {st : St} {k : Bool → St → Res} {v : V} {st' : St} (h : truthF rec_ fn s e st k = .ok v st') : ∃ t st1, Mono st st1 ∧ k t st1 = .ok v st' := by
 unfold truthF at h
 cases h1 : rec_ fn s e st with
 | stop c st1 => rw [h1] at h; cases h
 | ok x st1 =>
  rw [h1] at h
  simp only at h
  split at h
  ·exact ⟨_, _, rec_mono G h1, h⟩
  ·cases h
theorem boolR_st {b : Bool} {st : St} {v : V} {st' : St} (h : boolR b st = .ok v st') : st' = st := by unfold boolR at h; cases h; rfl
theorem numR_st {b : Int} {st : St} {v : V} {st' : St} (h : numR b st = .ok v st') : st' = st := by unfold numR at h; cases h; rfl
theorem opF_mono {fn : S} {s : Sc} {e : E} {st : St} {v : V} {st' : St} (h : opF rec_ fn s e st = .ok v st') : Mono st st' := by
 unfold opF at h
 split at h
 ·split at h
  ·obtain ⟨t, st1, m, h⟩ := truthF_mono G h
   rw [boolR_st G h]; exact m
  ·cases h
 split at h
 ·split at h
  ·obtain ⟨t, st1, m, h⟩ := truthF_mono G h
   split at h
   ·obtain ⟨t2, st2, m2, h⟩ := truthF_mono G h
    rw [boolR_st G h]; exact m.trans m2
   ·rw [boolR_st G h]; exact m
  ·cases h
 split at h
 ·split at h
  ·obtain ⟨t, st1, m, h⟩ := truthF_mono G h
   split at h
   ·rw [boolR_st G h]; exact m
   ·obtain ⟨t2, st2, m2, h⟩ := truthF_mono G h
    rw [boolR_st G h]; exact m.trans m2
  ·cases h
 split at h
 ·split at h
  ·rename_i a b _
   cases h1 : rec_ fn s a st with
   | stop c st1 => rw [h1] at h; cases h
   | ok x st1 =>
    rw [h1] at h
    simp only at h
    cases h2 : rec_ fn s b st1 with
    | stop c st2 => rw [h2] at h; cases h
    | ok y st2 =>
     rw [h2] at h
     simp only at h
     have m := (rec_mono G h1).trans (rec_mono G h2)
     repeat' split at h
     all_goals first | (rw [boolR_st G h]; exact m) | (rw [numR_st G h]; exact m) | cases h
  ·cases h
 ·cases h
theorem callF_mono {f : Fun} {l : List V} {st : St} {v : V} {st' : St} (h : callF rec_ f l st = .ok v st') : Mono st st' := by
 unfold callF at h
 split at h
 ·cases h
 ·cases h1 : rec_ f.name (bindS f.params l []) f.body { st with calls := st.calls + 1 } with
  | stop c st1 => rw [h1] at h; cases h
  | ok x st1 =>
   rw [h1] at h
   cases h
   have m := rec_mono G h1
   have mk := m.k
   simp at mk
   exact ⟨m.c, by simp [mk], m.b⟩
theorem applyF_mono {M : Md} {fn : S} {s : Sc} {e : E} {st : St} {v : V} {st' : St} (h : applyF rec_ M fn s e st = .ok v st') : Mono st st' := by
 unfold applyF at h
 split at h
 ·split at h
  ·cases h1 : allF rec_ fn s e.kids st with
   | stop c st1 => rw [h1] at h; cases h
   | ok l st1 =>
    rw [h1] at h
    simp only at h
    rw [builtF_st h]
    exact allF_mono G h1
  ·cases h
 ·split at h
  ·cases h
  ·split at h
   ·cases h1 : allF rec_ fn s e.kids st with
    | stop c st1 => rw [h1] at h; cases h
    | ok l st1 =>
     rw [h1] at h
     simp only at h
     exact (allF_mono G h1).trans (callF_mono G h)
   ·cases h
theorem joinR_mono {k : Int} {nm : S} {fn : S} {s : Sc} {es : List E} {st : St} {v : V} {st' : St} (h : joinR k nm (allF rec_ fn s es st) = .ok v st') : Mono st st' := by
 cases h1 : allF rec_ fn s es st with
 | stop c st1 => rw [h1] at h; cases h
 | ok l st1 =>
  rw [h1] at h
  cases h
  exact allF_mono G h1
theorem matchF_mono {fn : S} {s : Sc} {e : E} {st : St} {v : V} {st' : St} (h : matchF rec_ fn s e st = .ok v st') : Mono1 st st' := by
 unfold matchF at h
 split at h
 ·cases h
 ·rename_i k0 ks _
  split at h
  ·cases h1 : rec_ fn s k0 st with
   | stop c st1 => rw [h1] at h; cases h
   | ok x st1 =>
    rw [h1] at h
    simp only at h
    split at h
    ·cases h
    ·split at h
     ·cases h
     ·split at h
      ·split at h
       ·exact (rec_mono G h1).add _ (rec_mono G h)
       ·cases h
      ·cases h
  ·cases h
theorem valueF_mono {M : Md} {fn : S} {s : Sc} {e : E} {st : St} {v : V} {st' : St} (h : valueF rec_ M fn s e st = .ok v st') : Mono1 st st' := by
 unfold valueF at h
 split at h
 ·rw [numR_st G h]; exact (Mono.refl _).one
 split at h
 ·split at h
  ·rw [boolR_st G h]; exact (Mono.refl _).one
  ·cases h
 split at h
 ·split at h
  ·cases h; exact (Mono.refl _).one
  ·cases h
 split at h
 ·exact (applyF_mono G h).one
 split at h
 ·split at h
  ·cases h
  ·split at h
   ·exact (joinR_mono G h).one
   ·cases h
 split at h
 ·exact (joinR_mono G h).one
 split at h
 ·split at h
  ·obtain ⟨t, st1, m, h⟩ := truthF_mono G h
   exact m.add _ (rec_mono G h)
  ·cases h
 split at h
 ·split at h
  ·rename_i a b _
   cases h1 : rec_ fn s a st with
   | stop c st1 => rw [h1] at h; cases h
   | ok x st1 =>
    rw [h1] at h
    simp only at h
    exact ((rec_mono G h1).trans (rec_mono G h)).one
  ·cases h
 split at h
 ·exact matchF_mono G h
 split at h
 ·exact (opF_mono G h).one
 ·cases h
theorem evalF_good {M : Md} (HL : Lims L) : GoodR L (evalF rec_ L M) := by
 intro fn s e st v st' h
 unfold evalF at h
 split at h
 ·cases h
 ·cases h1 : valueF rec_ M fn s e { st with cf := st.cf + 1 } with
  | stop c st1 => rw [h1] at h; cases h
  | ok x st1 =>
   rw [h1] at h
   simp only at h
   split at h
   ·cases h
   ·rename_i hn
    cases h
    have m := valueF_mono G h1
    have mc := m.c; have mk := m.k; have mb := m.b
    simp at mc mk mb
    have hr := HL.r1
    refine ⟨by simp; omega, ⟨by omega, fun hk => ?_⟩, by omega, mk, by simp; omega⟩
    have : ¬ 256 < v.kids.length := fun hh => hn (.inr ⟨hk, hh⟩)
    omega
end
theorem ev_good {L : Lim} (HL : Lims L) (M : Md) : ∀ n, GoodR L (ev L M n)
 | 0 => fun fn s e st v st' h => by cases h
 | n + 1 => evalF_good (ev_good HL M n) HL
theorem ev_ok {C : Cfg} (S : Std C) {rb : Key} {D : RunB} {L : Lim} {M : Md} (HM : Maps D M) (HL : Lims L) : ∀ (n : Nat) (c0 : Int), L.fuel - c0 < n → EvOK C rb D L (ev L M n) c0
 | 0, c0, hn => by
  intro fn s e st sp ep h nx hc hr hs hp
  have := hr.c1
  simp at hn
  omega
 | n + 1, c0, hn => by
  intro fn s e st sp ep h nx hc hr hs hp
  have IH := ev_ok S (rb := rb) HM HL n (c0 + 1) (by omega)
  exact ⟨eval_call S IH HM HL hc hr hs hp, fun v st' hh => ev_good HL M (n + 1) fn s e st v st' hh⟩
end Tz
