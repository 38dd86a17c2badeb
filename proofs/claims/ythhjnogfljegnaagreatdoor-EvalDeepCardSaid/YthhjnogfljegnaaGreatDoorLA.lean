/-
 SV: that both evaluators agree. No condition.
-/
import Derived.Test.YthhjnogfljegnaaGreatDoorRC
import Derived.Test.YthhjnogfljegnaaGreatDoorVRun
set_option linter.unusedSimpArgs false
set_option linter.unusedVariables false
set_option linter.unusedSectionVars false
namespace Tz
open Go.Sx Go
def arF (n m : Int) : Int := Int.tmod (if n < 0 then wrapF .i64 (0 - wrapF .i64 (n + 1)) else n) m
theorem arF_low {n m : Int} (h1 : -9223372036854775808 ≤ n) (h2 : n < 9223372036854775808) (hm : 0 < m) : 0 ≤ arF n m ∧ arF n m < m := by
 unfold arF
 have hnn : 0 ≤ (if n < 0 then wrapF .i64 (0 - wrapF .i64 (n + 1)) else n) := by
  split
  ·rw [wrap_id (n := n + 1) (by omega) (by omega), wrap_id (by omega) (by omega)]; omega
  ·omega
 exact ⟨Int.tmod_nonneg _ hnn, Int.tmod_lt_of_pos _ hm⟩
def resV : Res → V
 | .ok v _ => v
 | .stop _ _ => .mk 0 0 0 0 []
def resX : Res → Int
 | .ok _ _ => 0
 | .stop c _ => c
def resS : Res → St
 | .ok _ st => st
 | .stop _ st => st
theorem ResOut.shape {r : Res} {o : Out} (h : ResOut r o) : ∃ c cb, IsK c (resV r).kids ∧ IsBrs cb (resS r).brs ∧ o = .ret (.tuple [.agg [I (resV r).k, I (resV r).n, .str (resV r).a (resV r).b, c], .agg [I (resS r).cf, I (resS r).cb, I (resS r).fl], cb, I (resX r)]) := by
 cases r with
 | ok v st =>
  obtain ⟨l, cb, hv, hb, rfl⟩ := h
  obtain ⟨c, rfl, hK⟩ := hv.cells
  exact ⟨c, cb, hK, hb, rfl⟩
 | stop x st =>
  obtain ⟨cb, hb, rfl⟩ := h
  exact ⟨.nils, cb, .inl ⟨rfl, rfl⟩, hb, rfl⟩
variable {C : Cfg} (S : Std C)
include S
theorem around_ok (n m : Int) (hm : m ≠ 0) : Pur C n_ybs [I n, I m] (· = .ret (I (arF n m))) := by
 intro h nx
 refine S.c_ybs.call ?_
 have hm' : (m == 0) = false := by simpa using hm
 simp [ybs]
 simp [ybs_r0]
 by_cases hn : n < 0
 ·simp [ybs_r1, ybs_r2, ybs_r3, hn, hm', arF]; exact Ext.refl _ _
 ·simp [ybs_r1, ybs_r3, hn, hm', arF]; exact Ext.refl _ _
theorem cost_ok (a b c : Int) : Pur C n_ybr [.agg [I a, I b, I c]] (· = .ret (.agg [I a, I b, I c])) := by
 intro h nx
 have s1 := Key.toNat_succ nx
 refine S.c_ybr.call ?_
 simp [ybr]
 simp [ybr_r0]
 simp [ybr_r1]
 exact (E0 _ _ _).trans (E0 _ _ _)
def AgP (h : T Blk) (nx : Key) (o : Out) (h' : T Blk) (nx' : Key) : Prop := o = .ret (.bool true) ∧ Fk h nx h' nx'
theorem agrees_ok {dc ce : AV} {ds : List Dl} (HM : RMod dc ds (modOf ds)) {env : List (Go.Sx.S × V)} (hce : IsEnv ce env) (hre : REnv ce env) {e : E} {le : List AV} (hE : IsE le e) (h39 : e.k = 3 ∨ e.k = 9) (hm : Sm e) (fu ro se att : Int) (h : T Blk) (nx : Key) :
  CallA C n_ybq [.agg [dc], ce, .agg le, .agg [I fu, I ro], .agg [I se, I att]] h nx (AgP h nx) := by
 have hd' : ∀ n h, frzA n dc h = (dc, h) := HM.row.stb
 have hdc := HM.row.cell
 have hs' : ∀ n h, frzA n ce h = (ce, h) := hre.stb
 have hl7 : le.length = 7 := by obtain ⟨cn, cb, ck, rfl, _⟩ := hE.cells; rfl
 have hl7' : 7 ≤ le.length := by omega
 have tk : le.take 7 = le := List.take_of_length_le (by omega)
 have fz : ∀ n H, frzLA (frzA n) le H = (le, H) := hE.frz
 have hcel : le.all AV.isCell = true := List.all_eq_true.2 hE.iscells
 have s1 := Key.toNat_succ nx
 have s2 := Key.toNat_succ nx.succ
 have s3 := Key.toNat_succ nx.succ.succ
 have s4 := Key.toNat_succ nx.succ.succ.succ
 obtain ⟨gas, hgas⟩ : ∃ gas : Nat, (clampL fu ro se att).fuel < gas := ⟨1048577, by have := (clamp_lims fu ro se att).f1; omega⟩
 refine S.c_ybq.call ?_
 simp [ybq]
 simp [-List.all_eq_true, ybq_r0, hdc, hcel]
 simp [ybq_r1, hd', hs', hl7', tk, fz, S.raw]
 refine (expr_ok S HM.row hgas hce hre.z hE h39 _ _).mono ?_
 rintro o h1 nx1 ⟨f1, hO1⟩
 obtain ⟨c1, b1, hK1, hB1, rfl⟩ := hO1.shape
 generalize hr : ev (clampL fu ro se att) (modOf ds) gas (0, 0) env.reverse e st0 = r at *
 have t1 := f1.n
 have u1 := Key.toNat_succ nx1
 have u2 := Key.toNat_succ nx1.succ
 have hcc1 := IsK.cell hK1
 have z1 : ∀ n h, frzA n c1 h = (c1, h) := IsK.stb hK1
 have zb1 : ∀ n h, frzA n b1 h = (b1, h) := (IsBrs.stb S hB1).1
 have q0 := f1.g nx (by omega) (by simp (disch := omega) [get_lt (α := Blk)]; trivial)
 have q1 := f1.g nx.succ (by omega) (by simp (disch := omega) [get_lt (α := Blk)]; trivial)
 have q2 := f1.g nx.succ.succ (by omega) (by simp (disch := omega) [get_lt (α := Blk)]; trivial)
 have q3 := f1.g nx.succ.succ.succ (by omega) (by simp (disch := omega) [get_lt (α := Blk)]; trivial)
 simp at q0 q1 q2 q3
 simp [hcc1]
 have F0 : Fk h nx h1 nx1 := ⟨by omega, fun b hb hk => by
  have e : T.get b (T.set nx.succ.succ.succ (some (.cells [I se, I att] .fix)) (T.set nx.succ.succ (some (.cells [I fu, I ro] .fix)) (T.set nx.succ (some (.cells le .fix)) (T.set nx (some (.cells [dc] .fix)) h)))) = T.get b h := by simp (disch := omega) only [get_lt (α := Blk)]
  rw [f1.g b (by omega) (by rw [e]; exact hk), e]⟩
 have E2 : Ext h1 nx1 (T.set nx1.succ (some (.cells [I (resS r).cf, I (resS r).cb, I (resS r).fl] .fix)) (T.set nx1 (some (.cells [I (resV r).k, I (resV r).n, .str (resV r).a (resV r).b, c1] .fix)) (T.set nx1.succ (some (.cells [I 0, I 0, I 0] .fix)) (T.set nx1 (some (.cells [I 0, I 0, .str 0 0, .nils] .fix)) h1)))) nx1.succ.succ := ⟨by omega, fun b hb => by simp (disch := omega) only [get_lt (α := Blk)]⟩
 have p0 := (E2.g nx (by omega)).trans q0
 have p1 := (E2.g nx.succ (by omega)).trans q1
 have p2 := (E2.g nx.succ.succ (by omega)).trans q2
 have p3 := (E2.g nx.succ.succ.succ (by omega)).trans q3
 have pv : T.get nx1 (T.set nx1.succ (some (.cells [I (resS r).cf, I (resS r).cb, I (resS r).fl] .fix)) (T.set nx1 (some (.cells [I (resV r).k, I (resV r).n, .str (resV r).a (resV r).b, c1] .fix)) (T.set nx1.succ (some (.cells [I 0, I 0, I 0] .fix)) (T.set nx1 (some (.cells [I 0, I 0, .str 0 0, .nils] .fix)) h1)))) = some (.cells [I (resV r).k, I (resV r).n, .str (resV r).a (resV r).b, c1] .fix) := by rw [get_lt (by omega)]; exact T.get_set_same _ _ _
 have pc : T.get nx1.succ (T.set nx1.succ (some (.cells [I (resS r).cf, I (resS r).cb, I (resS r).fl] .fix)) (T.set nx1 (some (.cells [I (resV r).k, I (resV r).n, .str (resV r).a (resV r).b, c1] .fix)) (T.set nx1.succ (some (.cells [I 0, I 0, I 0] .fix)) (T.set nx1 (some (.cells [I 0, I 0, .str 0 0, .nils] .fix)) h1)))) = some (.cells [I (resS r).cf, I (resS r).cb, I (resS r).fl] .fix) := T.get_set_same _ _ _
 have F2 := F0.trans (Fk.ext E2)
 generalize T.set nx1.succ (some (.cells [I (resS r).cf, I (resS r).cb, I (resS r).fl] .fix)) (T.set nx1 (some (.cells [I (resV r).k, I (resV r).n, .str (resV r).a (resV r).b, c1] .fix)) (T.set nx1.succ (some (.cells [I 0, I 0, I 0] .fix)) (T.set nx1 (some (.cells [I 0, I 0, .str 0 0, .nils] .fix)) h1))) = h2 at *
 simp [ybq_r2, p0, p1, p2, p3, hd', hs', hl7', tk, fz, S.raw]
 have hre' : REnv ce env.reverse.reverse := by rw [List.reverse_reverse]; exact hre
 refine (rexpr_ok S HM hre' hE hm fu ro se att hgas _ _).mono ?_
 rintro o h3 nx3 ⟨hO3, e3⟩
 rw [hr] at hO3
 obtain ⟨c3, b3, hK3, hB3, rfl⟩ := hO3.shape
 have t3 := e3.n
 have u3 := Key.toNat_succ nx3
 have u4 := Key.toNat_succ nx3.succ
 have hcc3 := IsK.cell hK3
 have z3 : ∀ n h, frzA n c3 h = (c3, h) := IsK.stb hK3
 have zb3 : ∀ n h, frzA n b3 h = (b3, h) := (IsBrs.stb S hB3).1
 have pv3 := (e3.g nx1 (by omega)).trans pv
 have pc3 := (e3.g nx1.succ (by omega)).trans pc
 simp [hcc3]
 have E4 : Ext h3 nx3 (T.set nx3.succ (some (.cells [I (resS r).cf, I (resS r).cb, I (resS r).fl] .fix)) (T.set nx3 (some (.cells [I (resV r).k, I (resV r).n, .str (resV r).a (resV r).b, c3] .fix)) (T.set nx3.succ (some (.cells [I 0, I 0, I 0] .fix)) (T.set nx3 (some (.cells [I 0, I 0, .str 0 0, .nils] .fix)) h3)))) nx3.succ.succ := ⟨by omega, fun b hb => by simp (disch := omega) only [get_lt (α := Blk)]⟩
 have pv4 := (E4.g nx1 (by omega)).trans pv3
 have pc4 := (E4.g nx1.succ (by omega)).trans pc3
 have rv4 : T.get nx3 (T.set nx3.succ (some (.cells [I (resS r).cf, I (resS r).cb, I (resS r).fl] .fix)) (T.set nx3 (some (.cells [I (resV r).k, I (resV r).n, .str (resV r).a (resV r).b, c3] .fix)) (T.set nx3.succ (some (.cells [I 0, I 0, I 0] .fix)) (T.set nx3 (some (.cells [I 0, I 0, .str 0 0, .nils] .fix)) h3)))) = some (.cells [I (resV r).k, I (resV r).n, .str (resV r).a (resV r).b, c3] .fix) := by rw [get_lt (by omega)]; exact T.get_set_same _ _ _
 have rc4 : T.get nx3.succ (T.set nx3.succ (some (.cells [I (resS r).cf, I (resS r).cb, I (resS r).fl] .fix)) (T.set nx3 (some (.cells [I (resV r).k, I (resV r).n, .str (resV r).a (resV r).b, c3] .fix)) (T.set nx3.succ (some (.cells [I 0, I 0, I 0] .fix)) (T.set nx3 (some (.cells [I 0, I 0, .str 0 0, .nils] .fix)) h3)))) = some (.cells [I (resS r).cf, I (resS r).cb, I (resS r).fl] .fix) := T.get_set_same _ _ _
 have F4 := F2.trans (Fk.ext (e3.trans E4))
 generalize T.set nx3.succ (some (.cells [I (resS r).cf, I (resS r).cb, I (resS r).fl] .fix)) (T.set nx3 (some (.cells [I (resV r).k, I (resV r).n, .str (resV r).a (resV r).b, c3] .fix)) (T.set nx3.succ (some (.cells [I 0, I 0, I 0] .fix)) (T.set nx3 (some (.cells [I 0, I 0, .str 0 0, .nils] .fix)) h3))) = h4 at *
 simp [ybq_r3, pv4, rv4, pc4, rc4, S.raw, z1, z3, AV.beq, AV.beqs, SI.beq]
 refine (requal_ok S (IsV.ofV hK1) (IsV.ofV hK3) _ _).mono ?_
 rintro o h5 nx5 ⟨rfl, e5⟩
 have t5 := e5.n
 have pc5 := (e5.g nx1.succ (by omega)).trans pc4
 have rc5 := (e5.g nx3.succ (by omega)).trans rc4
 simp [pc5, rc5, S.raw, AV.beq, AV.beqs, SI.beq]
 refine (cost_ok S _ _ _ _ _).mono ?_
 rintro o h6 nx6 ⟨rfl, e6⟩
 have t6 := e6.n
 have rc6 := (e6.g nx3.succ (by omega)).trans rc5
 simp [rc6, S.raw, AV.beq, AV.beqs, SI.beq, zb1, zb3]
 refine (rsame_ok S hB1 hB3 _ _).mono ?_
 rintro o h7 nx7 ⟨rfl, e7⟩
 simp
 exact ⟨rfl, F4.trans (Fk.ext (e5.trans (e6.trans e7)))⟩
end Tz
/-
 SV: cells that are read as expressions. No condition.
-/
namespace Tz
open Go.Sx Go
mutual
def decE : Nat → List AV → Option E
 | 0, _ => none
 | f + 1, l => match l with
  | [.int .i64 (.lit k), .str a b, .int .i64 (.lit n), .nils, .nils, ck, .int .i64 (.lit at_)] =>
   if (k = 3 ∧ a = 4 ∧ b = 1885957222) ∨ k = 8 then none else
   match ck with
   | .nils => some (.mk k (a, b) n [] [] [] at_)
   | .sl cs len 7 .any => if len ≤ 4000 ∧ cs.length = len * 7 then (match decL f len cs with
    | some es => some (.mk k (a, b) n [] [] es at_)
    | none => none) else none
   | _ => none
  | _ => none
def decL : Nat → Nat → List AV → Option (List E)
 | 0, _, _ => none
 | _ + 1, 0, _ => some []
 | f + 1, n + 1, cs => match decE f (cs.take 7), decL f n (cs.drop 7) with
  | some e, some es => some (e :: es)
  | _, _ => none
end
mutual
theorem decE_ok : ∀ (f : Nat) (l : List AV) (e : E), decE f l = some e → IsE l e
 | 0, l, e, h => by simp [decE] at h
 | f + 1, l, e, h => by
  unfold decE at h
  split at h
  ·rename_i k a b n ck at_
   split at h
   ·cases h
   ·rename_i hq
    have hQ : Qe k (a, b) := ⟨fun hh => hq (.inl ⟨hh.1, by simpa using hh.2⟩), fun hh => hq (.inr hh)⟩
    split at h
    ·cases h
     exact .leaf k (a, b) n [] [] at_ .nils .nils (.inl ⟨rfl, rfl⟩) (.inl ⟨rfl, rfl⟩) hQ
    ·rename_i cs len
     split at h
     ·rename_i hc
      split at h
      ·rename_i es hes
       cases h
       obtain ⟨h1, h2⟩ := decL_ok f len cs es hes
       subst h1
       exact .node k (a, b) n [] [] at_ .nils .nils (.inl ⟨rfl, rfl⟩) (.inl ⟨rfl, rfl⟩) hQ cs es hc.1 hc.2 h2
      ·cases h
     ·cases h
    ·cases h
  ·cases h
theorem decL_ok : ∀ (f n : Nat) (cs : List AV) (es : List E), decL f n cs = some es → n = es.length ∧ ∀ (i : Nat) (h : i < es.length), IsE ((cs.drop (i * 7)).take 7) es[i]
 | 0, n, cs, es, h => by simp [decL] at h
 | f + 1, 0, cs, es, h => by
  simp [decL] at h
  subst h
  exact ⟨rfl, fun i hi => by simp at hi⟩
 | f + 1, n + 1, cs, es, h => by
  unfold decL at h
  split at h
  ·rename_i e es' he hes
   cases h
   obtain ⟨h1, h2⟩ := decL_ok f n _ es' hes
   refine ⟨by simp [h1], fun i hi => ?_⟩
   cases i with
   | zero => simpa using decE_ok f _ e he
   | succ i =>
    simp at hi
    have := h2 i hi
    rw [List.drop_drop] at this
    simpa [show (i + 1) * 7 = 7 + i * 7 by omega] using this
  ·cases h
end
end Tz
/-
 SV: the module and the expression of the law of depth. No condition.
-/
namespace Tz
open Go.Sx Go
def stbB : AV → Bool
 | .int _ _ => true
 | .str _ _ => true
 | .nils => true
 | .sl _ _ _ .any => true
 | _ => false
theorem stb_of : ∀ {x : AV}, stbB x = true → Stb x
 | .int _ _, _ => fun k h => by cases k <;> rfl
 | .str _ _, _ => stb_str _ _
 | .nils, _ => stb_nils
 | .sl _ _ _ .any, _ => stb_sl _ _ _
 | .sl _ _ _ (.tok _), h => by cases h
 | .bool _, h => by cases h
 | .ptr _ _, h => by cases h
 | .nilp, h => by cases h
 | .slice _ _ _ _, h => by cases h
 | .map _, h => by cases h
 | .nilm, h => by cases h
 | .fn _ _ _, h => by cases h
 | .yld _, h => by cases h
 | .nilf, h => by cases h
 | .iface _ _, h => by cases h
 | .nili, h => by cases h
 | .agg _, h => by cases h
 | .tuple _, h => by cases h
 | .cref _, h => by cases h
instance (e : E) : Decidable (Sk e) := by unfold Sk; infer_instance
def smB : Nat → E → Bool
 | 0, _ => false
 | f + 1, e => decide (Sk e) && e.kids.all (smB f)
theorem sm_of : ∀ (f : Nat) {e : E}, smB f e = true → Sm e
 | 0, e, h => by cases h
 | f + 1, e, h => by
  simp only [smB, Bool.and_eq_true, decide_eq_true_eq, List.all_eq_true] at h
  exact .mk e h.1 fun x hx => sm_of f (h.2 x hx)
def ldF : List AV := [I 1, .str 1 102, I 4, .nils, .sl [.str 1 120, I 0, .str 0 0, .nils] 1 4 .any, I 0, .str 0 0, .nils, I 6, .str 0 0, I 0, .nils, .nils, .sl [I 9, .str 1 60, I 0, .nils, .nils, .sl [I 2, .str 1 120, I 0, .nils, .nils, .nils, I 24, I 0, .str 0 0, I 1, .nils, .nils, .nils, I 28] 2 7 .any, I 24, I 0, .str 0 0, I 0, .nils, .nils, .nils, I 35, I 9, .str 1 43, I 0, .nils, .nils, .sl [I 0, .str 0 0, I 1, .nils, .nils, .nils, I 42, I 3, .str 1 102, I 0, .nils, .nils, .sl [I 9, .str 1 45, I 0, .nils, .nils, .sl [I 2, .str 1 120, I 0, .nils, .nils, .nils, I 48, I 0, .str 0 0, I 1, .nils, .nils, .nils, I 52] 2 7 .any, I 48] 1 7 .any, I 46] 2 7 .any, I 42] 3 7 .any, I 21, I 0, I 0, .str 0 0, .nils, .nils, .nils, I 0, .nils, .nils, .nils, .nils, I 0, .str 0 0, .nils, I 0, .str 0 0, I 0, .nils, .nils, .nils, I 0, .nils, .nils, I 0, .str 0 0, I 0, .nils, .nils, .nils, I 0]
def bdF : E := .mk 6 (0, 0) 0 [] [] [.mk 9 (1, 60) 0 [] [] [.mk 2 (1, 120) 0 [] [] [] 24, .mk 0 (0, 0) 1 [] [] [] 28] 24, .mk 0 (0, 0) 0 [] [] [] 35, .mk 9 (1, 43) 0 [] [] [.mk 0 (0, 0) 1 [] [] [] 42, .mk 3 (1, 102) 0 [] [] [.mk 9 (1, 45) 0 [] [] [.mk 2 (1, 120) 0 [] [] [] 48, .mk 0 (0, 0) 1 [] [] [] 52] 48] 46] 42] 21
def funF : Fun := ⟨(1, 102), [(1, 120)], bdF⟩
def dlF : Dl := ⟨1, funF, []⟩
def pcF : List AV := [.str 1 120, I 0, .str 0 0, .nils]
theorem isF : IsDl ldF dlF := ⟨rfl, rfl, rfl, ⟨.nils, rfl, .inl ⟨rfl, rfl⟩⟩, ⟨.sl pcF 1 4 .any, rfl, .inr ⟨pcF, rfl, by decide, rfl, fun i hi => by
  match i, hi with
  | 0, _ => exact ⟨_, _, _, rfl, rfl, rfl, rfl⟩⟩⟩, decE_ok 20 _ _ rfl, fun x hx => stb_of (List.all_eq_true.1 (show ldF.all stbB = true from rfl) x hx), fun x hx => List.all_eq_true.1 (show ldF.all AV.isCell = true from rfl) x hx⟩
def ldG : List AV := [I 1, .str 1 103, I 60, .nils, .sl [.str 1 120, I 0, .str 0 0, .nils, .str 1 118, I 2, .str 0 0, .sl [I 0, .str 0 0, .nils] 1 3 .any] 2 4 .any, I 2, .str 0 0, .sl [I 0, .str 0 0, .nils] 1 3 .any, I 6, .str 0 0, I 0, .nils, .nils, .sl [I 9, .str 1 60, I 0, .nils, .nils, .sl [I 2, .str 1 120, I 0, .nils, .nils, .nils, I 92, I 0, .str 0 0, I 1, .nils, .nils, .nils, I 96] 2 7 .any, I 92, I 2, .str 1 118, I 0, .nils, .nils, .nils, I 103, I 3, .str 1 103, I 0, .nils, .nils, .sl [I 9, .str 1 45, I 0, .nils, .nils, .sl [I 2, .str 1 120, I 0, .nils, .nils, .nils, I 112, I 0, .str 0 0, I 1, .nils, .nils, .nils, I 116] 2 7 .any, I 112, I 3, .str 4 1752397168, I 0, .nils, .nils, .sl [I 2, .str 1 118, I 0, .nils, .nils, .nils, I 124, I 2, .str 1 120, I 0, .nils, .nils, .nils, I 127] 2 7 .any, I 119] 2 7 .any, I 110] 3 7 .any, I 89, I 0, I 0, .str 0 0, .nils, .nils, .nils, I 0, .nils, .nils, .nils, .nils, I 0, .str 0 0, .nils, I 0, .str 0 0, I 0, .nils, .nils, .nils, I 0, .nils, .nils, I 0, .str 0 0, I 0, .nils, .nils, .nils, I 0]
def bdG : E := .mk 6 (0, 0) 0 [] [] [.mk 9 (1, 60) 0 [] [] [.mk 2 (1, 120) 0 [] [] [] 92, .mk 0 (0, 0) 1 [] [] [] 96] 92, .mk 2 (1, 118) 0 [] [] [] 103, .mk 3 (1, 103) 0 [] [] [.mk 9 (1, 45) 0 [] [] [.mk 2 (1, 120) 0 [] [] [] 112, .mk 0 (0, 0) 1 [] [] [] 116] 112, .mk 3 (4, 1752397168) 0 [] [] [.mk 2 (1, 118) 0 [] [] [] 124, .mk 2 (1, 120) 0 [] [] [] 127] 119] 110] 89
def funG : Fun := ⟨(1, 103), [(1, 120), (1, 118)], bdG⟩
def dlG : Dl := ⟨1, funG, []⟩
def pcG : List AV := [.str 1 120, I 0, .str 0 0, .nils, .str 1 118, I 2, .str 0 0, .sl [I 0, .str 0 0, .nils] 1 3 .any]
theorem isG : IsDl ldG dlG := ⟨rfl, rfl, rfl, ⟨.nils, rfl, .inl ⟨rfl, rfl⟩⟩, ⟨.sl pcG 2 4 .any, rfl, .inr ⟨pcG, rfl, by decide, rfl, fun i hi => by
  match i, hi with
  | 0, _ => exact ⟨_, _, _, rfl, rfl, rfl, rfl⟩
  | 1, _ => exact ⟨_, _, _, rfl, rfl, rfl, rfl⟩⟩⟩, decE_ok 20 _ _ rfl, fun x hx => stb_of (List.all_eq_true.1 (show ldG.all stbB = true from rfl) x hx), fun x hx => List.all_eq_true.1 (show ldG.all AV.isCell = true from rfl) x hx⟩
def csD : List AV := ldF ++ ldG
def dcD : AV := .sl csD 2 45 .any
def dsD : List Dl := [dlF, dlG]
theorem rowD : IsDs dcD dsD := .inr ⟨csD, rfl, by decide, rfl, fun i hi => by
  match i, hi with
  | 0, _ => exact isF
  | 1, _ => exact isG⟩
theorem modD : RMod dcD dsD (modOf dsD) := ⟨rowD, fun nm => modF_find nm dsD, fun d hd => by
 simp [dsD] at hd
 rcases hd with rfl | rfl
 ·exact sm_of 20 rfl
 ·exact sm_of 20 rfl⟩
theorem findF : findD 1 (1, 102) dsD = some dlF := rfl
def leP : List AV := [I 3, .str 4 1752397168, I 0, .nils, .nils, .sl [I 2, .str 1 118, I 0, .nils, .nils, .nils, I 5, I 0, .str 0 0, I 1, .nils, .nils, .nils, I 8] 2 7 .any, I 0]
def bdP : E := .mk 3 (4, 1752397168) 0 [] [] [.mk 2 (1, 118) 0 [] [] [] 5, .mk 0 (0, 0) 1 [] [] [] 8] 0
theorem isP : IsE leP bdP := decE_ok 20 _ _ rfl
theorem smP : Sm bdP := sm_of 20 rfl
def txD : AV := .str 131 696994655600711251863350603147181502049382055069877027011167759800228549011835644302093330968706677775704809904878582924592340509927923012903415777914475908224704194709199436454265250310816353445652669210089657972330238685439589420003411593357777065473607556445148464603720018095075709402804145787957372761307772262
def txP : AV := .str 10 194523234615091333920112
end Tz
/-
 SV: the law of depth returns true. No condition.
-/
namespace Tz
open Go.Sx Go
structure KnownD (C : Cfg) : Prop where
 parse : ∀ h nx, C.sum n_parser_Parse [txD] h nx = some (.tuple [.agg [dcD], I 0, I 0], h, nx)
 push : ∀ h nx, C.sum n_ref09_ParseExpr [txP] h nx = some (.tuple [.agg leP, I 0, I 0], h, nx)
 lives : ∀ h nx, C.sum n_law12_lives [] h nx = some (.bool true, h, nx)
theorem isK1 (k : Int) : IsK (.sl [I 0, I k, .str 0 0, .nils] 1 4 .any) [numV k] := .inr ⟨_, rfl, by simp, ⟨rfl, fun i hi => by
 have : i = 0 := by simpa using hi
 subst this
 exact .leaf 0 k 0 0⟩⟩
def numsV (n : Nat) : List V := (List.range n).map fun (i : Nat) => numV i
def numsA (n : Nat) : List AV := (List.range n).flatMap fun (i : Nat) => [I i, I 0].take 0 ++ [I 0, I i, .str 0 0, .nils]
theorem numsA_succ (n : Nat) : numsA (n + 1) = numsA n ++ [I 0, I n, .str 0 0, .nils] := by simp [numsA, List.range_succ]
theorem numsA_length (n : Nat) : (numsA n).length = n * 4 := by
 induction n with
 | zero => rfl
 | succ n ih => rw [numsA_succ]; simp [ih]; omega
theorem numsV_length (n : Nat) : (numsV n).length = n := by simp [numsV]
theorem numsA_stb (n : Nat) : ∀ x ∈ numsA n, Stb x := by
 induction n with
 | zero => intro x hx; simp [numsA] at hx
 | succ n ih =>
  intro x hx
  rw [numsA_succ] at hx
  rcases List.mem_append.1 hx with hx | hx
  ·exact ih x hx
  ·simp at hx
   rcases hx with rfl | rfl | rfl | rfl <;> exact stb_of rfl
theorem numsA_vs (n : Nat) : IsVs (numsA n) (numsV n) := by
 refine ⟨by rw [numsA_length, numsV_length], ?_⟩
 induction n with
 | zero => intro i hi; simp [numsV] at hi
 | succ n ih =>
  intro i hi
  rw [numsV_length] at hi
  have hl := numsA_length n
  by_cases hin : i < n
  ·have := ih i (by rw [numsV_length]; exact hin)
   rw [numsA_succ, List.drop_append_of_le_length (by omega), List.take_append_of_le_length (by simp; omega)]
   simpa [numsV, List.range_succ, List.getElem_append, hin] using this
  ·have : i = n := by omega
   subst this
   rw [numsA_succ, List.drop_append, show numsA i = numsA i from rfl, List.drop_eq_nil_of_le (by omega)]
   simp [numsV, hl]
   exact .leaf 0 i 0 0
theorem numsV_size (n : Nat) : V.sizes (numsV n) = n := by
 induction n with
 | zero => rfl
 | succ n ih =>
  have : numsV (n + 1) = numsV n ++ [numV n] := by simp [numsV, List.range_succ]
  rw [this, sizes_append, ih]
  simp [numV, V.size, V.sizes]
def DpInv (N : Nat) (n : Int) (k5 k9 : Key) (h11 : T Blk) (nx11 : Key) (m : Nat) (tm' : T AV) (h' : T Blk) (nx' : Key) : Prop :=
 ∃ (j : Nat) (c : AV), m = N - j ∧ j ≤ N ∧ T.get (K 0) tm' = some (I n) ∧ T.get (K 5) tm' = some (.ptr k5 0) ∧ T.get (K 9) tm' = some (.ptr k9 0) ∧ T.get (K 18) tm' = some c ∧ T.get (K 19) tm' = some (I j) ∧ IsApp c (numsA j) j 4 h' nx' ∧ (∀ b, OwnC c b → nx11.toNat ≤ b.toNat) ∧ Ext h11 nx11 h' nx'
theorem frz_nest {n : Nat} {b : Key} {a1 a2 a3 a4 c : AV} {H : T Blk} (hg : T.get b H = some (.cells [a1, a2, a3, a4, c] .fix)) (h1 : Stb a1) (h2 : Stb a2) (h3 : Stb a3) (h4 : Stb a4) :
  frzA (n + 1) (.slice b 0 1 5) H = (.sl [a1, a2, a3, a4, (frzA n c (T.set b (some (.cells [a1, a2, a3, a4, c] .ro)) H)).1] 1 5 .any, (frzA n c (T.set b (some (.cells [a1, a2, a3, a4, c] .ro)) H)).2) := by
 have e1 : ∀ H, frzA n a1 H = (a1, H) := h1 n
 have e2 : ∀ H, frzA n a2 H = (a2, H) := h2 n
 have e3 : ∀ H, frzA n a3 H = (a3, H) := h3 n
 have e4 : ∀ H, frzA n a4 H = (a4, H) := h4 n
 simp only [frzA, frzSA, hg]
 simp [frzLA, e1, e2, e3, e4]
variable {C : Cfg} (S : Std C) (Kn : KnownD C)
include S Kn
theorem deep_ok (n room : Int) (hn : -9223372036854775808 ≤ n ∧ n < 9223372036854775808) (hr : -9223372036854775808 ≤ room ∧ room < 9223372036854775808) (h : T Blk) (nx : Key) :
  CallA C n_ybp [I n, I room] h nx (fun o _ _ => o = .ret (.bool true)) := by
 have s1 := Key.toNat_succ nx
 obtain ⟨a0, a1⟩ := arF_low hn.1 hn.2 (m := 31) (by omega)
 obtain ⟨r0, r1⟩ := arF_low hr.1 hr.2 (m := 900) (by omega)
 have hw1 : wrapF .i64 (240 + arF n 31) = 240 + arF n 31 := wrap_id (by omega) (by omega)
 have hw2 : wrapF .i64 (200 + arF room 900) = 200 + arF room 900 := wrap_id (by omega) (by omega)
 refine S.c_ybp.call ?_
 simp [ybp]
 simp [ybp_r0]
 simp [ybp_r1, S.raw]
 refine .inl ⟨_, _, _, Kn.parse _ _, ?_⟩
 simp [dcD]
 simp [ybp_r2, S.raw]
 refine (around_ok S _ 31 (by omega) _ _).mono ?_
 rintro o h1 nx1 ⟨rfl, e1⟩
 have t1 := e1.n
 have q0 := e1.g nx (by omega)
 simp at q0
 simp [hw1]
 generalize hk : 240 + arF n 31 = k at *
 simp [ybp_r3, S.raw]
 refine (around_ok S _ 900 (by omega) _ _).mono ?_
 rintro o h2 nx2 ⟨rfl, e2⟩
 have t2 := e2.n
 have u2 := Key.toNat_succ nx2
 have q02 := (e2.g nx (by omega)).trans q0
 simp [hw2]
 generalize hro : 200 + arF room 900 = ro at *
 have E3 := E0 h2 nx2 (.cells [I 5000, I ro] .fix)
 have q03 := (E3.g nx (by omega)).trans q02
 have q23 : T.get nx2 (T.set nx2 (some (.cells [I 5000, I ro] .fix)) h2) = some (.cells [I 5000, I ro] .fix) := T.get_set_same _ _ _
 generalize T.set nx2 (some (.cells [I 5000, I ro] .fix)) h2 = h3 at *
 simp [ybp_r4, q03, q23, S.raw]
 have st4 : ∀ x ∈ [I 0, I k, .str 0 0, .nils], Stb x := by
  intro x hx
  simp at hx
  rcases hx with rfl | rfl | rfl | rfl
  ·exact stb_of rfl
  ·exact stb_of rfl
  ·exact stb_of rfl
  ·exact stb_of rfl
 rw [frz_fix (T.get_set_same _ _ _) rfl st4]
 simp
 have u3 := Key.toNat_succ nx2.succ
 have E4 : Ext h3 nx2.succ (T.set nx2.succ (some (.cells [I 0, I k, .str 0 0, .nils] .ro)) h3) nx2.succ.succ := E0 _ _ _
 have q04 := (E4.g nx (by omega)).trans q03
 have q24 := (E4.g nx2 (by omega)).trans q23
 generalize T.set nx2.succ (some (.cells [I 0, I k, .str 0 0, .nils] .ro)) h3 = h4 at *
 have hgas : (clampL 5000 ro 0 0).fuel < (1048577 : Nat) := by have := (clamp_lims 5000 ro 0 0).f1; omega
 have hz1 : ∀ v ∈ [numV k], v.size ≤ 1073741824 := by intro v hv; simp at hv; subst hv; simp [numV, V.size, V.sizes]
 refine (call_ok S rowD hgas (1, 102) (isK1 k) hz1 _ _).mono ?_
 rintro o h5 nx5 ⟨f5, hO5⟩
 have hcr : callR (clampL 5000 ro 0 0) (modOf dsD) 1048577 (1, 102) [numV k] = callF (ev (clampL 5000 ro 0 0) (modOf dsD) 1048577) funF [numV k] st0 := rfl
 rw [hcr] at hO5
 generalize hres : callF (ev (clampL 5000 ro 0 0) (modOf dsD) 1048577) funF [numV k] st0 = r at *
 obtain ⟨c5, b5, hK5, hB5, rfl⟩ := hO5.shape
 have t5 := f5.n
 have u5 := Key.toNat_succ nx5
 have u6 := Key.toNat_succ nx5.succ
 have q05 := (f5.g nx (by omega) (by rw [q04]; trivial)).trans q04
 have q25 := (f5.g nx2 (by omega) (by rw [q24]; trivial)).trans q24
 have hcc5 := IsK.cell hK5
 have zb5 : ∀ n h, frzA n b5 h = (b5, h) := (IsBrs.stb S hB5).1
 simp [hcc5]
 have E6 : Ext h5 nx5 (T.set nx5.succ (some (.cells [I (resS r).cf, I (resS r).cb, I (resS r).fl] .fix)) (T.set nx5 (some (.cells [I (resV r).k, I (resV r).n, .str (resV r).a (resV r).b, c5] .fix)) (T.set nx5.succ (some (.cells [I 0, I 0, I 0] .fix)) (T.set nx5 (some (.cells [I 0, I 0, .str 0 0, .nils] .fix)) h5)))) nx5.succ.succ := ⟨by omega, fun b hb => by simp (disch := omega) only [get_lt (α := Blk)]⟩
 have q06 := (E6.g nx (by omega)).trans q05
 have q26 := (E6.g nx2 (by omega)).trans q25
 have pv6 : T.get nx5 (T.set nx5.succ (some (.cells [I (resS r).cf, I (resS r).cb, I (resS r).fl] .fix)) (T.set nx5 (some (.cells [I (resV r).k, I (resV r).n, .str (resV r).a (resV r).b, c5] .fix)) (T.set nx5.succ (some (.cells [I 0, I 0, I 0] .fix)) (T.set nx5 (some (.cells [I 0, I 0, .str 0 0, .nils] .fix)) h5)))) = some (.cells [I (resV r).k, I (resV r).n, .str (resV r).a (resV r).b, c5] .fix) := by rw [get_lt (by omega)]; exact T.get_set_same _ _ _
 have pc6 : T.get nx5.succ (T.set nx5.succ (some (.cells [I (resS r).cf, I (resS r).cb, I (resS r).fl] .fix)) (T.set nx5 (some (.cells [I (resV r).k, I (resV r).n, .str (resV r).a (resV r).b, c5] .fix)) (T.set nx5.succ (some (.cells [I 0, I 0, I 0] .fix)) (T.set nx5 (some (.cells [I 0, I 0, .str 0 0, .nils] .fix)) h5)))) = some (.cells [I (resS r).cf, I (resS r).cb, I (resS r).fl] .fix) := T.get_set_same _ _ _
 generalize T.set nx5.succ (some (.cells [I (resS r).cf, I (resS r).cb, I (resS r).fl] .fix)) (T.set nx5 (some (.cells [I (resV r).k, I (resV r).n, .str (resV r).a (resV r).b, c5] .fix)) (T.set nx5.succ (some (.cells [I 0, I 0, I 0] .fix)) (T.set nx5 (some (.cells [I 0, I 0, .str 0 0, .nils] .fix)) h5))) = h6 at *
 have v26 : ∀ B : Option Blk, T.get nx2 (T.set nx5.succ.succ B h6) = some (.cells [I 5000, I ro] .fix) := fun B => (get_lt (by omega)).trans q26
 simp [ybp_r5, q06, v26, S.raw]
 rw [frz_fix (T.get_set_same _ _ _) rfl st4]
 simp
 have u7 := Key.toNat_succ nx5.succ.succ
 have E7 : Ext h6 nx5.succ.succ (T.set nx5.succ.succ (some (.cells [I 0, I k, .str 0 0, .nils] .ro)) h6) nx5.succ.succ.succ := E0 _ _ _
 have q07 := (E7.g nx (by omega)).trans q06
 have q27 := (E7.g nx2 (by omega)).trans q26
 have pv7 := (E7.g nx5 (by omega)).trans pv6
 have pc7 := (E7.g nx5.succ (by omega)).trans pc6
 generalize T.set nx5.succ.succ (some (.cells [I 0, I k, .str 0 0, .nils] .ro)) h6 = h7 at *
 refine (rcalls_ok S modD findF (isK1 k) rfl hz1 5000 ro 0 0 hgas _ _).mono ?_
 rintro o h8 nx8 ⟨hO8, e8⟩
 have hres8 : callF (ev (clampL 5000 ro 0 0) (modOf dsD) 1048577) dlF.f [numV k] st0 = r := hres
 rw [hres8] at hO8
 obtain ⟨c8, b8, hK8, hB8, rfl⟩ := hO8.shape
 have t8 := e8.n
 have u8 := Key.toNat_succ nx8
 have u9 := Key.toNat_succ nx8.succ
 have q08 := (e8.g nx (by omega)).trans q07
 have q28 := (e8.g nx2 (by omega)).trans q27
 have pv8 := (e8.g nx5 (by omega)).trans pv7
 have pc8 := (e8.g nx5.succ (by omega)).trans pc7
 have hcc8 := IsK.cell hK8
 have zb8 : ∀ n h, frzA n b8 h = (b8, h) := (IsBrs.stb S hB8).1
 simp [hcc8]
 have E9 : Ext h8 nx8 (T.set nx8.succ (some (.cells [I (resS r).cf, I (resS r).cb, I (resS r).fl] .fix)) (T.set nx8 (some (.cells [I (resV r).k, I (resV r).n, .str (resV r).a (resV r).b, c8] .fix)) (T.set nx8.succ (some (.cells [I 0, I 0, I 0] .fix)) (T.set nx8 (some (.cells [I 0, I 0, .str 0 0, .nils] .fix)) h8)))) nx8.succ.succ := ⟨by omega, fun b hb => by simp (disch := omega) only [get_lt (α := Blk)]⟩
 have q09 := (E9.g nx (by omega)).trans q08
 have q29 := (E9.g nx2 (by omega)).trans q28
 have pv9 := (E9.g nx5 (by omega)).trans pv8
 have pc9 := (E9.g nx5.succ (by omega)).trans pc8
 have rv9 : T.get nx8 (T.set nx8.succ (some (.cells [I (resS r).cf, I (resS r).cb, I (resS r).fl] .fix)) (T.set nx8 (some (.cells [I (resV r).k, I (resV r).n, .str (resV r).a (resV r).b, c8] .fix)) (T.set nx8.succ (some (.cells [I 0, I 0, I 0] .fix)) (T.set nx8 (some (.cells [I 0, I 0, .str 0 0, .nils] .fix)) h8)))) = some (.cells [I (resV r).k, I (resV r).n, .str (resV r).a (resV r).b, c8] .fix) := by rw [get_lt (by omega)]; exact T.get_set_same _ _ _
 have rc9 : T.get nx8.succ (T.set nx8.succ (some (.cells [I (resS r).cf, I (resS r).cb, I (resS r).fl] .fix)) (T.set nx8 (some (.cells [I (resV r).k, I (resV r).n, .str (resV r).a (resV r).b, c8] .fix)) (T.set nx8.succ (some (.cells [I 0, I 0, I 0] .fix)) (T.set nx8 (some (.cells [I 0, I 0, .str 0 0, .nils] .fix)) h8)))) = some (.cells [I (resS r).cf, I (resS r).cb, I (resS r).fl] .fix) := T.get_set_same _ _ _
 generalize T.set nx8.succ (some (.cells [I (resS r).cf, I (resS r).cb, I (resS r).fl] .fix)) (T.set nx8 (some (.cells [I (resV r).k, I (resV r).n, .str (resV r).a (resV r).b, c8] .fix)) (T.set nx8.succ (some (.cells [I 0, I 0, I 0] .fix)) (T.set nx8 (some (.cells [I 0, I 0, .str 0 0, .nils] .fix)) h8))) = h9 at *
 simp [ybp_r6, pv9, pc9, rv9, rc9, S.raw, AV.beq, AV.beqs, SI.beq]
 refine (cost_ok S _ _ _ _ _).mono ?_
 rintro o h10 nx10 ⟨rfl, e10⟩
 have t10 := e10.n
 have rc10 := (e10.g nx8.succ (by omega)).trans rc9
 simp [rc10, S.raw, AV.beq, AV.beqs, SI.beq, zb5, zb8]
 refine (rsame_ok S hB5 hB8 _ _).mono ?_
 rintro o h11 nx11 ⟨rfl, e11⟩
 have t11 := e11.n
 have q011 := ((e11.g nx (by omega)).trans (e10.g nx (by omega))).trans q09
 have q211 := ((e11.g nx2 (by omega)).trans (e10.g nx2 (by omega))).trans q29
 simp
 simp [ybp_r8]
 simp [ybp_r9]
 obtain ⟨n0, n1⟩ := arF_low hn.1 hn.2 (m := 9) (by omega)
 obtain ⟨N, hN⟩ := Int.eq_ofNat_of_zero_le (show 0 ≤ 250 + arF n 9 by omega)
 have hw9 : wrapF .i64 (250 + arF n 9) = N := by rw [wrap_id (by omega) (by omega)]; exact hN
 refine W.loopM (n := N) (DpInv N n nx nx2 h11 nx11) ?_ ?_
 ·refine ⟨0, .nils, by simp, by omega, ?_, ?_, ?_, ?_, ?_, .inl ⟨rfl, rfl, rfl⟩, fun b o => own_nils o, Ext.refl _ _⟩ <;> simp
 ·rintro m tm12 h12 nx12 ⟨j, c, rfl, hj, f0, f5', f9, f18, f19, ha, ho, e12⟩
  have t12 := e12.n
  refine W.of ?_
  simp [ybp_l0]
  simp [ybp_r10, f0, f19, S.raw]
  refine (around_ok S _ 9 (by omega) _ _).mono ?_
  rintro o h13 nx13 ⟨rfl, e13⟩
  have t13 := e13.n
  have a13 := ha.keep t13 fun b hb _ => e13.g b hb
  simp [hw9]
  refine ⟨fun hlt => ?_, fun hge => ?_⟩
  ·have hjl : j < N := by omega
   have u13 := Key.toNat_succ nx13
   have E14 := E0 h13 nx13 (.cells [I 0, I j, .str 0 0, .nils] .fix)
   have a14 := a13.keep E14.n fun b hb _ => E14.g b hb
   obtain ⟨c', h15, nx15, ha15, a15, o15, t15, g15⟩ := a14.addN (n0 := nx11) (new := [I 0, I j, .str 0 0, .nils]) (m := 1) ho (by omega) rfl (by omega) (by simp)
   simp [-appendTo, ybp_r11, f18, f19, ha15]
   simp [ybp_r12, f19]
   refine ⟨N - (j + 1), by omega, j + 1, c', rfl, by omega, ?_, ?_, ?_, ?_, ?_, by rw [numsA_succ]; exact a15, o15, ⟨by omega, fun b hb => by rw [g15 b hb, E14.g b (by omega), e13.g b (by omega)]; exact e12.g b hb⟩⟩
   ·simp [f0]
   ·simp [f5']
   ·simp [f9]
   ·simp
   ·simp; rw [wrap_id (by omega) (by omega)]
  ·have hjl : j = N := by omega
   subst hjl
   have E13 : Ext h11 nx11 h13 nx13 := e12.trans e13
   have p0 := (E13.g nx (by omega)).trans q011
   have p2 := (E13.g nx2 (by omega)).trans q211
   simp [ybp_r13, S.raw]
   refine .inl ⟨_, _, _, Kn.push _ _, ?_⟩
   have hpc : leP.all AV.isCell = true := rfl
   have hpl : leP.length = 7 := rfl
   simp [-List.all_eq_true, hpc, hpl]
   have u14 := Key.toNat_succ nx13
   have u15 := Key.toNat_succ nx13.succ
   have zd : List.drop 7 [I 0, .str 0 0, I 0, .nils, .nils, .nils, I 0] = [] := rfl
   have E14 := E0 h13 nx13 (.cells leP .fix)
   have r0' := (E14.g nx (by omega)).trans p0
   have r2' := (E14.g nx2 (by omega)).trans p2
   have rp : T.get nx13 (T.set nx13 (some (.cells leP .fix)) h13) = some (.cells leP .fix) := T.get_set_same _ _ _
   have a14 := a13.keep E14.n fun b hb _ => E14.g b hb
   generalize T.set nx13 (some (.cells leP .fix)) h13 = h14 at *
   have tk : leP.take 7 = leP := rfl
   have hcc := a14.cell
   have v2 : ∀ B : Option Blk, T.get nx2 (T.set nx13.succ B h14) = some (.cells [I 5000, I ro] .fix) := fun B => (get_lt (by omega)).trans r2'
   have vp : ∀ B : Option Blk, T.get nx13 (T.set nx13.succ B h14) = some (.cells leP .fix) := fun B => (get_lt (by omega)).trans rp
   simp [ybp_r14, f5', f9, f18, r0', v2, vp, tk, hpl, hcc.1, hcc.2, S.raw]
   have fzP : ∀ n H, frzLA (frzA n) leP H = (leP, H) := isP.frz
   rw [frz_nest (T.get_set_same _ _ _) (stb_of rfl) (stb_of rfl) (stb_of rfl) (stb_of rfl)]
   simp only [fzP]
   have E15 : Ext h14 nx13.succ (T.set nx13.succ (some (.cells [.str 1 118, I 2, I 0, .str 0 0, c] .ro)) (T.set nx13.succ (some (.cells [.str 1 118, I 2, I 0, .str 0 0, c] .fix)) h14)) nx13.succ.succ := ⟨by omega, fun b hb => by rw [get_lt hb, get_lt hb]⟩
   have a15 := a14.keep E15.n fun b hb _ => E15.g b hb
   generalize T.set nx13.succ (some (.cells [.str 1 118, I 2, I 0, .str 0 0, c] .ro)) (T.set nx13.succ (some (.cells [.str 1 118, I 2, I 0, .str 0 0, c] .fix)) h14) = h15 at *
   obtain ⟨z1, z2⟩ := a15.fastN ho (numsA_stb j) 6
   have hc' : (frzA 7 c h15).1 = .sl (numsA j) j 4 .any := by
    rcases z1 with ⟨_, _, e⟩ | e
    ·omega
    ·exact e
   rw [hc']
   have hK : IsK (.sl (numsA j) j 4 .any) (V.mk 2 0 0 0 (numsV j)).kids := .inr ⟨numsA j, by rw [mk_kids, numsV_length], by rw [mk_kids, numsV_length]; omega, numsA_vs j⟩
   have hce : IsEnv (.sl [.str 1 118, I 2, I 0, .str 0 0, .sl (numsA j) j 4 .any] 1 5 .any) [((1, 118), .mk 2 0 0 0 (numsV j))] := .inr ⟨_, rfl, by simp, rfl, fun i hi => by
    have : i = 0 := by simpa using hi
    subst this
    exact ⟨_, hK, rfl⟩⟩
   have hre : REnv (.sl [.str 1 118, I 2, I 0, .str 0 0, .sl (numsA j) j 4 .any] 1 5 .any) [((1, 118), .mk 2 0 0 0 (numsV j))] := ⟨.inr ⟨_, rfl, by simp, rfl, fun i hi => by
    have : i = 0 := by simpa using hi
    subst this
    exact ⟨_, hK, rfl⟩⟩, fun x hx => by
    simp at hx
    subst hx
    simp [V.size, numsV_size]; omega⟩
   refine (agrees_ok S modD hce hre isP (.inl rfl) smP 5000 ro 0 0 _ _).mono ?_
   rintro o h16 nx16 ⟨rfl, _⟩
   simp [S.raw]
   refine .inl ⟨_, _, _, Kn.lives _ _, ?_⟩
   simp
end Tz
