/-
 SV: the reference's second step. No condition.
-/
import Derived.Test.YthhjnogfljegnaaGreatDoorRB
import Derived.Test.YthhjnogfljegnaaGreatDoorVRun
set_option linter.unusedSimpArgs false
set_option linter.unusedVariables false
set_option linter.unusedSectionVars false
namespace Tz
open Go.Sx Go
theorem RR.addBr {rb : Key} {dc : AV} {L : Lim} {st : St} {x : Int} {h : T Blk} {nx : Key} {br : AV} (R : RR rb dc L st x h nx) (hb : T.get rb h = some (.cells (rrC dc L st x br) .fix)) (ha : IsApp br (brsA st.brs) st.brs.length 3 h nx) (y : Br) (hL : L.fuel ≤ 1048576) (hbr : (st.brs.length : Int) + 1 ≤ st.cf) :
  ∃ c' h' nx', appendTo 3 br (brA y) 1 h nx = .val c' h' nx' ∧ c'.isCell = true ∧ c'.cells = [c'] ∧ T.get rb h' = T.get rb h ∧ RR rb dc L { st with brs := st.brs ++ [y] } x (T.set rb (some (.cells (rrC dc L { st with brs := st.brs ++ [y] } x c') .fix)) h') nx' ∧ Fb rb h nx (T.set rb (some (.cells (rrC dc L { st with brs := st.brs ++ [y] } x c') .fix)) h') nx' := by
 have s1 := Key.toNat_succ nx
 have low := R.low
 have c1 := R.c1
 have hne : rb ≠ nx := fun e => by rw [← e] at low; omega
 have hlen : st.brs.length + 1 ≤ 1048576 := by omega
 have hbe : brsA (st.brs ++ [y]) = brsA st.brs ++ brA y := by simp [brsA]
 have hbl : (st.brs ++ [y]).length = st.brs.length + 1 := by simp
 have hcel : (brA y).all AV.isCell = true := rfl
 have own : ∀ (c' : AV) (h' : T Blk), (∀ b, OwnC c' b → b = nx) → ∀ b : Key, b.toNat < nx.toNat → Own rb (T.set rb (some (.cells (rrC dc L { st with brs := st.brs ++ [y] } x c') .fix)) h') b → Own rb h b := by
  intro c' h' ho b hb' ⟨l, k, c, h1, h2, h3⟩
  rw [T.get_set_same] at h1
  cases h1
  simp at h2
  subst h2
  have := ho b h3
  subst this
  omega
 rcases id ha with ⟨rfl, hz, hz2⟩ | ⟨b, rfl, hb', hlt, hll⟩ | ⟨t, rfl, ht, hlt⟩
 ·have hz3 : st.brs = [] := List.eq_nil_of_length_eq_zero hz2
  refine ⟨.slice nx 0 1 3, T.set nx (some (.cells (brA y) .part)) h, nx.succ, by simp, rfl, rfl, T.get_set_ne _ _ _ _ hne, ⟨⟨_, T.get_set_same _ _ _, ?_⟩, by omega, R.c0, R.c1, by simp; omega, R.b0⟩, by omega, fun b hb hr _ => by rw [T.get_set_ne _ _ _ _ hr]; exact get_lt hb, own _ _ fun b o => by rcases o with ⟨_, _, h3⟩ | ⟨_, _, _, h3⟩ <;> cases h3; rfl⟩
  rw [hz3]
  exact .inr (.inl ⟨nx, rfl, by rw [T.get_set_ne _ _ _ _ (Ne.symm hne), T.get_set_same]; simp [brsA], by omega, rfl⟩)
 ·have hb1 : b ≠ rb := fun e => by rw [e, hb] at hb'; simp at hb'
  refine ⟨.sl (brsA st.brs ++ brA y) (st.brs.length + 1) 3 (.tok nx), T.set nx (some .tok) (T.set b none h), nx.succ, by simp [hlen, hcel, hb', hll], rfl, rfl, by rw [T.get_set_ne _ _ _ _ hne, T.get_set_ne _ _ _ _ (Ne.symm hb1)], ⟨⟨_, T.get_set_same _ _ _, ?_⟩, by omega, R.c0, R.c1, by simp; omega, R.b0⟩, by omega, fun c hc hr ho => ?_, own _ _ fun b o => by rcases o with ⟨_, _, h3⟩ | ⟨_, _, _, h3⟩ <;> cases h3; rfl⟩
  ·rw [hbe, hbl]
   exact .inr (.inr ⟨nx, rfl, by rw [T.get_set_ne _ _ _ _ (Ne.symm hne), T.get_set_same], by omega⟩)
  ·rw [T.get_set_ne _ _ _ _ hr, get_lt hc, T.get_set_ne]
   intro e; subst e
   exact ho ⟨_, _, _, hb, rfl, .inl ⟨_, _, rfl⟩⟩
 ·have hb1 : t ≠ rb := fun e => by rw [e, hb] at ht; cases ht
  refine ⟨.sl (brsA st.brs ++ brA y) (st.brs.length + 1) 3 (.tok nx), T.set nx (some .tok) (T.set t none h), nx.succ, by simp [hlen, hcel, ht], rfl, rfl, by rw [T.get_set_ne _ _ _ _ hne, T.get_set_ne _ _ _ _ (Ne.symm hb1)], ⟨⟨_, T.get_set_same _ _ _, ?_⟩, by omega, R.c0, R.c1, by simp; omega, R.b0⟩, by omega, fun c hc hr ho => ?_, own _ _ fun b o => by rcases o with ⟨_, _, h3⟩ | ⟨_, _, _, h3⟩ <;> cases h3; rfl⟩
  ·rw [hbe, hbl]
   exact .inr (.inr ⟨nx, rfl, by rw [T.get_set_ne _ _ _ _ (Ne.symm hne), T.get_set_same], by omega⟩)
  ·rw [T.get_set_ne _ _ _ _ hr, get_lt hc, T.get_set_ne]
   intro e; subst e
   exact ho ⟨_, _, _, hb, rfl, .inr ⟨_, _, _, rfl⟩⟩
theorem kids3 {l : List E} (h : l.length = 3) : ∃ a b c, l = [a, b, c] := by
 match l, h with
 | [a, b, c], _ => exact ⟨a, b, c, rfl⟩
theorem lookS_rev (nm : S) : ∀ (s : Sc) (j : Nat), (∀ x ∈ s.take j, x.1 ≠ nm) → ∀ (h : j < s.length), (s[j].1 = nm → lookS nm s = some s[j].2) ∧ (s[j].1 ≠ nm → ∀ x ∈ s.take (j + 1), x.1 ≠ nm)
 | [], j, _, h => absurd h (Nat.not_lt_zero j)
 | x :: s, 0, _, h => ⟨fun e => by simp [lookS] at e ⊢; intro hh; exact absurd e hh, fun e y hy => by simp at hy; rw [hy]; exact e⟩
 | x :: s, j + 1, hn, h => by
  have hx : x.1 ≠ nm := hn x (by simp)
  have ih := lookS_rev nm s j (fun y hy => hn y (by simp [hy])) (by simpa using h)
  refine ⟨fun e => ?_, fun e y hy => ?_⟩
  ·rw [lookS, if_neg hx]; simpa using ih.1 (by simpa using e)
  ·simp at hy
   rcases hy with rfl | hy
   ·exact hx
   ·exact ih.2 (by simpa using e) y hy
theorem lookS_none (nm : S) : ∀ (s : Sc), (∀ x ∈ s, x.1 ≠ nm) → lookS nm s = none
 | [], _ => rfl
 | x :: s, h => by rw [lookS, if_neg (h x (by simp)), lookS_none nm s fun y hy => h y (by simp [hy])]
section
variable {C : Cfg} (S : Std C) {rb : Key} {dc : AV} {L : Lim} {rec_ : Rec} {c0 : Int} (HE : RvOKz C rb dc L rec_ c0) (G : GoodR L rec_) {ds : List Dl} {M : Md} (HM : RMod dc ds M)
include S HE G HM
theorem rstep_ok {fn : Go.Sx.S} {s : Sc} {e : E} {st : St} {ec : AV} {le : List AV} {h : T Blk} {nx : Key} (hL1 : L.fuel ≤ 1048576) (hbr : (st.brs.length : Int) + 1 ≤ st.cf) (hc : c0 ≤ st.cf) (k0 : 0 ≤ st.calls) (k1 : st.calls ≤ 256) (hr : RR rb dc L st 0 h nx) (hs : REnv ec s.reverse) (he : IsE le e) (hm : Sm e) :
  CallA C n_ycq [.ptr rb 0, ec, .agg le, SA fn, I st.calls] h nx (REnds rb dc L h nx (valueF rec_ M fn s e st)) := by
 obtain ⟨_, hsk, hmk⟩ := hm
 have hs' : ∀ n h, frzA n ec h = (ec, h) := hs.stb
 have low := hr.low
 have s1 := Key.toNat_succ nx
 have s2 := Key.toNat_succ nx.succ
 obtain ⟨cn, cb, ck, rfl, hn, hb, hk, hq⟩ := he.cells
 have g1 : ∀ n h, frzA n cn h = (cn, h) := by rcases hn with ⟨rfl, _⟩ | rfl <;> exact fun n h => by cases n <;> rfl
 have g2 : ∀ n h, frzA n cb h = (cb, h) := by rcases hb with ⟨rfl, _⟩ | ⟨_, rfl, _⟩ <;> exact fun n h => by cases n <;> rfl
 have g3 : ∀ n h, frzA n ck h = (ck, h) := hk.stb
 have c1 : cn.isCell = true := by rcases hn with ⟨rfl, _⟩ | rfl <;> rfl
 have c2 : cb.isCell = true := by rcases hb with ⟨rfl, _⟩ | ⟨_, rfl, _⟩ <;> rfl
 have c3 : ck.isCell = true := by rcases hk with ⟨rfl, _⟩ | ⟨_, rfl, _⟩ <;> rfl
 have hn0 : nx ≠ rb := fun e => by rw [e] at s1 low; omega
 have hn1 : nx.succ ≠ rb := fun e => by rw [← e] at low; omega
 have e1 := (E0 h nx (.cells [I e.k, SA e.name, I e.n, cn, cb, ck, I e.at_] .fix)).trans (E0 _ nx.succ (.cells z4 .fix))
 have R1 := hr.ext e1
 have F1 := Fb.ext low e1
 have q0 : T.get nx (T.set nx.succ (some (.cells z4 .fix)) (T.set nx (some (.cells [I e.k, SA e.name, I e.n, cn, cb, ck, I e.at_] .fix)) h)) = some (.cells [I e.k, SA e.name, I e.n, cn, cb, ck, I e.at_] .fix) := by rw [get_lt (by omega)]; exact T.get_set_same _ _ _
 have q1 : T.get nx.succ (T.set nx.succ (some (.cells z4 .fix)) (T.set nx (some (.cells [I e.k, SA e.name, I e.n, cn, cb, ck, I e.at_] .fix)) h)) = some (.cells z4 .fix) := T.get_set_same _ _ _
 refine S.c_ycq.call ?_
 simp [ycq]
 simp [ycq_r0, c1, c2, c3]
 simp [ycq_r1, q0]
 have hcase := hsk
 rcases hcase with hk0 | hk2 | ⟨hk3, hnm⟩ | ⟨hk6, hl3⟩ | ⟨hk9, hl2, hnm⟩
 ·simp [ycq_r2, hk0]
  rw [hk0] at q0 q1 R1 F1
  simp [ycq_r3, q0, S.raw]
  refine (rnumber_ok S e.n _ _).mono ?_
  rintro o h3 nx3 ⟨rfl, e3⟩
  have q3 := (e3.g nx.succ (by omega)).trans q1
  simp [q3]
  refine ⟨(F1.trans (Fb.ext (by omega) e3)).put (by omega) low, _, rfl, ?_⟩
  simp [valueF, hk0, numR, numV]
  exact ⟨.leaf _ _ _ _, (R1.ext e3).set q3 hn1⟩
 ·simp [ycq_r2, ycq_r4, ycq_r6, hk2]
  rw [hk2] at q0 q1 R1 F1
  have hval : ∀ r, (lookS e.name s = r) → valueF rec_ M fn s e st = match r with | some x => .ok x st | none => .stop 6 st := by
   intro r hr; simp [valueF, hk2, hr]; cases r <;> rfl
  have hend : ∀ tm, T.get (K 0) tm = some (.ptr rb 0) → T.get (K 10) tm = some (.ptr nx.succ 0) → lookS e.name s = none → wpC C (.seq (.ops ycq_r12) (.seq (.ops ycq_r13) .ret)) (BodyP [.cell (K 10) true 4] (REnds rb dc L h nx (valueF rec_ M fn s e st))) tm (T.set nx.succ (some (.cells z4 .fix)) (T.set nx (some (.cells [I 2, SA e.name, I e.n, cn, cb, ck, I e.at_] .fix)) h)) nx.succ.succ := by
   intro tm f0 f10 hno
   simp [ycq_r12, f0, S.raw]
   refine (rendb_ok S 6 R1).mono ?_
   rintro o h6 nx6 ⟨rfl, f6, R6⟩
   simp at R6
   have q16 := f6.fix R1 q1 (by omega) hn1
   simp [tupled]
   simp [ycq_r13, f10, q16]
   refine ⟨(F1.trans f6).put (by omega) low, _, rfl, ?_⟩
   rw [hval none hno]
   exact ⟨by simp, ⟨_, .leaf 0 0 0 0⟩, R6.set q16 hn1⟩
  simp only [wpC_seq, wpC_ops] at hend
  rcases hs.c with ⟨rfl, hz⟩ | ⟨cs, rfl, hsl, hcs⟩
  ·have hz : s = [] := by simpa using hz
   subst hz
   simp [ycq_r7]
   rw [wrap_id (by omega) (by omega)]
   refine W.unroll (W.of ?_)
   simp [ycq_l0]
   simp [ycq_r8]
   exact hend _ (by simp) (by simp) rfl
  ·simp at hsl
   simp [ycq_r7]
   rw [wrap_id (by omega) (by omega)]
   refine W.loopM (n := s.length) (fun m tm' h' nx' => ∃ (j : Nat), m = s.length - j ∧ j ≤ s.length ∧ T.get (K 0) tm' = some (.ptr rb 0) ∧ T.get (K 1) tm' = some (.sl cs s.length 5 .any) ∧ T.get (K 7) tm' = some (.ptr nx 0) ∧ T.get (K 10) tm' = some (.ptr nx.succ 0) ∧ T.get (K 11) tm' = some (I ((s.length : Int) - 1 - j)) ∧
    h' = T.set nx.succ (some (.cells z4 .fix)) (T.set nx (some (.cells [I 2, SA e.name, I e.n, cn, cb, ck, I e.at_] .fix)) h) ∧ nx' = nx.succ.succ ∧ ∀ x ∈ s.take j, x.1 ≠ e.name) ?_ ?_
   ·refine ⟨0, by simp, by omega, ?_, ?_, ?_, ?_, ?_, rfl, rfl, by simp⟩ <;> simp
   ·rintro m tm1 h1 nx1 ⟨j, rfl, hj, f0, f1, f7, f10, f11, rfl, rfl, hB⟩
    refine W.of ?_
    simp [ycq_l0]
    by_cases hlt : j < s.length
    ·have hge : 0 ≤ (s.length : Int) - 1 - j := by omega
     have hge' : ¬ (s.length : Int) - 1 - j < 0 := by omega
     have hi : ((s.length : Int) - 1 - j).toNat = s.length - 1 - j := by omega
     have hlt2 : s.length - 1 - j < s.length := by omega
     have hll := hcs.hc
     simp at hll
     have h5 : 5 ≤ cs.length - (s.length - 1 - j) * 5 := by omega
     have hbd := hcs.hk (s.length - 1 - j) (by simpa using hlt2)
     rw [List.getElem_reverse] at hbd
     have hidx : s.length - 1 - (s.length - 1 - j) = j := by omega
     simp only [hidx] at hbd
     obtain ⟨cx, hKx, ex⟩ := hbd
     have hccx := IsK.cell hKx
     have hcfx : ∀ n h, frzA n cx h = (cx, h) := IsK.stb hKx
     obtain ⟨lk1, lk2⟩ := lookS_rev e.name s j hB hlt
     simp [ycq_r8, f11, hge, hge']
     have f11' : T.get (K 11) tm1 = some (I ((s.length - 1 - j : Nat) : Int)) := by rw [f11, show ((s.length : Int) - 1 - j) = ((s.length - 1 - j : Nat) : Int) by omega]
     generalize hjj : s.length - 1 - j = i at *
     simp [ycq_r9, f1, f7, f11', q0, hlt2, h5, ex]
     refine ⟨fun ea eb => ?_, fun hne => ?_⟩
     ·have heq : s[j].1 = e.name := Prod.ext ea eb
      simp [ycq_r10, f1, f10, f11', q1, hlt2, h5, ex, hccx, hcfx]
      have e9 := (E0 h nx (.cells [I 2, SA e.name, I e.n, cn, cb, ck, I e.at_] .fix)).trans (E0 _ nx.succ (.cells [I s[j].2.k, I s[j].2.n, .str s[j].2.a s[j].2.b, cx] .fix))
      refine ⟨Fb.ext low e9, _, rfl, ?_⟩
      rw [hval _ (lk1 heq)]
      exact ⟨IsV.ofV hKx, hr.ext e9⟩
     ·simp [ycq_r11, f11']
      refine ⟨s.length - (j + 1), by omega, j + 1, rfl, by omega, ?_, ?_, ?_, ?_, ?_, ?_⟩
      ·simp [f0]
      ·simp [f1]
      ·simp [f7]
      ·simp [f10]
      ·rw [wrap_id (by omega) (by omega)]; omega
      ·exact fun a b c hh => lk2 (fun ee => hne (by rw [ee]) (by rw [ee])) _ hh
    ·have hjn : j = s.length := by omega
     subst hjn
     have hge : ¬ 0 ≤ (s.length : Int) - 1 - s.length := by omega
     have hge' : (s.length : Int) - 1 - s.length < 0 := by omega
     simp [ycq_r8, f11, hge, hge']
     exact hend _ (by simp [f0]) (by simp [f10]) (lookS_none _ _ (by simpa using hB))
 ·simp [ycq_r2, ycq_r4, ycq_r6, ycq_r14, hk3]
  rw [hk3] at q0 q1 R1 F1
  simp [ycq_r15, q0, S.raw, hs', g1, g2, g3]
  have he3 := he
  rw [hk3] at he3
  refine (rcall_ok S HE G HM hc k0 k1 R1 hs he3 hmk hnm).mono ?_
  rintro o h7 nx7 hE
  obtain ⟨v, c, rfl, hcc, hcf, q17, fin⟩ := hE.fin F1 R1 low (k := nx.succ) (by omega) (by omega) q1
  simp [q17, hcc, hcf]
  have : valueF rec_ M fn s e st = applyF rec_ M fn s e st := by simp [valueF, hk3]
  rw [this]
  exact fin
 ·obtain ⟨a, b, c, habc⟩ := kids3 hl3
  rcases id hk with ⟨rfl, hz⟩ | ⟨cs, rfl, hel, hcs⟩
  ·rw [hz] at habc; cases habc
  simp [ycq_r2, ycq_r4, ycq_r6, ycq_r14, ycq_r16, ycq_r18, ycq_r20, hk6]
  rw [hk6] at q0 q1 R1 F1
  have hll := hcs.hc
  rw [hl3] at hll
  have h7 : 7 ≤ cs.length := by omega
  have hE0 := hcs.hk 0 (by omega)
  have hE1 := hcs.hk 1 (by omega)
  have hE2 := hcs.hk 2 (by omega)
  simp [habc] at hE0 hE1 hE2
  generalize hl0 : cs.take 7 = l0 at hE0
  have z0 : ∀ n H, frzLA (frzA n) l0 H = (l0, H) := hE0.frz
  have k0' : 0 < e.kids.length := by omega
  have hl07 : 7 ≤ l0.length := by rw [← hl0, List.length_take]; omega
  have tk0 : List.take 7 l0 = l0 := List.take_of_length_le (by rw [← hl0, List.length_take]; omega)
  simp [ycq_r21, q0, k0', h7, hl0, hl07, tk0, z0, S.raw, hs']
  refine (rcond_ok S HE.weak hc k0 k1 R1 hs hE0 (hmk a (by simp [habc]))).mono ?_
  rintro o h2 nx2 ⟨f2, hR⟩
  have t2 := f2.n
  have F2 := F1.trans f2
  have low2 : rb.toNat < nx2.toNat := by omega
  have q02 := f2.fix R1 q0 (by omega) hn0
  have q12 := f2.fix R1 q1 (by omega) hn1
  have hval : valueF rec_ M fn s e st = truthF rec_ fn s a st fun t st => rec_ fn s (if t then b else c) { st with brs := st.brs ++ [⟨fn, e.at_, if t then 0 else 1⟩] } := by
   simp [valueF, hk6, habc]
  cases hrec : rec_ fn s a st with
  | stop x st2 =>
   rw [hrec] at hR
   obtain ⟨hx, rfl, R2⟩ := hR
   obtain ⟨br, hb2, ha2⟩ := R2.blk
   have hx' : (x == 0) = false := by simpa using hx
   have hv : valueF rec_ M fn s e st = .stop x st2 := by rw [hval, truthF, hrec]
   simp
   simp [ycq_r22, hb2, hx, hx']
   simp [ycq_r23, q12]
   refine ⟨F2.put (by omega) low, _, rfl, ?_⟩
   rw [hv]
   exact ⟨hx, ⟨_, .leaf 0 0 0 0⟩, R2.set q12 hn1⟩
  | ok v st2 =>
   rw [hrec] at hR
   obtain ⟨ht, hf⟩ := hR
   by_cases hv1 : v.k = 1
   ·obtain ⟨rfl, R2⟩ := ht hv1
    have hg := G _ _ _ _ _ _ hrec
    have hgc := hg.c
    have hgk := hg.k
    have hgb := hg.b
    have u2 := Key.toNat_succ nx2
    have hn2 : nx2 ≠ rb := fun e => by rw [e] at low2; omega
    have arm : ∀ (t : Bool), (v.n == 1) = t → ∀ tm, T.get (K 0) tm = some (.ptr rb 0) → T.get (K 1) tm = some ec → T.get (K 3) tm = some (SA fn) → T.get (K 4) tm = some (I st.calls) → T.get (K 7) tm = some (.ptr nx 0) → T.get (K 10) tm = some (.ptr nx.succ 0) → T.get (K 13) tm = some (I (if t then 0 else 1)) →
      wpC C (.seq (.staged ycq_r27 ⟨[k97, k98, k99, k100, k101, k102, k103, k104, k105, k106, k107, k108, k109, k110], []⟩) (.seq (.ops ycq_r28) .ret)) (blockPost 0 (seqPost (wpC C (.seq (.ops ycq_r36) .ret) (BodyP [.cell (K 10) true 4] (REnds rb dc L h nx (valueF rec_ M fn s e st)))) (BodyP [.cell (K 10) true 4] (REnds rb dc L h nx (valueF rec_ M fn s e st))))) tm h2 nx2 := by
     intro t hvt tm f0 f1 f3 f4 f7 f10 f13
     have w1 : wrapF .i64 1 = 1 := wrap_id (by omega) (by omega)
     have w2 : wrapF .i64 2 = 2 := wrap_id (by omega) (by omega)
     have E3 := E0 h2 nx2 (.cells [SA fn, I e.at_, I (if t then 0 else 1)] .fix)
     have R3 := R2.ext E3
     have F3 := F2.trans (Fb.ext low2 E3)
     obtain ⟨br3, hb3, ha3⟩ := R3.blk
     have hb2 : T.get rb h2 = some (.cells (rrC dc L st2 0 br3) .fix) := by rw [E3.g rb low2] at hb3; exact hb3
     obtain ⟨c', h4, nx4, hap, hcc, hcs4, e4, R4, F4⟩ := R3.addBr hb3 ha3 ⟨fn, e.at_, if t then 0 else 1⟩ hL1 (by omega)
     have hbq := ha3.beq (brsA_lits _)
     have q04 := F4.fix R3 ((E3.g nx (by omega)).trans q02) (by omega) hn0
     have q14 := F4.fix R3 ((E3.g nx.succ (by omega)).trans q12) (by omega) hn1
     have t4 := F4.n
     have hb4 : T.get rb h4 = some (.cells (rrC dc L st2 0 br3) .fix) := e4.trans hb3
     simp only [brA] at hap
     simp [-appendTo, ycq_r27, List.filter_cons, f0, f3, f7, f13, hb2, q02, hb3, hbq, hap, hcc, hcs4, hb4]
     have F5 := F3.trans F4
     have hv : valueF rec_ M fn s e st = rec_ fn s (if t then b else c) { st2 with brs := st2.brs ++ [⟨fn, e.at_, if t then 0 else 1⟩] } := by rw [hval, truthF, hrec]; simp [hv1, hvt]
     rw [hv]
     cases t with
     | true =>
      have h71 : 7 ≤ cs.length - 7 := by omega
      have k1' : 1 < e.kids.length := by omega
      generalize hl1 : (cs.drop 7).take 7 = l1 at hE1
      have z1 : ∀ n H, frzLA (frzA n) l1 H = (l1, H) := hE1.frz
      have hl17 : 7 ≤ l1.length := by rw [← hl1, List.length_take, List.length_drop]; omega
      have tk1 : List.take 7 l1 = l1 := List.take_of_length_le (by rw [← hl1, List.length_take]; omega)
      simp at q04 q14 R4 F5
      simp [ycq_r28, f0, f1, f3, f4, f7, f13, q04, k1', h71, hl1, hl17, tk1, z1, S.raw, hs', w1, w2]
      rw [← hgk]
      refine (HE.weak fn s b { st2 with brs := st2.brs ++ [⟨fn, e.at_, 0⟩] } ec l1 _ _ (by simp; omega) (by simp; omega) (by simp; omega) R4 hs hE1 (hmk b (by simp [habc]))).mono ?_
      rintro o h7 nx7 hE
      obtain ⟨v, c, rfl, hcc, hcf, q17, fin⟩ := hE.fin F5 R4 low (k := nx.succ) (by omega) (by omega) q14
      simp [f10, q17, hcc, hcf]
      exact fin
     | false =>
      have h71 : 7 ≤ cs.length - 14 := by omega
      have k1' : 2 < e.kids.length := by omega
      generalize hl1 : (cs.drop 14).take 7 = l1 at hE2
      have z1 : ∀ n H, frzLA (frzA n) l1 H = (l1, H) := hE2.frz
      have hl17 : 7 ≤ l1.length := by rw [← hl1, List.length_take, List.length_drop]; omega
      have tk1 : List.take 7 l1 = l1 := List.take_of_length_le (by rw [← hl1, List.length_take]; omega)
      simp at q04 q14 R4 F5
      simp [ycq_r28, f0, f1, f3, f4, f7, f13, q04, k1', h71, hl1, hl17, tk1, z1, S.raw, hs', w1, w2]
      rw [← hgk]
      refine (HE.weak fn s c { st2 with brs := st2.brs ++ [⟨fn, e.at_, 1⟩] } ec l1 _ _ (by simp; omega) (by simp; omega) (by simp; omega) R4 hs hE2 (hmk c (by simp [habc]))).mono ?_
      rintro o h7 nx7 hE
      obtain ⟨v, c, rfl, hcc, hcf, q17, fin⟩ := hE.fin F5 R4 low (k := nx.succ) (by omega) (by omega) q14
      simp [f10, q17, hcc, hcf]
      exact fin
    simp only [wpC_seq, wpC_ops, wpC_staged, k97, k98, k99, k100, k101, k102, k103, k104, k105, k106, k107, k108, k109, k110] at arm
    obtain ⟨br, hb2, ha2⟩ := R2.blk
    simp
    simp [ycq_r22, hb2]
    simp [ycq_r24]
    cases hvn : (v.n == 1) with
    | true =>
     simp [ycq_r25]
     simp [ycq_r26]
     refine arm true hvn _ ?_ ?_ ?_ ?_ ?_ ?_ ?_ <;> simp
    | false =>
     simp [ycq_r25]
     refine arm false hvn _ ?_ ?_ ?_ ?_ ?_ ?_ ?_ <;> simp
   ·obtain ⟨rfl, R2⟩ := hf hv1
    obtain ⟨br, hb2, ha2⟩ := R2.blk
    have hv : valueF rec_ M fn s e st = .stop 9 st2 := by rw [hval, truthF, hrec]; simp [hv1]
    simp
    simp [ycq_r22, hb2]
    simp [ycq_r23, q12]
    refine ⟨F2.put (by omega) low, _, rfl, ?_⟩
    rw [hv]
    exact ⟨by simp, ⟨_, .leaf 0 0 0 0⟩, R2.set q12 hn1⟩
 ·simp [ycq_r2, ycq_r4, ycq_r6, ycq_r14, ycq_r16, ycq_r18, ycq_r20, ycq_r29, ycq_r34, hk9]
  rw [hk9] at q0 q1 R1 F1
  simp [ycq_r36, q0, S.raw, hs', g1, g2, g3]
  have he3 := he
  rw [hk9] at he3
  refine (rop_ok S HE.weak G hc k0 k1 R1 hs he3 hmk hl2 hnm).mono ?_
  rintro o h7 nx7 hE
  obtain ⟨v, c, rfl, hcc, hcf, q17, fin⟩ := hE.fin F1 R1 low (k := nx.succ) (by omega) (by omega) q1
  simp [q17, hcc, hcf]
  have : valueF rec_ M fn s e st = opF rec_ fn s e st := by simp [valueF, hk9]
  rw [this]
  exact fin
end
end Tz
/-
 SV: how great the values are that the interpreter makes. No condition.
-/
namespace Tz
open Go.Sx Go
def zM : Nat := 8589934592
theorem lookS_mem {nm : S} : ∀ {s : Sc} {v : V}, lookS nm s = some v → ∃ x ∈ s, x.2 = v
 | [], v, h => by cases h
 | x :: s, v, h => by
  rw [lookS] at h
  split at h
  ·cases h; exact ⟨x, by simp, rfl⟩
  ·obtain ⟨y, hy, e⟩ := lookS_mem h
   exact ⟨y, List.mem_cons_of_mem _ hy, e⟩
theorem allF_len {rec_ : Rec} {fn : S} {s : Sc} : ∀ {es : List E} {st : St} {l : List V} {st' : St}, allF rec_ fn s es st = .ok l st' → l.length = es.length
 | [], st, l, st', h => by rw [allF] at h; cases h; rfl
 | e :: es, st, l, st', h => by
  rw [allF] at h
  cases h1 : rec_ fn s e st with
  | stop c st1 => rw [h1] at h; cases h
  | ok v st1 =>
   rw [h1] at h
   simp only at h
   cases h2 : allF rec_ fn s es st1 with
   | stop c st2 => rw [h2] at h; cases h
   | ok r st2 =>
    rw [h2] at h
    cases h
    simp [allF_len h2]
theorem builtF_size {nm : S} {l : List V} {st : St} {v : V} {st' : St} (hf : ∀ x ∈ l, x.size ≤ 1048576) (h : builtF nm l st = .ok v st') : v.size ≤ zM := by
 have kid : ∀ {x y : V} {o : Option V}, (if y.n < 0 then none else x.kids[y.n.toNat]?) = o → ∀ v, o = some v → v.size ≤ V.sizes x.kids := by
  intro x y o ho v hv
  subst hv
  split at ho
  ·cases ho
  ·obtain ⟨hlt, rfl⟩ := List.getElem?_eq_some_iff.1 ho
   exact size_kid hlt
 unfold builtF at h
 split at h
 ·repeat' split at h
  all_goals first | (cases h; done) | (unfold numR at h; cases h; simp [numV, V.size, V.sizes, zM])
 ·rename_i x y
  have hx := hf x (by simp)
  have hy := hf y (by simp)
  rw [V.size_eq] at hx
  repeat' split at h
  all_goals first
   | cases h; done
   | (unfold numR at h; cases h; simp [numV, V.size, V.sizes, zM]; done)
   | (cases h; rw [V.size_eq]; have := sizes_take x.kids y.n.toNat; simp only [mk_kids, zM] at *; omega)
   | (cases h; rw [V.size_eq]; have := sizes_drop x.kids y.n.toNat; simp only [mk_kids, zM] at *; omega)
   | (rename_i hk; cases h; have := kid hk _ rfl; simp only [zM]; omega)
   | (cases h; rw [V.size_eq]; simp [mk_kids, sizes_append, V.sizes, zM]; omega)
 ·rename_i x y z
  have hx := hf x (by simp)
  have hz := hf z (by simp)
  rw [V.size_eq] at hx
  repeat' split at h
  all_goals first
   | cases h; done
   | skip
  rename_i hk
  cases h
  rw [V.size_eq]
  split at hk
  ·cases hk
  ·obtain ⟨hlt, _⟩ := List.getElem?_eq_some_iff.1 hk
   have := sizes_set hlt z
   simp only [mk_kids, zM] at *; omega
 ·cases h
section
variable {L : Lim} {rec_ : Rec} (G : GoodR L rec_)
include G
theorem rec_size {fn : S} {s : Sc} {e : E} {st : St} {v : V} {st' : St} (h : rec_ fn s e st = .ok v st') : v.size ≤ zM := by
 have := (G _ _ _ _ _ _ h).f.z
 simp only [zM]; omega
theorem joinR_size {k : Int} {nm : S} {fn : S} {s : Sc} {es : List E} {st : St} {v : V} {st' : St} (hl : es.length ≤ 4000) (h : joinR k nm (allF rec_ fn s es st) = .ok v st') : v.size ≤ zM := by
 cases h1 : allF rec_ fn s es st with
 | stop c st1 => rw [h1] at h; cases h
 | ok l st1 =>
  rw [h1] at h
  cases h
  rw [V.size_eq]
  have := sizes_le (l := l) (z := 1048576) fun v hv => (allF_fit G h1 v hv).z
  have hl2 := allF_len h1
  simp only [mk_kids, zM]; omega
theorem boolR_size {b : Bool} {st : St} {v : V} {st' : St} (h : boolR b st = .ok v st') : v.size ≤ zM := by unfold boolR at h; cases h; simp [boolV, V.size, V.sizes, zM]
theorem numR_size {b : Int} {st : St} {v : V} {st' : St} (h : numR b st = .ok v st') : v.size ≤ zM := by unfold numR at h; cases h; simp [numV, V.size, V.sizes, zM]
theorem opF_size {fn : S} {s : Sc} {e : E} {st : St} {v : V} {st' : St} (h : opF rec_ fn s e st = .ok v st') : v.size ≤ zM := by
 unfold opF at h
 split at h
 ·split at h
  ·obtain ⟨t, st1, m, h⟩ := truthF_mono G h
   exact boolR_size G h
  ·cases h
 split at h
 ·split at h
  ·obtain ⟨t, st1, m, h⟩ := truthF_mono G h
   split at h
   ·obtain ⟨t2, st2, m2, h⟩ := truthF_mono G h
    exact boolR_size G h
   ·exact boolR_size G h
  ·cases h
 split at h
 ·split at h
  ·obtain ⟨t, st1, m, h⟩ := truthF_mono G h
   split at h
   ·exact boolR_size G h
   ·obtain ⟨t2, st2, m2, h⟩ := truthF_mono G h
    exact boolR_size G h
  ·cases h
 split at h
 ·split at h
  ·rename_i a b _
   cases h1 : rec_ fn s a st with
   | stop c st1 => rw [h1] at h; cases h
   | ok x st1 =>
    rw [h1] at h
    simp only at h
    cases h2 : rec_ fn s b st1 with
    | stop c st2 => rw [h2] at h; cases h
    | ok y st2 =>
     rw [h2] at h
     simp only at h
     repeat' split at h
     all_goals first | exact boolR_size G h | exact numR_size G h | cases h
  ·cases h
 ·cases h
theorem valueF_size {M : Md} {fn : S} {s : Sc} {e : E} {st : St} {v : V} {st' : St} (hl : e.kids.length ≤ 4000) (hz : ∀ x ∈ s, x.2.size ≤ 1073741824) (h : valueF rec_ M fn s e st = .ok v st') : v.size ≤ zM := by
 unfold valueF at h
 split at h
 ·exact numR_size G h
 split at h
 ·split at h
  ·exact boolR_size G h
  ·cases h
 split at h
 ·split at h
  ·rename_i hk
   cases h
   obtain ⟨x, hx, rfl⟩ := lookS_mem hk
   have := hz x hx
   simp only [zM]; omega
  ·cases h
 split at h
 ·unfold applyF at h
  split at h
  ·split at h
   ·cases h1 : allF rec_ fn s e.kids st with
    | stop c st1 => rw [h1] at h; cases h
    | ok l st1 =>
     rw [h1] at h
     exact builtF_size (fun x hx => (allF_fit G h1 x hx).z) h
   ·cases h
  ·split at h
   ·cases h
   ·split at h
    ·cases h1 : allF rec_ fn s e.kids st with
     | stop c st1 => rw [h1] at h; cases h
     | ok l st1 =>
      rw [h1] at h
      simp only [callF] at h
      split at h
      ·cases h
      ·rename_i f _ _ _
       cases h2 : rec_ f.name (bindS f.params l []) f.body { st1 with calls := st1.calls + 1 } with
       | stop c st2 => rw [h2] at h; cases h
       | ok x st2 => rw [h2] at h; cases h; exact rec_size G h2
    ·cases h
 split at h
 ·split at h
  ·cases h
  ·split at h
   ·exact joinR_size G hl h
   ·cases h
 split at h
 ·exact joinR_size G hl h
 split at h
 ·split at h
  ·obtain ⟨t, st1, m, h⟩ := truthF_mono G h
   exact rec_size G h
  ·cases h
 split at h
 ·split at h
  ·rename_i a b _
   cases h1 : rec_ fn s a st with
   | stop c st1 => rw [h1] at h; cases h
   | ok x st1 =>
    rw [h1] at h
    exact rec_size G h
  ·cases h
 split at h
 ·unfold matchF at h
  split at h
  ·cases h
  ·rename_i k0 ks _
   split at h
   ·cases h1 : rec_ fn s k0 st with
    | stop c st1 => rw [h1] at h; cases h
    | ok x st1 =>
     rw [h1] at h
     simp only at h
     split at h
     ·cases h
     ·split at h
      ·cases h
      ·split at h
       ·split at h
        ·exact rec_size G h
        ·cases h
       ·cases h
   ·cases h
 split at h
 ·exact opF_size G h
 ·cases h
end
end Tz
/-
 SV: the reference's evaluation. No condition.
-/
namespace Tz
open Go.Sx Go
theorem IsE.iscells {l : List AV} {e : E} (h : IsE l e) : ∀ x ∈ l, AV.isCell x = true := by
 obtain ⟨cn, cb, ck, rfl, hn, hb, hk, _⟩ := h.cells
 have c1 : cn.isCell = true := by rcases hn with ⟨rfl, _⟩ | rfl <;> rfl
 have c2 : cb.isCell = true := by rcases hb with ⟨rfl, _⟩ | ⟨_, rfl, _⟩ <;> rfl
 have c3 : ck.isCell = true := by rcases hk with ⟨rfl, _⟩ | ⟨_, rfl, _⟩ <;> rfl
 intro x hx
 simp at hx
 rcases hx with rfl | rfl | rfl | rfl | rfl | rfl | rfl
 ·rfl
 ·rfl
 ·rfl
 ·exact c1
 ·exact c2
 ·exact c3
 ·rfl
section
variable {C : Cfg} (S : Std C) {rb : Key} {dc : AV} {L : Lim} {rec_ : Rec} {c0 : Int} (HE : RvOKz C rb dc L rec_ (c0 + 1)) (G : GoodR L rec_) {ds : List Dl} {M : Md} (HM : RMod dc ds M) (HL : Lims L)
include S HE G HM HL
theorem reval_call {fn : Go.Sx.S} {s : Sc} {e : E} {st : St} {ec : AV} {le : List AV} {h : T Blk} {nx : Key} (hc : c0 ≤ st.cf) (k0 : 0 ≤ st.calls) (k1 : st.calls ≤ 256) (hr : RR rb dc L st 0 h nx) (hs : REnv ec s.reverse) (he : IsE le e) (hm : Sm e) :
  CallA C n_ycg [.ptr rb 0, ec, .agg le, SA fn, I st.calls] h nx (REndsZ rb dc L h nx (evalF rec_ L M fn s e st)) := by
 have hs' : ∀ n h, frzA n ec h = (ec, h) := hs.stb
 have hl7 : le.length = 7 := by obtain ⟨cn, cb, ck, rfl, _⟩ := he.cells; rfl
 have hl7' : 7 ≤ le.length := by omega
 have tk : le.take 7 = le := List.take_of_length_le (by omega)
 have fz : ∀ n H, frzLA (frzA n) le H = (le, H) := he.frz
 have hcel : le.all AV.isCell = true := List.all_eq_true.2 he.iscells
 have low := hr.low
 have s1 := Key.toNat_succ nx
 have s2 := Key.toNat_succ nx.succ
 have hn0 : nx ≠ rb := fun e => by rw [e] at s1 low; omega
 have hn1 : nx.succ ≠ rb := fun e => by rw [← e] at low; omega
 have e1 := (E0 h nx (.cells le .fix)).trans (E0 _ nx.succ (.cells z4 .fix))
 have R1 := hr.ext e1
 have F1 := Fb.ext low e1
 have q0 : T.get nx (T.set nx.succ (some (.cells z4 .fix)) (T.set nx (some (.cells le .fix)) h)) = some (.cells le .fix) := by rw [get_lt (by omega)]; exact T.get_set_same _ _ _
 have q1 : T.get nx.succ (T.set nx.succ (some (.cells z4 .fix)) (T.set nx (some (.cells le .fix)) h)) = some (.cells z4 .fix) := T.get_set_same _ _ _
 obtain ⟨br, hb1, ha1⟩ := R1.blk
 have f1 := HL.f1
 have f0 := HL.f0
 have c00 := hr.c0
 have c01 := hr.c1
 have nb := hr.nb
 refine S.c_ycg.call ?_
 simp [ycg]
 simp [-List.all_eq_true, ycg_r0, hcel]
 simp [ycg_r1, hb1]
 by_cases hfu : L.fuel ≤ st.cf
 ·have hfu' : ¬ st.cf < L.fuel := by omega
  simp [ycg_r3, hb1, hfu, hfu']
  simp [ycg_r4, S.raw]
  refine (rendb_ok S 15 R1).mono ?_
  rintro o h3 nx3 ⟨rfl, f3, R3⟩
  simp at R3
  have q3 := f3.fix R1 q1 (by omega) hn1
  simp [tupled]
  simp [ycg_r5, q3]
  refine ⟨(F1.trans f3).put (by omega) low, _, rfl, ?_⟩
  simp [evalF, hfu]
  exact R3.set q3 hn1
 ·have hfu' : st.cf < L.fuel := by omega
  have hw : wrapF .i64 (st.cf + 1) = st.cf + 1 := wrap_id (by omega) (by omega)
  simp [ycg_r3, hb1, hfu, hfu']
  simp [ycg_r6, hb1, hw]
  have R2 : RR rb dc L { st with cf := st.cf + 1 } 0 (T.set rb (some (.cells (rrC dc L { st with cf := st.cf + 1 } 0 br) .fix)) (T.set nx.succ (some (.cells z4 .fix)) (T.set nx (some (.cells le .fix)) h))) nx.succ.succ :=
   R1.nums hb1 ha1 rfl (by simp; omega) (by simp; omega) (by simp; omega) R1.b0
  have F2 : Fb rb h nx (T.set rb (some (.cells (rrC dc L { st with cf := st.cf + 1 } 0 br) .fix)) (T.set nx.succ (some (.cells z4 .fix)) (T.set nx (some (.cells le .fix)) h))) nx.succ.succ := F1.trans (Fb.num hb1)
  have q02 : T.get nx (T.set rb (some (.cells (rrC dc L { st with cf := st.cf + 1 } 0 br) .fix)) (T.set nx.succ (some (.cells z4 .fix)) (T.set nx (some (.cells le .fix)) h))) = some (.cells le .fix) := by rw [T.get_set_ne _ _ _ _ hn0]; exact q0
  have q12 : T.get nx.succ (T.set rb (some (.cells (rrC dc L { st with cf := st.cf + 1 } 0 br) .fix)) (T.set nx.succ (some (.cells z4 .fix)) (T.set nx (some (.cells le .fix)) h))) = some (.cells z4 .fix) := by rw [T.get_set_ne _ _ _ _ hn1]; exact q1
  generalize T.set rb (some (.cells (rrC dc L { st with cf := st.cf + 1 } 0 br) .fix)) (T.set nx.succ (some (.cells z4 .fix)) (T.set nx (some (.cells le .fix)) h)) = h2 at *
  simp [ycg_r7, q02, hl7', tk, fz, S.raw]
  obtain ⟨_, hsk, hmk⟩ := id hm
  refine (rformed_ok S he hsk _ _).mono ?_
  rintro o h3 nx3 ⟨rfl, e3⟩
  have t3 := e3.n
  have R3 := R2.ext e3
  have F3 := F2.trans (Fb.ext (rb := rb) (by omega) e3)
  have q03 := (e3.g nx (by omega)).trans q02
  have q13 := (e3.g nx.succ (by omega)).trans q12
  simp
  simp [ycg_r10, q03, hl7', tk, fz, S.raw, hs']
  refine (rstep_ok S HE G HM (st := { st with cf := st.cf + 1 }) f1 (by simp; omega) (by simp; omega) k0 k1 R3 hs he hm).mono ?_
  rintro o h4 nx4 ⟨f4, lv, rfl, hR⟩
  have t4 := f4.n
  have F4 := F3.trans f4
  have q14 := f4.fix R3 q13 (by omega) hn1
  have hkl : e.kids.length ≤ 4000 := by
   obtain ⟨_, _, _, _, _, _, hk, _⟩ := he.cells
   rcases hk with ⟨_, hz⟩ | ⟨_, _, hl, _⟩
   ·rw [hz]; simp
   ·exact hl
  cases hval : valueF rec_ M fn s e { st with cf := st.cf + 1 } with
  | stop x st2 =>
   rw [hval] at hR
   obtain ⟨hx, ⟨v, hv⟩, R4⟩ := hR
   have hx' : (x == 0) = false := by simpa using hx
   obtain ⟨c, rfl, hK⟩ := hv.cells
   have hcc := IsK.cell hK
   have u4 := Key.toNat_succ nx4
   have e5 := E0 h4 nx4 (.cells [I v.k, I v.n, .str v.a v.b, c] .fix)
   have R5 := R4.ext e5
   have F5 := F4.trans (Fb.ext (rb := rb) (by omega) e5)
   have q15 := (e5.g nx.succ (by omega)).trans q14
   obtain ⟨br5, hb5, ha5⟩ := R5.blk
   have hn4 : nx4 ≠ nx.succ := fun e => by rw [e] at t4; omega
   simp [hcc]
   simp [ycg_r11, hb5, hx, hx']
   simp [ycg_r12, q15]
   refine ⟨F5.put (by omega) low, _, rfl, ?_⟩
   simp [evalF, hfu, hval]
   exact ⟨hx, R5.set q15 hn1⟩
  | ok v st2 =>
   rw [hval] at hR
   obtain ⟨hv, R4⟩ := hR
   have hvz := valueF_size G hkl (fun x hx => hs.z x (by simpa using hx)) hval
   obtain ⟨c, rfl, hK⟩ := id hv.cells
   have hcc := IsK.cell hK
   have hcf : ∀ n h, frzA n c h = (c, h) := IsK.stb hK
   have u4 := Key.toNat_succ nx4
   have e5 := E0 h4 nx4 (.cells [I v.k, I v.n, .str v.a v.b, c] .fix)
   have R5 := R4.ext e5
   have F5 := F4.trans (Fb.ext (rb := rb) (by omega) e5)
   have q15 := (e5.g nx.succ (by omega)).trans q14
   have q45 : T.get nx4 (T.set nx4 (some (.cells [I v.k, I v.n, .str v.a v.b, c] .fix)) h4) = some (.cells [I v.k, I v.n, .str v.a v.b, c] .fix) := T.get_set_same _ _ _
   obtain ⟨br5, hb5, ha5⟩ := R5.blk
   have hn4 : nx4 ≠ rb := fun e => by rw [e] at t4; omega
   simp [hcc]
   simp [ycg_r11, hb5]
   generalize T.set nx4 (some (.cells [I v.k, I v.n, .str v.a v.b, c] .fix)) h4 = h5 at *
   simp [ycg_r13, q45, S.raw, hcf]
   refine (rsize_ok S hv (by simp only [zM] at hvz; omega) _ _).mono ?_
   rintro o h6 nx6 ⟨rfl, e6⟩
   have t6 := e6.n
   have R6 := R5.ext e6
   have F6 := F5.trans (Fb.ext (rb := rb) (by omega) e6)
   have q16 := (e6.g nx.succ (by omega)).trans q15
   have q46 := (e6.g nx4 (by omega)).trans q45
   obtain ⟨br6, hb6, ha6⟩ := R6.blk
   have b06 := R6.b0
   simp
   have rest : ∀ tm, T.get (K 0) tm = some (.ptr rb 0) → T.get (K 10) tm = some (.ptr nx.succ 0) → T.get (K 11) tm = some (.ptr nx4 0) → T.get (K 12) tm = some (I v.size) →
     wpC C (.seq (.seq (.ops ycg_r15) (.cond (.t (K 88)) (.seq (.ops ycg_r16) (.seq (.ops ycg_r17) .ret)) .skip)) (.seq (.ops ycg_r18) .ret))
      (BodyP [.cell (K 10) true 4] (REndsZ rb dc L h nx (evalF rec_ L M fn s e st))) tm (T.set rb (some (.cells (rrC dc L { st2 with cb := max st2.cb v.size } 0 br6) .fix)) h6) nx6 := by
    intro tm g0 g10 g11 g12
    have R7 : RR rb dc L { st2 with cb := max st2.cb v.size } 0 (T.set rb (some (.cells (rrC dc L { st2 with cb := max st2.cb v.size } 0 br6) .fix)) h6) nx6 := R6.nums hb6 ha6 rfl R6.c0 R6.c1 R6.nb (by simp; omega)
    have F7 : Fb rb h nx (T.set rb (some (.cells (rrC dc L { st2 with cb := max st2.cb v.size } 0 br6) .fix)) h6) nx6 := F6.trans (Fb.num hb6)
    have q17 : T.get nx.succ (T.set rb (some (.cells (rrC dc L { st2 with cb := max st2.cb v.size } 0 br6) .fix)) h6) = some (.cells z4 .fix) := by rw [T.get_set_ne _ _ _ _ hn1]; exact q16
    have q47 : T.get nx4 (T.set rb (some (.cells (rrC dc L { st2 with cb := max st2.cb v.size } 0 br6) .fix)) h6) = some (.cells [I v.k, I v.n, .str v.a v.b, c] .fix) := by rw [T.get_set_ne _ _ _ _ hn4]; exact q46
    have hb7 : T.get rb (T.set rb (some (.cells (rrC dc L { st2 with cb := max st2.cb v.size } 0 br6) .fix)) h6) = some (.cells (rrC dc L { st2 with cb := max st2.cb v.size } 0 br6) .fix) := T.get_set_same _ _ _
    generalize T.set rb (some (.cells (rrC dc L { st2 with cb := max st2.cb v.size } 0 br6) .fix)) h6 = h7 at *
    have stops : (L.room < v.size ∨ (v.k = 2 ∧ 256 < v.kids.length)) → ∀ tm', T.get (K 0) tm' = some (.ptr rb 0) → T.get (K 10) tm' = some (.ptr nx.succ 0) →
      wpC C (.seq (.ops ycg_r16) (.seq (.ops ycg_r17) .ret)) (seqPost (wpC C (.seq (.ops ycg_r18) .ret) (BodyP [.cell (K 10) true 4] (REndsZ rb dc L h nx (evalF rec_ L M fn s e st)))) (BodyP [.cell (K 10) true 4] (REndsZ rb dc L h nx (evalF rec_ L M fn s e st)))) tm' h7 nx6 := by
     intro hh tm' j0 j10
     simp [ycg_r16, j0, S.raw]
     refine (rendb_ok S 16 R7).mono ?_
     rintro o h8 nx8 ⟨rfl, f8, R8⟩
     simp at R8
     have q18 := f8.fix R7 q17 (by omega) hn1
     simp [tupled]
     simp [ycg_r17, j10, q18]
     refine ⟨(F7.trans f8).put (by omega) low, _, rfl, ?_⟩
     simp [evalF, hfu, hval, hh]
     exact R8.set q18 hn1
    have good : ¬ (L.room < v.size ∨ (v.k = 2 ∧ 256 < v.kids.length)) → ∀ tm', T.get (K 10) tm' = some (.ptr nx.succ 0) → T.get (K 11) tm' = some (.ptr nx4 0) →
      wpC C (.seq (.ops ycg_r18) .ret) (BodyP [.cell (K 10) true 4] (REndsZ rb dc L h nx (evalF rec_ L M fn s e st))) tm' h7 nx6 := by
     intro hh tm' j10 j11
     simp [ycg_r18, j10, j11, q17, q47, hcc, hcf]
     refine ⟨F7.put (by omega) low, _, rfl, ?_⟩
     simp [evalF, hfu, hval, hh]
     exact ⟨hv, R7.set q17 hn1⟩
    simp only [wpC_seq, wpC_ops] at stops good
    by_cases hroom : L.room < v.size
    ·simp [ycg_r15, g0, g11, g12, hb7, hroom]
     exact stops (.inl hroom) _ (by simp [g0]) (by simp [g10])
    ·by_cases hk2 : v.k = 2
     ·have hk2' : (v.k == 2) = true := by simpa using hk2
      rcases id hK with ⟨rfl, hx⟩ | ⟨cs, rfl, hvl, hcs⟩
      ·simp [ycg_r15, g0, g11, g12, hb7, hroom, q47, hk2']
       refine good ?_ _ (by simp [g10]) (by simp [g11])
       simp [hroom, hx]
      ·by_cases hl : 256 < v.kids.length
       ·have hl' : (256 : Int) < v.kids.length := by omega
        simp [ycg_r15, g0, g11, g12, hb7, hroom, q47, hk2', hl, hl']
        exact stops (.inr ⟨hk2, hl⟩) _ (by simp [g0]) (by simp [g10])
       ·have hl' : ¬ (256 : Int) < v.kids.length := by omega
        simp [ycg_r15, g0, g11, g12, hb7, hroom, q47, hk2', hl, hl']
        refine good ?_ _ (by simp [g10]) (by simp [g11])
        simp [hroom, hl]
     ·have hk2' : (v.k == 2) = false := by simpa using hk2
      simp [ycg_r15, g0, g11, g12, hb7, hroom, q47, hk2']
      refine good ?_ _ (by simp [g10]) (by simp [g11])
      simp [hroom, hk2]
   by_cases hlt : st2.cb < (v.size : Int)
   ·have hm' : max st2.cb (v.size : Int) = v.size := Int.max_eq_right (by omega)
    simp [ycg_r14, hb6, hlt]
    have := rest
    simp [hm'] at this
    refine this _ ?_ ?_ ?_ ?_ <;> simp
   ·have hm' : max st2.cb (v.size : Int) = st2.cb := Int.max_eq_left (by omega)
    simp [ycg_r14, hb6, hlt]
    have := rest
    simp [hm'] at this
    refine this _ ?_ ?_ ?_ ?_ <;> simp
end
theorem rev_ok {C : Cfg} (S : Std C) {rb : Key} {dc : AV} {L : Lim} {ds : List Dl} {M : Md} (HM : RMod dc ds M) (HL : Lims L) : ∀ (n : Nat) (c0 : Int), L.fuel - c0 < n → RvOKz C rb dc L (ev L M n) c0
 | 0, c0, hn => by
  intro fn s e st ec le h nx hc k0 k1 hr hs he hm
  have := hr.c1
  simp at hn
  omega
 | n + 1, c0, hn => by
  intro fn s e st ec le h nx hc k0 k1 hr hs he hm
  have IH := rev_ok S (rb := rb) HM HL n (c0 + 1) (by omega)
  exact reval_call S IH (ev_good HL M n) HM HL hc k0 k1 hr hs he hm
end Tz
/-
 SV: the reference's runs, as a whole. No condition.
-/
namespace Tz
open Go.Sx Go
theorem IsApp.frzE {c : AV} {l : List Br} {h : T Blk} {nx n0 : Key} (ha : IsApp c (brsA l) l.length 3 h nx) (ho : ∀ b, OwnC c b → n0.toNat ≤ b.toNat) (n : Nat) : IsBrs0 (frzA (n + 1) c h).1 l ∧ ∀ b : Key, b.toNat < n0.toNat → T.get b (frzA (n + 1) c h).2 = T.get b h := by
 obtain ⟨z1, z2⟩ := ha.fastN ho (brsA_stb l) n
 refine ⟨?_, z2⟩
 rcases z1 with ⟨e1, e2, e3⟩ | e1
 ·exact .inl ⟨e1, List.eq_nil_of_length_eq_zero e3⟩
 ·exact .inr e1
section
variable {C : Cfg} (S : Std C)
include S
theorem rnew_ok {dc : AV} (hd : Stb dc) (hdc : dc.isCell = true) (fu ro se att : Int) (h : T Blk) (nx : Key) :
  CallA C n_yce [.agg [dc], .agg [I fu, I ro], .agg [I se, I att]] h nx (fun o h' nx' => ∃ rb, o = .ret (.ptr rb 0) ∧ nx.toNat ≤ rb.toNat ∧ rb.toNat < nx'.toNat ∧ T.get rb h' = some (.cells (rrC dc (clampL fu ro se att) st0 0 .nils) .fix) ∧ Ext h nx h' nx') := by
 have hd' : ∀ n h, frzA n dc h = (dc, h) := hd
 have s1 := Key.toNat_succ nx
 have s2 := Key.toNat_succ nx.succ
 have s3 := Key.toNat_succ nx.succ.succ
 have s4 := Key.toNat_succ nx.succ.succ.succ
 refine S.c_yce.call ?_
 simp [yce]
 simp [yce_r0, hdc]
 have e3 : Ext h nx (T.set nx.succ.succ (some (.cells [I se, I att] .fix)) (T.set nx.succ (some (.cells [I fu, I ro] .fix)) (T.set nx (some (.cells [dc] .fix)) h))) nx.succ.succ.succ := ((E0 _ _ _).trans (E0 _ _ _)).trans (E0 _ _ _)
 have cf : (fu < 0 ∧ ¬ 1048576 < fu ∧ min (max fu 0) 1048576 = 0) ∨ (¬ fu < 0 ∧ ¬ 1048576 < fu ∧ min (max fu 0) 1048576 = fu) ∨ (¬ fu < 0 ∧ 1048576 < fu ∧ min (max fu 0) 1048576 = 1048576) := by omega
 have cr : (ro < 0 ∧ ¬ 1024 < ro ∧ min (max ro 0) 1024 = 0) ∨ (¬ ro < 0 ∧ ¬ 1024 < ro ∧ min (max ro 0) 1024 = ro) ∨ (¬ ro < 0 ∧ 1024 < ro ∧ min (max ro 0) 1024 = 1024) := by omega
 rcases cf with ⟨a1, a2, a3⟩ | ⟨a1, a2, a3⟩ | ⟨a1, a2, a3⟩ <;> rcases cr with ⟨b1, b2, b3⟩ | ⟨b1, b2, b3⟩ | ⟨b1, b2, b3⟩ <;>
  simp [yce_r1, hdc, hd', a1, a2, b1, b2, clampL, a3, b3, st0] <;>
  exact ⟨by omega, e3.trans (E0 _ _ _)⟩
theorem REndsZ.out {rb : Key} {dc : AV} {L : Lim} {h h' : T Blk} {nx nx' : Key} {r : Res} {o : Out} (H : REndsZ rb dc L h nx r o h' nx') (h0 : T.get rb h = some (.cells (rrC dc L st0 0 .nils) .fix)) (HL : Lims L) :
  ∃ (v : V) (c br : AV) (st : St) (x : Int), o = .ret (.agg [I v.k, I v.n, .str v.a v.b, c]) ∧ IsK c v.kids ∧ T.get rb h' = some (.cells (rrC dc L st x br) .fix) ∧ rb.toNat < nx'.toNat ∧ IsApp br (brsA st.brs) st.brs.length 3 h' nx' ∧ (∀ b, OwnC br b → nx.toNat ≤ b.toNat) ∧ (∀ cb, IsBrs0 cb st.brs → ResOut r (.ret (.tuple [.agg [I v.k, I v.n, .str v.a v.b, c], .agg [I st.cf, I st.cb, I st.fl], cb, I x]))) := by
 obtain ⟨f, lv, rfl, hR⟩ := H
 have own : ∀ {st : St} {x : Int} {br : AV}, T.get rb h' = some (.cells (rrC dc L st x br) .fix) → ∀ b, OwnC br b → nx.toNat ≤ b.toNat := by
  intro st x br hb b o
  by_cases hlt : b.toNat < nx.toNat
  ·obtain ⟨l, k, c, g1, g2, g3⟩ := f.o b hlt ⟨_, _, br, hb, by simp, o⟩
   rw [h0] at g1
   cases g1
   simp at g2
   subst g2
   exact own_nils g3
  ·omega
 cases r with
 | ok v st =>
  obtain ⟨hv, R⟩ := hR
  obtain ⟨br, hb, ha⟩ := R.blk
  obtain ⟨c, rfl, hK⟩ := hv.cells
  have bz : st.brs.length ≤ 1048576 := by have := R.nb; have := R.c1; have := HL.f1; omega
  exact ⟨v, c, br, st, 0, rfl, hK, hb, R.low, ha, own hb, fun cb hcb => ⟨_, cb, hv, ⟨hcb, bz⟩, rfl⟩⟩
 | stop x st =>
  obtain ⟨hx, rfl, R⟩ := hR
  obtain ⟨br, hb, ha⟩ := R.blk
  have bz : st.brs.length ≤ 1048576 := by have := R.nb; have := R.c1; have := HL.f1; omega
  exact ⟨.mk 0 0 0 0 [], .nils, br, st, x, rfl, .inl ⟨rfl, rfl⟩, hb, R.low, ha, own hb, fun cb hcb => ⟨cb, ⟨hcb, bz⟩, rfl⟩⟩
theorem rexpr_ok {dc ec : AV} {ds : List Dl} {M : Md} (HM : RMod dc ds M) {s : Sc} {e : E} {le : List AV} (hs : REnv ec s.reverse) (he : IsE le e) (hm : Sm e) (fu ro se att : Int) {gas : Nat} (hgas : (clampL fu ro se att).fuel < gas) :
  Pur C n_ycd [.agg [dc], ec, .agg le, .agg [I fu, I ro], .agg [I se, I att]] (ResOut (ev (clampL fu ro se att) M gas (0, 0) s e st0)) := by
 intro h nx
 have hd : Stb dc := HM.row.stb
 have hd' : ∀ n h, frzA n dc h = (dc, h) := hd
 have hdc : dc.isCell = true := by rcases HM.row with ⟨rfl, _⟩ | ⟨_, rfl, _⟩ <;> rfl
 have hs' : ∀ n h, frzA n ec h = (ec, h) := hs.stb
 have hl7 : le.length = 7 := by obtain ⟨cn, cb, ck, rfl, _⟩ := he.cells; rfl
 have hl7' : 7 ≤ le.length := by omega
 have tk : le.take 7 = le := List.take_of_length_le (by omega)
 have fz : ∀ n H, frzLA (frzA n) le H = (le, H) := he.frz
 have hcel : le.all AV.isCell = true := List.all_eq_true.2 he.iscells
 have s1 := Key.toNat_succ nx
 have s2 := Key.toNat_succ nx.succ
 have s3 := Key.toNat_succ nx.succ.succ
 have s4 := Key.toNat_succ nx.succ.succ.succ
 have s5 := Key.toNat_succ nx.succ.succ.succ.succ
 have s6 := Key.toNat_succ nx.succ.succ.succ.succ.succ
 refine S.c_ycd.call ?_
 simp [ycd]
 simp [-List.all_eq_true, ycd_r0, hdc, hcel]
 simp [ycd_r1, hd', S.raw]
 refine (rnew_ok S hd hdc fu ro se att _ _).mono ?_
 rintro o h1 nx1 ⟨rb, rfl, hrb, hlt, hg, e1⟩
 have t1 := e1.n
 have q1 := e1.g nx.succ (by omega)
 have q4 := e1.g nx.succ.succ.succ.succ (by omega)
 have q5 := e1.g nx.succ.succ.succ.succ.succ (by omega)
 simp at q1 q4 q5
 have E1 : Ext h nx h1 nx1 := ⟨by omega, fun b hb => by
  rw [e1.g b (by omega)]
  simp (disch := omega) only [get_lt (α := Blk)]⟩
 have R1 : RR rb dc (clampL fu ro se att) st0 0 h1 nx1 := ⟨⟨.nils, hg, .inl ⟨rfl, rfl, rfl⟩⟩, hlt, by simp [st0], by have := (clamp_lims fu ro se att).f0; simpa [st0] using this, by simp [st0], by simp [st0]⟩
 simp
 simp [ycd_r2, q1, hl7', tk, fz, S.raw, hs']
 refine (rev_ok S HM (clamp_lims fu ro se att) gas 0 (by omega) (0, 0) s e st0 ec le _ _ (by simp [st0]) (by simp [st0]) (by simp [st0]) R1 hs he hm).mono ?_
 rintro o h2 nx2 H
 have f2 := H.1
 have t2 := f2.n
 obtain ⟨v, c, br, st, x, rfl, hK, hb2, hl2, ha2, ho2, hO⟩ := H.out S hg (clamp_lims fu ro se att)
 have hcc := IsK.cell hK
 have hcf : ∀ n h, frzA n c h = (c, h) := IsK.stb hK
 have n4 : nx.succ.succ.succ.succ ≠ rb := fun e => by rw [← e] at hrb; omega
 have n5 : nx.succ.succ.succ.succ.succ ≠ rb := fun e => by rw [← e] at hrb; omega
 have p4 := f2.fix R1 q4 (by omega) n4
 have p5 := f2.fix R1 q5 (by omega) n5
 have u2 := Key.toNat_succ nx2
 have g2 : ∀ (k : Key) (B : Option Blk), k.toNat < nx2.toNat → T.get k (T.set nx2 B h2) = T.get k h2 := fun k B hk => get_lt hk
 have hb3 := (g2 rb (some (.cells [I v.k, I v.n, .str v.a v.b, c] .fix)) hl2).trans hb2
 have p43 := (g2 _ (some (.cells [I v.k, I v.n, .str v.a v.b, c] .fix)) (by omega)).trans p4
 have p53 := (g2 _ (some (.cells [I v.k, I v.n, .str v.a v.b, c] .fix)) (by omega)).trans p5
 have ha3 := ha2.keep (nx' := nx2.succ) (h' := T.set nx2 (some (.cells [I v.k, I v.n, .str v.a v.b, c] .fix)) h2) (by omega) fun b hb _ => g2 b _ hb
 have hbq := ha2.beq (brsA_lits _)
 simp [hcc]
 have r4 : ∀ (B : Option Blk) (H : T Blk), T.get rb (T.set nx.succ.succ.succ.succ B H) = T.get rb H := fun B H => T.get_set_ne _ _ _ _ (Ne.symm n4)
 have r5 : ∀ (B : Option Blk) (H : T Blk), T.get rb (T.set nx.succ.succ.succ.succ.succ B H) = T.get rb H := fun B H => T.get_set_ne _ _ _ _ (Ne.symm n5)
 have p23 : T.get nx2 (T.set nx2 (some (.cells [I v.k, I v.n, .str v.a v.b, c] .fix)) h2) = some (.cells [I v.k, I v.n, .str v.a v.b, c] .fix) := T.get_set_same _ _ _
 have g3 : ∀ k : Key, k.toNat < nx2.toNat → T.get k (T.set nx2 (some (.cells [I v.k, I v.n, .str v.a v.b, c] .fix)) h2) = T.get k h2 := fun k hk => get_lt hk
 generalize T.set nx2 (some (.cells [I v.k, I v.n, .str v.a v.b, c] .fix)) h2 = h3 at *
 simp [ycd_r3, List.filter_cons, hb3, p43, p53, p23, r4, r5, hcc, hcf, hbq, AV.beq, AV.beqs, SI.beq]
 have k4 : ∀ (B B' : Blk) (b : Key), (T.get b h3 = some .tok ∨ ∃ l, T.get b h3 = some (.cells l .part)) → T.get b (T.set nx.succ.succ.succ.succ.succ (some B') (T.set nx.succ.succ.succ.succ (some B) h3)) = T.get b h3 := by
  intro B B' b hb
  have e4 : b ≠ nx.succ.succ.succ.succ := by rintro rfl; rw [p43] at hb; rcases hb with hb | ⟨l, hb⟩ <;> cases hb
  have e5 : b ≠ nx.succ.succ.succ.succ.succ := by rintro rfl; rw [p53] at hb; rcases hb with hb | ⟨l, hb⟩ <;> cases hb
  rw [T.get_set_ne _ _ _ _ e5, T.get_set_ne _ _ _ _ e4]
 have ha4 := ha3.keep (Nat.le_refl _) fun b _ hb => k4 (.cells [I v.k, I v.n, .str v.a v.b, c] .fix) (.cells [I st.cf, I st.cb, I st.fl] .fix) b hb
 obtain ⟨z1, z2⟩ := ha4.frzE (n0 := nx1) ho2 7
 refine ⟨hO _ z1, by omega, fun b hb => ?_⟩
 rw [z2 b (by omega), get_lt (by omega), get_lt (by omega), g3 b (by omega), f2.g b (by omega) (fun e => by rw [e] at hb; omega) ?_, E1.g b hb]
 rintro ⟨l, k, c, w1, w2, w3⟩
 rw [hg] at w1
 cases w1
 simp at w2
 subst w2
 exact own_nils w3
theorem rcalls_ok {dc cv : AV} {ds : List Dl} {M : Md} (HM : RMod dc ds M) {nm : Go.Sx.S} {d : Dl} {vs : List V} (hfd : findD 1 nm ds = some d) (hv : IsK cv vs) (hl : d.f.params.length = vs.length) (hz : ∀ v ∈ vs, v.size ≤ 1073741824) (fu ro se att : Int) {gas : Nat} (hgas : (clampL fu ro se att).fuel < gas) :
  Pur C n_ycb [.agg [dc], SA nm, cv, .agg [I fu, I ro], .agg [I se, I att]] (ResOut (callF (ev (clampL fu ro se att) M gas) d.f vs st0)) := by
 intro h nx
 have hd : Stb dc := HM.row.stb
 have hd' : ∀ n h, frzA n dc h = (dc, h) := hd
 have hdc : dc.isCell = true := by rcases HM.row with ⟨rfl, _⟩ | ⟨_, rfl, _⟩ <;> rfl
 have hv' : ∀ n h, frzA n cv h = (cv, h) := IsK.stb hv
 have s1 := Key.toNat_succ nx
 have s2 := Key.toNat_succ nx.succ
 have s3 := Key.toNat_succ nx.succ.succ
 have s4 := Key.toNat_succ nx.succ.succ.succ
 have s5 := Key.toNat_succ nx.succ.succ.succ.succ
 refine S.c_ycb.call ?_
 simp [ycb]
 simp [ycb_r0, hdc]
 simp [ycb_r1, hd', S.raw]
 refine (rdecl_ok S HM.row 1 nm _ _).mono ?_
 rintro o ha nxa ⟨hoa, ea⟩
 rw [hfd] at hoa
 obtain ⟨ld, hld, rfl⟩ := hoa
 have ta := ea.n
 have ua := Key.toNat_succ nxa
 have hlen := hld.len
 have hcel : ld.all AV.isCell = true := List.all_eq_true.2 hld.cel
 have hl45 : 45 ≤ ld.length := by omega
 have tk : ld.take 45 = ld := List.take_of_length_le (by omega)
 have fz : ∀ n H, frzLA (frzA n) ld H = (ld, H) := fun n H => frzLA_stb hld.stb
 have q0 := ea.g nx (by omega)
 have q1 := ea.g nx.succ (by omega)
 have q2 := ea.g nx.succ.succ (by omega)
 have q3 := ea.g nx.succ.succ.succ (by omega)
 have q4 := ea.g nx.succ.succ.succ.succ (by omega)
 simp at q0 q1 q2 q3 q4
 simp [-List.all_eq_true, hcel, hlen]
 simp [ycb_r2]
 have e0 := E0 ha nxa (.cells ld .fix)
 have p0 := (e0.g nx (by omega)).trans q0
 have p1 := (e0.g nx.succ (by omega)).trans q1
 have p2 := (e0.g nx.succ.succ (by omega)).trans q2
 have p3 := (e0.g nx.succ.succ.succ (by omega)).trans q3
 have p4 := (e0.g nx.succ.succ.succ.succ (by omega)).trans q4
 have pa : T.get nxa (T.set nxa (some (.cells ld .fix)) ha) = some (.cells ld .fix) := T.get_set_same _ _ _
 have E0' : Ext h nx (T.set nxa (some (.cells ld .fix)) ha) nxa.succ := ⟨by omega, fun b hb => by
  rw [e0.g b (by omega), ea.g b (by omega)]
  simp (disch := omega) only [get_lt (α := Blk)]⟩
 generalize T.set nxa (some (.cells ld .fix)) ha = hb at *
 clear q0 q1 q2 q3 q4
 obtain ⟨cp, hp4, hps⟩ := hld.ps
 have main : ∀ tm, T.get (K 2) tm = some cv → T.get (K 5) tm = some (.ptr nx 0) → T.get (K 8) tm = some (.ptr nx.succ 0) → T.get (K 9) tm = some (.ptr nx.succ.succ 0) → T.get (K 10) tm = some (.ptr nx.succ.succ.succ 0) → T.get (K 11) tm = some (.ptr nx.succ.succ.succ.succ 0) → T.get (K 14) tm = some (.ptr nxa 0) →
   wpC C (.seq (.ops ycb_r6) (.seq (.ops ycb_r7) (.seq (.staged ycb_r8 ⟨[K 44, K 45, K 46, K 47, K 48, K 49, K 50, K 51, K 52, K 53, K 54, K 55, K 56, K 12, K 13], []⟩) .ret)))
    (BodyP [RV.cell (K 10) true 4, RV.cell (K 11) true 3, RV.tmp (K 12), RV.tmp (K 13)] fun o h' nx' => ResOut (callF (ev (clampL fu ro se att) M gas) d.f vs st0) o ∧ Ext h nx h' nx') tm hb nxa.succ := by
  intro tm g2' g5 g8 g9 g10 g11 g14
  simp [ycb_r6, g5, g8, g9, p0, p1, p2, hd', S.raw]
  refine (rnew_ok S hd hdc fu ro se att _ _).mono ?_
  rintro o h1 nx1 ⟨rb, rfl, hrb, hlt, hg, e1⟩
  have t1 := e1.n
  have qa := (e1.g nxa (by omega)).trans pa
  have q4 := (e1.g nx.succ.succ.succ (by omega)).trans p3
  have q5 := (e1.g nx.succ.succ.succ.succ (by omega)).trans p4
  have E1 : Ext h nx h1 nx1 := E0'.trans e1
  have R1 : RR rb dc (clampL fu ro se att) st0 0 h1 nx1 := ⟨⟨.nils, hg, .inl ⟨rfl, rfl, rfl⟩⟩, hlt, by simp [st0], by have := (clamp_lims fu ro se att).f0; simpa [st0] using this, by simp [st0], by simp [st0]⟩
  simp
  simp [ycb_r7, g2', g14, qa, hlen, tk, fz, S.raw, hv']
  refine (renter_ok S (rev_ok S HM (clamp_lims fu ro se att) gas 0 (by omega)) (d := d) (st := st0) (by simp [st0]) (by simp [st0]) (by simp [st0]) R1 hld hv hl (HM.sm d (findD_mem hfd)) hz).mono ?_
  rintro o h2 nx2 H
  have f2 := H.1
  have t2 := f2.n
  obtain ⟨v, c, br, st, x, rfl, hK, hb2, hl2, ha2, ho2, hO⟩ := H.out S hg (clamp_lims fu ro se att)
  have hcc := IsK.cell hK
  have hcf : ∀ n h, frzA n c h = (c, h) := IsK.stb hK
  have n4 : nx.succ.succ.succ ≠ rb := fun e => by rw [← e] at hrb; omega
  have n5 : nx.succ.succ.succ.succ ≠ rb := fun e => by rw [← e] at hrb; omega
  have p4 := f2.fix R1 q4 (by omega) n4
  have p5 := f2.fix R1 q5 (by omega) n5
  have u2 := Key.toNat_succ nx2
  have g2 : ∀ (k : Key) (B : Option Blk), k.toNat < nx2.toNat → T.get k (T.set nx2 B h2) = T.get k h2 := fun k B hk => get_lt hk
  have hb3 := (g2 rb (some (.cells [I v.k, I v.n, .str v.a v.b, c] .fix)) hl2).trans hb2
  have p43 := (g2 _ (some (.cells [I v.k, I v.n, .str v.a v.b, c] .fix)) (by omega)).trans p4
  have p53 := (g2 _ (some (.cells [I v.k, I v.n, .str v.a v.b, c] .fix)) (by omega)).trans p5
  have ha3 := ha2.keep (nx' := nx2.succ) (h' := T.set nx2 (some (.cells [I v.k, I v.n, .str v.a v.b, c] .fix)) h2) (by omega) fun b hb _ => g2 b _ hb
  have hbq := ha2.beq (brsA_lits _)
  simp [hcc]
  have r4 : ∀ (B : Option Blk) (H : T Blk), T.get rb (T.set nx.succ.succ.succ B H) = T.get rb H := fun B H => T.get_set_ne _ _ _ _ (Ne.symm n4)
  have r5 : ∀ (B : Option Blk) (H : T Blk), T.get rb (T.set nx.succ.succ.succ.succ B H) = T.get rb H := fun B H => T.get_set_ne _ _ _ _ (Ne.symm n5)
  have p23 : T.get nx2 (T.set nx2 (some (.cells [I v.k, I v.n, .str v.a v.b, c] .fix)) h2) = some (.cells [I v.k, I v.n, .str v.a v.b, c] .fix) := T.get_set_same _ _ _
  have g3 : ∀ k : Key, k.toNat < nx2.toNat → T.get k (T.set nx2 (some (.cells [I v.k, I v.n, .str v.a v.b, c] .fix)) h2) = T.get k h2 := fun k hk => get_lt hk
  generalize T.set nx2 (some (.cells [I v.k, I v.n, .str v.a v.b, c] .fix)) h2 = h3 at *
  simp [ycb_r8, g10, g11, List.filter_cons, hb3, p43, p53, p23, r4, r5, hcc, hcf, hbq, AV.beq, AV.beqs, SI.beq]
  have k4 : ∀ (B B' : Blk) (b : Key), (T.get b h3 = some .tok ∨ ∃ l, T.get b h3 = some (.cells l .part)) → T.get b (T.set nx.succ.succ.succ.succ (some B') (T.set nx.succ.succ.succ (some B) h3)) = T.get b h3 := by
   intro B B' b hb
   have e4 : b ≠ nx.succ.succ.succ := by rintro rfl; rw [p43] at hb; rcases hb with hb | ⟨l, hb⟩ <;> cases hb
   have e5 : b ≠ nx.succ.succ.succ.succ := by rintro rfl; rw [p53] at hb; rcases hb with hb | ⟨l, hb⟩ <;> cases hb
   rw [T.get_set_ne _ _ _ _ e5, T.get_set_ne _ _ _ _ e4]
  have ha4 := ha3.keep (Nat.le_refl _) fun b _ hb => k4 (.cells [I v.k, I v.n, .str v.a v.b, c] .fix) (.cells [I st.cf, I st.cb, I st.fl] .fix) b hb
  obtain ⟨z1, z2⟩ := ha4.frzE (n0 := nx1) ho2 7
  refine ⟨hO _ z1, by omega, fun b hb => ?_⟩
  rw [z2 b (by omega), get_lt (by omega), get_lt (by omega), g3 b (by omega), f2.g b (by omega) (fun e => by rw [e] at hb; omega) ?_, E1.g b hb]
  rintro ⟨l, k, c, w1, w2, w3⟩
  rw [hg] at w1
  cases w1
  simp at w2
  subst w2
  exact own_nils w3
 rcases hps with ⟨rfl, hpn⟩ | ⟨cs, rfl, hpl, hcs⟩
 ·have hvn : vs = [] := List.eq_nil_of_length_eq_zero (by rw [← hl, hpn]; rfl)
  rcases hv with ⟨rfl, _⟩ | ⟨cs2, rfl, hvl, hvs⟩
  ·simp [ycb_r4, pa, hp4]
   have := main
   simp only [wpC_seq, wpC_ops] at this
   refine this _ ?_ ?_ ?_ ?_ ?_ ?_ ?_ <;> simp
  ·simp [ycb_r4, pa, hp4, hvn]
   have := main
   simp only [wpC_seq, wpC_ops, hvn] at this
   refine this _ ?_ ?_ ?_ ?_ ?_ ?_ ?_ <;> simp
 ·rcases hv with ⟨rfl, hvn⟩ | ⟨cs2, rfl, hvl, hvs⟩
  ·have hpn : d.f.params.length = 0 := by rw [hl, hvn]; rfl
   simp [ycb_r4, pa, hp4, hpn]
   have := main
   simp only [wpC_seq, wpC_ops] at this
   refine this _ ?_ ?_ ?_ ?_ ?_ ?_ ?_ <;> simp
  ·simp [ycb_r4, pa, hp4, hl]
   have := main
   simp only [wpC_seq, wpC_ops] at this
   refine this _ ?_ ?_ ?_ ?_ ?_ ?_ ?_ <;> simp
end
end Tz
/-
 SV: the reference's comparison, at equal values and branches. No condition.
-/
namespace Tz
open Go.Sx Go
theorem brsA_at {l : List Br} {j : Nat} (h : j < l.length) : List.take 3 (List.drop (j * 3) (brsA l)) = brA l[j] := by
 induction l generalizing j with
 | nil => simp at h
 | cons b l ih =>
  cases j with
  | zero => simp [brsA, brA]
  | succ j =>
   have := ih (j := j) (by simpa using h)
   have e : (j + 1) * 3 = j * 3 + 3 := by omega
   simp only [brsA, List.flatMap_cons, e, List.getElem_cons_succ] at this ⊢
   rw [show brA b = [SA b.fn, I b.at_, I b.arm] from rfl]
   simpa using this
variable {C : Cfg} (S : Std C)
include S
theorem rcmp0_ok {la : List AV} {v : V} (hv : IsV la v) : ∀ lb, IsV lb v → Pur C n_ybx [.agg la, .agg lb] (· = .ret (I 0)) := by
 induction hv with
 | leaf k n a b =>
  intro lb hb h nx
  obtain ⟨c, rfl, hK⟩ := hb.cells
  have e2 := (E0 h nx (.cells [I k, I n, .str a b, .nils] .fix)).trans (E0 _ nx.succ (.cells [I k, I n, .str a b, c] .fix))
  have hcc := IsK.cell hK
  refine S.c_ybx.call ?_
  simp [ybx]
  simp [ybx_r0, hcc]
  simp [ybx_r1]
  simp [ybx_r3]
  simp [ybx_r5]
  simp [ybx_r7]
  refine W.unroll (W.of ?_)
  simp [ybx_l0]
  simp [ybx_r8]
  rcases hK with ⟨rfl, _⟩ | ⟨cs, rfl, _, _⟩
  ·simp [ybx_r13]
   simp [ybx_r14]
   exact e2
  ·simp [ybx_r13]
   simp [ybx_r14]
   exact e2
 | node k n a b cs vs hl hc hk ih =>
  intro lb hb h nx
  obtain ⟨c, rfl, hK⟩ := hb.cells
  have s1 := Key.toNat_succ nx
  have s2 := Key.toNat_succ nx.succ
  have hcs : IsVs cs vs := ⟨hc, hk⟩
  have hcc := IsK.cell hK
  simp only [mk_k, mk_n, mk_a, mk_b, mk_kids] at *
  have e2 := (E0 h nx (.cells [I k, I n, .str a b, .sl cs vs.length 4 .any] .fix)).trans (E0 _ nx.succ (.cells [I k, I n, .str a b, c] .fix))
  have q0 : T.get nx (T.set nx.succ (some (.cells [I k, I n, .str a b, c] .fix)) (T.set nx (some (.cells [I k, I n, .str a b, .sl cs vs.length 4 .any] .fix)) h)) = some (.cells [I k, I n, .str a b, .sl cs vs.length 4 .any] .fix) := by rw [get_lt (by omega)]; exact T.get_set_same _ _ _
  have q1 : T.get nx.succ (T.set nx.succ (some (.cells [I k, I n, .str a b, c] .fix)) (T.set nx (some (.cells [I k, I n, .str a b, .sl cs vs.length 4 .any] .fix)) h)) = some (.cells [I k, I n, .str a b, c] .fix) := T.get_set_same _ _ _
  refine S.c_ybx.call ?_
  simp [ybx]
  simp [ybx_r0, hcc]
  simp [ybx_r1]
  simp [ybx_r3]
  simp [ybx_r5]
  simp [ybx_r7]
  generalize T.set nx.succ (some (.cells [I k, I n, .str a b, c] .fix)) (T.set nx (some (.cells [I k, I n, .str a b, .sl cs vs.length 4 .any] .fix)) h) = h0 at *
  rcases hK with ⟨rfl, rfl⟩ | ⟨ds, rfl, hdl, hds⟩
  ·refine W.unroll (W.of ?_)
   simp [ybx_l0]
   simp [ybx_r8, q0]
   simp [ybx_r13, q0, q1]
   simp [ybx_r14]
   exact e2
  ·refine W.loopM (n := vs.length) (fun m tm' h' nx' => ∃ (j : Nat), m = vs.length - j ∧ j ≤ vs.length ∧ T.get (K 2) tm' = some (.ptr nx 0) ∧ T.get (K 3) tm' = some (.ptr nx.succ 0) ∧ T.get (K 5) tm' = some (I j) ∧ Ext h0 nx.succ.succ h' nx') ?_ ?_
   ·refine ⟨0, by simp, by omega, ?_, ?_, ?_, Ext.refl _ _⟩ <;> simp
   ·rintro m tm1 h1 nx1 ⟨j, rfl, hj, f2, f3, f5, e1⟩
    have t1 := e1.n
    have p0 := (e1.g nx (by omega)).trans q0
    have p1 := (e1.g nx.succ (by omega)).trans q1
    refine W.of ?_
    simp [ybx_l0]
    by_cases hlt : j < vs.length
    ·have hlt' : (j : Int) < vs.length := by omega
     obtain ⟨c1, ec1, hK1⟩ := hcs.at hlt
     obtain ⟨c2, ec2, hK2⟩ := hds.at hlt
     have h41 : 4 ≤ cs.length - j * 4 := by have := hcs.hc; omega
     have h42 : 4 ≤ ds.length - j * 4 := by have := hds.hc; omega
     have z1 : ∀ n h, frzA n c1 h = (c1, h) := IsK.stb hK1
     have z2 : ∀ n h, frzA n c2 h = (c2, h) := IsK.stb hK2
     simp [ybx_r8, f2, f3, f5, p0, p1, hlt']
     simp [ybx_r9, f2, f3, f5, p0, p1, hlt, h41, h42, ec1, ec2, S.raw, z1, z2]
     have key := ih j hlt _ (IsV.ofV hK2)
     rw [ec1] at key
     refine (key _ _).mono ?_
     rintro o h2 nx2 ⟨rfl, e3⟩
     simp
     simp [ybx_r10]
     simp [ybx_r12, f5]
     refine ⟨vs.length - (j + 1), by omega, j + 1, rfl, by omega, ?_, ?_, ?_, e1.trans e3⟩
     ·simp [f2]
     ·simp [f3]
     ·simp; rw [wrap_id (by omega) (by omega)]
    ·have hlt' : ¬ (j : Int) < vs.length := by omega
     simp [ybx_r8, f2, f3, f5, p0, p1, hlt']
     simp [ybx_r13, f2, f3, p0, p1]
     simp [ybx_r14]
     exact e2.trans e1
theorem requal_ok {la lb : List AV} {v : V} (hv : IsV la v) (hb : IsV lb v) : Pur C n_yby [.agg la, .agg lb] (· = .ret (.bool true)) := by
 intro h nx
 obtain ⟨c1, rfl, hK1⟩ := hv.cells
 obtain ⟨c2, rfl, hK2⟩ := hb.cells
 have z1 : ∀ n h, frzA n c1 h = (c1, h) := IsK.stb hK1
 have z2 : ∀ n h, frzA n c2 h = (c2, h) := IsK.stb hK2
 have w1 := IsK.cell hK1
 have w2 := IsK.cell hK2
 refine S.c_yby.call ?_
 simp [yby]
 simp [yby_r0, w1, w2]
 simp [yby_r1, S.raw, z1, z2]
 refine (rcmp0_ok S (IsV.ofV hK1) _ (IsV.ofV hK2) _ _).mono ?_
 rintro o h1 nx1 ⟨rfl, e1⟩
 simp
 exact ((E0 _ _ _).trans (E0 _ _ _)).trans e1
theorem rsame_ok {c d : AV} {l : List Br} (hc : IsBrs c l) (hd : IsBrs d l) : Pur C n_ycr [c, d] (· = .ret (.bool true)) := by
 intro h nx
 have hl := hc.z
 replace hc := hc.b
 replace hd := hd.b
 refine S.c_ycr.call ?_
 simp [ycr]
 simp [ycr_r0]
 have nilc : ∀ {x : AV}, IsBrs0 x [] → x = .nils ∨ x = .sl [] 0 3 .any := by
  rintro x (⟨rfl, _⟩ | rfl)
  ·exact .inl rfl
  ·exact .inr rfl
 by_cases hz : l = []
 ·subst hz
  rcases nilc hc with rfl | rfl <;> rcases nilc hd with rfl | rfl
  all_goals
   simp [ycr_r1]
   simp [ycr_r3]
   refine W.unroll (W.of ?_)
   simp [ycr_l0]
   simp [ycr_r4]
   simp [ycr_r8]
   exact Ext.refl _ _
 ·have hc : c = .sl (brsA l) l.length 3 .any := by rcases hc with ⟨_, rfl⟩ | hc; exact absurd rfl hz; exact hc
  have hd : d = .sl (brsA l) l.length 3 .any := by rcases hd with ⟨_, rfl⟩ | hd; exact absurd rfl hz; exact hd
  subst hc hd
  simp [ycr_r1]
  simp [ycr_r3]
  refine W.loopM (n := l.length) (fun m tm' h' nx' => ∃ (j : Nat), m = l.length - j ∧ j ≤ l.length ∧ T.get (K 0) tm' = some (.sl (brsA l) l.length 3 .any) ∧ T.get (K 1) tm' = some (.sl (brsA l) l.length 3 .any) ∧ T.get (K 5) tm' = some (I j) ∧ h' = h ∧ nx' = nx) ?_ ?_
  ·refine ⟨0, by simp, by omega, ?_, ?_, ?_, rfl, rfl⟩ <;> simp
  ·rintro m tm1 h1 nx1 ⟨j, rfl, hj, f0, f1, f5, rfl, rfl⟩
   refine W.of ?_
   simp [ycr_l0]
   simp [ycr_r4, f0, f5]
   refine ⟨fun hlt => ?_, fun hge => ?_⟩
   ·have hjl : j < l.length := by omega
    have h3 : 3 ≤ (brsA l).length - j * 3 := by rw [brsA_length]; omega
    have ej : List.take 3 (List.drop (j * 3) (brsA l)) = brA l[j] := brsA_at hjl
    simp only [brA] at ej
    have hq : eqV C.orc .str (SA l[j].fn) (SA l[j].fn) = some true := by simp [eqV]
    simp [ycr_r5, f0, f1, f5, hjl, h3, ej, hq]
    simp [ycr_r7, f5]
    refine ⟨l.length - (j + 1), by omega, j + 1, rfl, by omega, ?_⟩
    simp [f0, f1]
    rw [wrap_id (by omega) (by omega)]
   ·simp [ycr_r8]
    exact Ext.refl _ _
end Tz
