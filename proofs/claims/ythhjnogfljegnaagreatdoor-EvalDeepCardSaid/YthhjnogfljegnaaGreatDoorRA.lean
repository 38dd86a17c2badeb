/-
 SV: the reference evaluator's memory, and its small functions. No condition.
-/
import Derived.Test.YthhjnogfljegnaaGreatDoorVMem
import Derived.Test.YthhjnogfljegnaaGreatDoorVRun
set_option linter.unusedSimpArgs false
set_option linter.unusedVariables false
set_option linter.unusedSectionVars false
namespace Tz
open Go.Sx Go
abbrev rrC (dc : AV) (L : Lim) (st : St) (x : Int) (br : AV) : List AV := [dc, I L.seed, I L.att, I L.fuel, I L.room, I st.cf, I st.cb, I st.fl, br, I x]
structure RR (rb : Key) (dc : AV) (L : Lim) (st : St) (x : Int) (h : T Blk) (nx : Key) : Prop where
 blk : ∃ br, T.get rb h = some (.cells (rrC dc L st x br) .fix) ∧ IsApp br (brsA st.brs) st.brs.length 3 h nx
 low : rb.toNat < nx.toNat
 c0 : 0 ≤ st.cf
 c1 : st.cf ≤ L.fuel
 nb : (st.brs.length : Int) ≤ st.cf
 b0 : 0 ≤ st.cb
section
variable {rb : Key} {dc : AV} {L : Lim} {st : St} {x : Int} {h h' : T Blk} {nx nx' : Key}
theorem RR.ext (r : RR rb dc L st x h nx) (e : Ext h nx h' nx') : RR rb dc L st x h' nx' := by
 obtain ⟨⟨br, hb, ha⟩, low, c0, c1, nb, b0⟩ := r
 have n := e.n
 exact ⟨⟨br, by rw [e.g rb low]; exact hb, ha.keep n fun b hb _ => e.g b hb⟩, by omega, c0, c1, nb, b0⟩
theorem RR.calls (r : RR rb dc L st x h nx) (k : Int) : RR rb dc L { st with calls := k } x h nx := by
 obtain ⟨b, low, c0, c1, nb, b0⟩ := r
 exact ⟨b, low, c0, c1, nb, b0⟩
theorem RR.set {k : Key} {l : List AV} {B : Blk} (r : RR rb dc L st x h nx) (hk : T.get k h = some (.cells l .fix)) (hn : k ≠ rb) : RR rb dc L st x (T.set k (some B) h) nx := by
 obtain ⟨⟨br, hb, ha⟩, low', c0, c1, nb, b0⟩ := r
 have ne : ∀ b B, T.get b h = some B → (∀ l, B ≠ .cells l .fix) → b ≠ k := fun b B hB hn e => by subst e; rw [hk] at hB; cases hB; exact hn _ rfl
 refine ⟨⟨br, by rw [T.get_set_ne _ _ _ _ (fun e => hn e.symm)]; exact hb, ha.keep (Nat.le_refl _) fun b hb hx => ?_⟩, low', c0, c1, nb, b0⟩
 rcases hx with hx | ⟨l, hx⟩
 ·rw [T.get_set_ne _ _ _ _ (ne b _ hx (by simp))]
 ·rw [T.get_set_ne _ _ _ _ (ne b _ hx (by simp))]
theorem RR.nums {br : AV} {st' : St} {x' : Int} (r : RR rb dc L st x h nx) (hb : T.get rb h = some (.cells (rrC dc L st x br) .fix)) (ha : IsApp br (brsA st.brs) st.brs.length 3 h nx) (hbr : st'.brs = st.brs)
  (c0 : 0 ≤ st'.cf) (c1 : st'.cf ≤ L.fuel) (nb : (st'.brs.length : Int) ≤ st'.cf) (b0 : 0 ≤ st'.cb) : RR rb dc L st' x' (T.set rb (some (.cells (rrC dc L st' x' br) .fix)) h) nx := by
 refine ⟨⟨br, by simp, ?_⟩, r.low, c0, c1, nb, b0⟩
 rw [hbr]
 refine ha.keep (Nat.le_refl _) fun b hb' hx => ?_
 have ne : b ≠ rb := by
  intro e; subst e
  rcases hx with hx | ⟨l, hx⟩ <;> rw [hb] at hx <;> cases hx
 rw [T.get_set_ne _ _ _ _ ne]
end
abbrev z4 : List AV := [I 0, I 0, .str 0 0, .nils]
section
variable {C : Cfg} (S : Std C) {rb : Key} {dc : AV} {L : Lim}
include S
theorem rnumber_ok (n : Int) : Pur C n_ycx [I n] (· = .ret (.agg [I 0, I n, .str 0 0, .nils])) := by
 intro h nx
 refine S.c_ycx.call ?_
 simp [ycx]
 simp [ycx_r0]
 simp [ycx_r1]
 exact E0 h nx _
theorem rtruthV_ok (b : Bool) : Pur C n_ycy [.bool b] (· = .ret (.agg [I 1, I (if b then 1 else 0), .str 0 0, .nils])) := by
 intro h nx
 refine S.c_ycy.call ?_
 simp [ycy]
 simp [ycy_r0]
 cases b
 ·simp [ycy_r1]
  simp [ycy_r3]
  exact E0 h nx _
 ·simp [ycy_r1]
  simp [ycy_r2]
  exact E0 h nx _
end
end Tz
/-
 SV: the reference's sizes. No condition.
-/
namespace Tz
open Go.Sx Go
theorem sizes_tk : ∀ (l : List V) (j : Nat) (h : j < l.length), V.sizes (l.take (j + 1)) = V.sizes (l.take j) + (l[j]).size
 | [], j, h => absurd h (Nat.not_lt_zero j)
 | v :: l, 0, h => by simp [V.sizes]
 | v :: l, j + 1, h => by
  have := sizes_tk l j (by simpa using h)
  simp [V.sizes, this]; omega
theorem sizes_tl : ∀ (l : List V) (j : Nat) (h : j < l.length), V.sizes (l.take j) + (l[j]).size ≤ V.sizes l
 | [], j, h => absurd h (Nat.not_lt_zero j)
 | v :: l, 0, h => by simp [V.sizes]
 | v :: l, j + 1, h => by
  have := sizes_tl l j (by simpa using h)
  simp [V.sizes]; omega
section
variable {C : Cfg} (S : Std C)
include S
theorem rsize_ok {lv : List AV} {v : V} (hv : IsV lv v) : v.size ≤ 4611686018427387904 → Pur C n_ybz [.agg lv] (· = .ret (I v.size)) := by
 induction hv with
 | leaf k n a b =>
  intro _ h nx
  refine S.c_ybz.call ?_
  simp [ybz]
  simp [ybz_r0]
  simp [ybz_r1]
  simp [ybz_r2]
  refine W.unroll (W.of ?_)
  simp [ybz_l0]
  simp [ybz_r3]
  simp [ybz_r6, V.size, V.sizes]
  exact E0 h nx _
 | node k n a b cs vs hl hc hk ih =>
  intro hz h nx
  have s1 := Key.toNat_succ nx
  have hcs : IsVs cs vs := ⟨hc, hk⟩
  have hz' : 1 + V.sizes vs ≤ 4611686018427387904 := by simpa [V.size] using hz
  refine S.c_ybz.call ?_
  simp [ybz]
  simp [ybz_r0]
  simp [ybz_r1]
  simp [ybz_r2]
  refine W.loopM (n := vs.length) (fun m tm' h' nx' => ∃ (j : Nat), m = vs.length - j ∧ j ≤ vs.length ∧ T.get (K 1) tm' = some (.ptr nx 0) ∧ T.get (K 3) tm' = some (I (1 + V.sizes (vs.take j))) ∧ T.get (K 4) tm' = some (I j) ∧ T.get nx h' = some (.cells [I k, I n, .str a b, .sl cs vs.length 4 .any] .fix) ∧ nx.succ.toNat ≤ nx'.toNat ∧ ∀ b : Key, b.toNat < nx.toNat → T.get b h' = T.get b h) ?_ ?_
  ·refine ⟨0, by simp, by omega, ?_, ?_, ?_, ?_, by omega, fun b hb => by rw [get_lt hb]⟩ <;> simp [V.sizes]
  ·rintro m tm1 h1 nx1 ⟨j, rfl, hj, f1, f3, f4, hg, t1, e1⟩
   refine W.of ?_
   simp [ybz_l0]
   simp [ybz_r3, f1, f4, hg]
   refine ⟨fun hlt => ?_, fun hge => ?_⟩
   ·have hjl : j < vs.length := by omega
    obtain ⟨c, ec, hKc⟩ := hcs.at hjl
    have hc' : ∀ n h, frzA n c h = (c, h) := IsK.stb hKc
    have hcc := IsK.cell hKc
    have h4 : 4 ≤ cs.length - j * 4 := by have := hcs.hc; omega
    simp [ybz_r4, f1, f3, f4, hg, hjl, h4, ec, S.raw, hc']
    have hsz := sizes_tl vs j hjl
    have key := ih j hjl (by omega)
    rw [ec] at key
    refine (key _ _).mono ?_
    rintro o h2 nx2 ⟨rfl, e2⟩
    have t2 := e2.n
    have q0 := (e2.g nx (by omega)).trans hg
    simp [f3]
    simp [ybz_r5, f4]
    refine ⟨vs.length - (j + 1), by omega, j + 1, rfl, by omega, ?_, ?_, ?_, q0, by omega, fun b hb => ?_⟩
    ·simp [f1]
    ·simp [sizes_tk vs j hjl]; rw [wrap_id (by omega) (by omega), Int.add_assoc]
    ·simp; rw [wrap_id (by omega) (by omega)]
    ·rw [e2.g b (by omega)]; exact e1 b hb
   ·have hjl : j = vs.length := by omega
    subst hjl
    simp [ybz_r6, f3, V.size]
    exact ⟨by omega, e1⟩
end
end Tz
/-
 SV: what the reference evaluator's calls keep. No condition.
-/
namespace Tz
open Go.Sx Go
def Own (rb : Key) (h : T Blk) (b : Key) : Prop := ∃ l k br, T.get rb h = some (.cells l k) ∧ l[8]? = some br ∧ OwnC br b
structure Fb (rb : Key) (h : T Blk) (nx : Key) (h' : T Blk) (nx' : Key) : Prop where
 n : nx.toNat ≤ nx'.toNat
 g : ∀ b : Key, b.toNat < nx.toNat → b ≠ rb → ¬ Own rb h b → T.get b h' = T.get b h
 o : ∀ b : Key, b.toNat < nx.toNat → Own rb h' b → Own rb h b
theorem Own.of {rb : Key} {h h' : T Blk} (e : T.get rb h' = T.get rb h) {b : Key} : Own rb h' b ↔ Own rb h b := by unfold Own; rw [e]
section
variable {rb : Key} {h h' h1 h2 h3 : T Blk} {nx nx' n1 n2 n3 : Key}
theorem Fb.refl : Fb rb h nx h nx := ⟨Nat.le_refl _, fun _ _ _ _ => rfl, fun _ _ o => o⟩
theorem Fb.trans (a : Fb rb h1 n1 h2 n2) (b : Fb rb h2 n2 h3 n3) : Fb rb h1 n1 h3 n3 :=
 ⟨Nat.le_trans a.n b.n, fun k hk hr ho => by
  have e := a.g k hk hr ho
  rw [b.g k (Nat.lt_of_lt_of_le hk a.n) hr (fun o => ho (a.o k hk o)), e], fun k hk o => a.o k hk (b.o k (Nat.lt_of_lt_of_le hk a.n) o)⟩
theorem Fb.ext (low : rb.toNat < n1.toNat) (a : Ext h1 n1 h2 n2) : Fb rb h1 n1 h2 n2 := ⟨a.n, fun b hb _ _ => a.g b hb, fun b _ o => (Own.of (a.g rb low)).1 o⟩
theorem Fb.put {k : Key} {B : Option Blk} (f : Fb rb h nx h' nx') (hk : nx.toNat ≤ k.toNat) (low : rb.toNat < nx.toNat) : Fb rb h nx (T.set k B h') nx' := by
 have hne : rb ≠ k := fun e => by rw [← e] at hk; omega
 refine ⟨f.n, fun b hb hr ho => ?_, fun b hb o => f.o b hb ((Own.of (T.get_set_ne _ _ _ _ hne)).1 o)⟩
 rw [T.get_set_ne _ _ _ _ (fun e => by rw [← e] at hk; omega)]
 exact f.g b hb hr ho
theorem Fb.num {dc : AV} {L : Lim} {st st' : St} {x x' : Int} {br : AV} (hb : T.get rb h = some (.cells (rrC dc L st x br) .fix)) : Fb rb h nx (T.set rb (some (.cells (rrC dc L st' x' br) .fix)) h) nx := by
 refine ⟨Nat.le_refl _, fun b _ hr _ => T.get_set_ne _ _ _ _ hr, fun b _ ⟨l, k, c, h1, h2, h3⟩ => ⟨_, _, c, hb, ?_, h3⟩⟩
 rw [T.get_set_same] at h1
 cases h1
 simpa using h2
theorem RR.own {dc : AV} {L : Lim} {st : St} {x : Int} (r : RR rb dc L st x h nx) {b : Key} (o : Own rb h b) : b.toNat < nx.toNat ∧ ∀ l, T.get b h ≠ some (.cells l .fix) := by
 obtain ⟨br, hb, ha⟩ := r.blk
 obtain ⟨l, k, c, h1, h2, h3⟩ := o
 rw [hb] at h1
 cases h1
 simp at h2
 subst h2
 rcases ha with ⟨rfl, _, _⟩ | ⟨b', rfl, hb', hlt, _⟩ | ⟨t, rfl, ht, hlt⟩
 ·rcases h3 with ⟨_, _, h3⟩ | ⟨_, _, _, h3⟩ <;> cases h3
 ·rcases h3 with ⟨_, _, h3⟩ | ⟨_, _, _, h3⟩ <;> cases h3
  exact ⟨hlt, fun l e => by rw [hb'] at e; cases e⟩
 ·rcases h3 with ⟨_, _, h3⟩ | ⟨_, _, _, h3⟩ <;> cases h3
  exact ⟨hlt, fun l e => by rw [ht] at e; cases e⟩
theorem Fb.fix {dc : AV} {L : Lim} {st : St} {x : Int} (f : Fb rb h nx h' nx') (r : RR rb dc L st x h nx) {b : Key} {l : List AV} (hb : T.get b h = some (.cells l .fix)) (hlt : b.toNat < nx.toNat) (hne : b ≠ rb) : T.get b h' = some (.cells l .fix) := by
 rw [f.g b hlt hne (fun o => (r.own o).2 l hb)]; exact hb
end
structure Ap (rb : Key) (c : AV) (l : List AV) (len sz : Nat) (h : T Blk) (nx n0 : Key) : Prop where
 app : IsApp c l len sz h nx
 own : ∀ b, OwnC c b → ¬ Own rb h b ∧ b ≠ rb ∧ n0.toNat ≤ b.toNat
section
variable {rb : Key} {dc : AV} {L : Lim} {st : St} {x : Int} {c : AV} {l new : List AV} {len sz : Nat} {h h' : T Blk} {nx nx' n0 : Key}
theorem Ap.nil (z : Nat) : Ap rb .nils [] 0 z h nx n0 := ⟨.inl ⟨rfl, rfl, rfl⟩, fun b o => by rcases o with ⟨_, _, h3⟩ | ⟨_, _, _, h3⟩ <;> cases h3⟩
theorem Ap.keep (ha : Ap rb c l len sz h nx n0) (f : Fb rb h nx h' nx') : Ap rb c l len sz h' nx' n0 := by
 refine ⟨?_, fun b o => ⟨fun oo => (ha.own b o).1 (f.o b (ha.app.lt o) oo), (ha.own b o).2⟩⟩
 have hn := f.n
 have key : ∀ b, OwnC c b → T.get b h' = T.get b h := fun b o => f.g b (ha.app.lt o) (ha.own b o).2.1 (ha.own b o).1
 rcases ha.app with ⟨rfl, rfl, rfl⟩ | ⟨b, rfl, hb, hlt, hll⟩ | ⟨t, rfl, ht, hlt⟩
 ·exact .inl ⟨rfl, rfl, rfl⟩
 ·exact .inr (.inl ⟨b, rfl, by rw [key b (.inl ⟨_, _, rfl⟩)]; exact hb, by omega, hll⟩)
 ·exact .inr (.inr ⟨t, rfl, by rw [key t (.inr ⟨_, _, _, rfl⟩)]; exact ht, by omega⟩)
theorem Ap.add (ha : Ap rb c l len sz h nx n0) (low : rb.toNat < nx.toNat) (h0 : n0.toNat ≤ nx.toNat) (ho : ∀ b, Own rb h b → b.toNat < nx.toNat) (hn : new.length = sz) (hl : len + 1 ≤ 1048576) (hc : new.all AV.isCell = true) :
  ∃ c' h' nx', appendTo sz c new 1 h nx = .val c' h' nx' ∧ Ap rb c' (l ++ new) (len + 1) sz h' nx' n0 ∧ nx.toNat ≤ nx'.toNat ∧ T.get rb h' = T.get rb h ∧ ∀ b : Key, b.toNat < nx.toNat → ¬ OwnC c b → T.get b h' = T.get b h := by
 have s1 := Key.toNat_succ nx
 have hrn : rb ≠ nx := fun e => by rw [← e] at low; omega
 have own' : ∀ (H : T Blk) (c' : AV), T.get rb H = T.get rb h → (∀ b, OwnC c' b → b = nx) → ∀ b, OwnC c' b → ¬ Own rb H b ∧ b ≠ rb ∧ n0.toNat ≤ b.toNat := by
  intro H c' e e2 b o
  have := e2 b o
  subst this
  exact ⟨fun oo => by have := ho _ ((Own.of e).1 oo); omega, fun e => hrn e.symm, h0⟩
 rcases id ha.app with ⟨rfl, rfl, rfl⟩ | ⟨b, rfl, hb, hlt, hll⟩ | ⟨t, rfl, ht, hlt⟩
 ·have e : T.get rb (T.set nx (some (.cells new .part)) h) = T.get rb h := T.get_set_ne _ _ _ _ hrn
  refine ⟨.slice nx 0 1 sz, T.set nx (some (.cells new .part)) h, nx.succ, by simp, ⟨.inr (.inl ⟨nx, rfl, by simp, by omega, by simpa using hn⟩), own' _ _ e fun b o => ?_⟩, by omega, e, fun b hb _ => get_lt hb⟩
  rcases o with ⟨_, _, h3⟩ | ⟨_, _, _, h3⟩ <;> cases h3; rfl
 ·have hb1 := (ha.own b (.inl ⟨_, _, rfl⟩)).2.1
  have e : T.get rb (T.set nx (some .tok) (T.set b none h)) = T.get rb h := by rw [T.get_set_ne _ _ _ _ hrn, T.get_set_ne _ _ _ _ (fun e => hb1 e.symm)]
  refine ⟨.sl (l ++ new) (len + 1) sz (.tok nx), T.set nx (some .tok) (T.set b none h), nx.succ, ?_, ⟨.inr (.inr ⟨nx, rfl, by simp, by omega⟩), own' _ _ e fun b o => ?_⟩, by omega, e, fun x hx hk => ?_⟩
  ·simp [hl, hc, hb, hll]
  ·rcases o with ⟨_, _, h3⟩ | ⟨_, _, _, h3⟩ <;> cases h3; rfl
  ·have hne : x ≠ b := by intro e; subst e; exact hk (.inl ⟨_, _, rfl⟩)
   rw [get_lt hx, T.get_set_ne _ _ _ _ hne]
 ·have hb1 := (ha.own t (.inr ⟨_, _, _, rfl⟩)).2.1
  have e : T.get rb (T.set nx (some .tok) (T.set t none h)) = T.get rb h := by rw [T.get_set_ne _ _ _ _ hrn, T.get_set_ne _ _ _ _ (fun e => hb1 e.symm)]
  refine ⟨.sl (l ++ new) (len + 1) sz (.tok nx), T.set nx (some .tok) (T.set t none h), nx.succ, ?_, ⟨.inr (.inr ⟨nx, rfl, by simp, by omega⟩), own' _ _ e fun b o => ?_⟩, by omega, e, fun x hx hk => ?_⟩
  ·simp [hl, hc, ht]
  ·rcases o with ⟨_, _, h3⟩ | ⟨_, _, _, h3⟩ <;> cases h3; rfl
  ·have hne : x ≠ t := by intro e; subst e; exact hk (.inr ⟨_, _, _, rfl⟩)
   rw [get_lt hx, T.get_set_ne _ _ _ _ hne]
theorem Ap.fast (ha : Ap rb c l len sz h nx n0) (hs : ∀ y ∈ l, Stb y) (n : Nat) : ((frzA (n + 1) c h).1 = .nils ∧ l = [] ∧ len = 0 ∨ (frzA (n + 1) c h).1 = .sl l len sz .any) ∧ T.get rb (frzA (n + 1) c h).2 = T.get rb h ∧ ∀ b, ¬ OwnC c b → T.get b (frzA (n + 1) c h).2 = T.get b h := by
 rcases id ha.app with ⟨rfl, hn, hl⟩ | ⟨b, rfl, hb, hlt, hll⟩ | ⟨t, rfl, ht, hlt⟩
 ·exact ⟨.inl ⟨rfl, hn, hl⟩, rfl, fun _ _ => rfl⟩
 ·have hb1 := (ha.own b (.inl ⟨_, _, rfl⟩)).2.1
  rw [frz_part hb hll hs]
  refine ⟨.inr rfl, T.get_set_ne _ _ _ _ (fun e => hb1 e.symm), fun x hx => ?_⟩
  have hne : x ≠ b := by intro e; subst e; exact hx (.inl ⟨_, _, rfl⟩)
  exact T.get_set_ne _ _ _ _ hne
 ·exact ⟨.inr rfl, rfl, fun _ _ => rfl⟩
theorem RR.keep (r : RR rb dc L st x h nx) (hn : nx.toNat ≤ nx'.toNat) (e : T.get rb h' = T.get rb h) (g : ∀ b : Key, b.toNat < nx.toNat → Own rb h b → T.get b h' = T.get b h) : RR rb dc L st x h' nx' := by
 obtain ⟨⟨br, hb, ha⟩, low, c0, c1, nb, b0⟩ := r
 have ow : ∀ b, OwnC br b → Own rb h b := fun b o => ⟨_, _, br, hb, by simp, o⟩
 refine ⟨⟨br, by rw [e]; exact hb, ?_⟩, by omega, c0, c1, nb, b0⟩
 rcases id ha with ⟨rfl, h1, h2⟩ | ⟨b, rfl, hb', hlt, hll⟩ | ⟨t, rfl, ht, hlt⟩
 ·exact .inl ⟨rfl, h1, h2⟩
 ·exact .inr (.inl ⟨b, rfl, by rw [g b hlt (ow b (.inl ⟨_, _, rfl⟩))]; exact hb', by omega, hll⟩)
 ·exact .inr (.inr ⟨t, rfl, by rw [g t hlt (ow t (.inr ⟨_, _, _, rfl⟩))]; exact ht, by omega⟩)
end
def RBd (l : List AV) (x : S × V) : Prop := ∃ c, IsK c x.2.kids ∧ l = [SA x.1, I x.2.k, I x.2.n, .str x.2.a x.2.b, c]
def REnvC (c : AV) (s : Sc) : Prop := (c = .nils ∧ s = []) ∨ ∃ cs, c = .sl cs s.length 5 .any ∧ s.length ≤ 1000000 ∧ Rw 5 RBd cs s
structure REnv (c : AV) (s : Sc) : Prop where
 c : REnvC c s
 z : ∀ x ∈ s, x.2.size ≤ 1073741824
theorem REnv.stb {c : AV} {s : Sc} (h : REnv c s) : Stb c := by
 rcases h.c with ⟨rfl, rfl⟩ | ⟨cs, rfl, _⟩
 ·exact stb_nils
 ·exact stb_sl _ _ _
def Sk (e : E) : Prop := e.k = 0 ∨ e.k = 2 ∨ (e.k = 3 ∧ (arityF e.name = none ∨ e.name = (4, 1752397168))) ∨ (e.k = 6 ∧ e.kids.length = 3) ∨ (e.k = 9 ∧ e.kids.length = 2 ∧ (e.name = (1, 43) ∨ e.name = (1, 45) ∨ e.name = (1, 60)))
inductive Sm : E → Prop
 | mk (e : E) (h : Sk e) (hk : ∀ x ∈ e.kids, Sm x) : Sm e
def REnds (rb : Key) (dc : AV) (L : Lim) (h : T Blk) (nx : Key) (r : Res) (o : Out) (h' : T Blk) (nx' : Key) : Prop := Fb rb h nx h' nx' ∧ ∃ l, o = .ret (.agg l) ∧ match r with
 | .ok v st => IsV l v ∧ RR rb dc L st 0 h' nx'
 | .stop c st => c ≠ 0 ∧ (∃ v, IsV l v) ∧ RR rb dc L st c h' nx'
def RvOK (C : Cfg) (rb : Key) (dc : AV) (L : Lim) (rec_ : Rec) (c0 : Int) : Prop := ∀ (fn : S) (s : Sc) (e : E) (st : St) (ec : AV) (le : List AV) (h : T Blk) (nx : Key), c0 ≤ st.cf → 0 ≤ st.calls → st.calls ≤ 256 → RR rb dc L st 0 h nx → REnv ec s.reverse → IsE le e → Sm e →
 CallA C n_ycg [.ptr rb 0, ec, .agg le, SA fn, I st.calls] h nx (REnds rb dc L h nx (rec_ fn s e st))
def REndsZ (rb : Key) (dc : AV) (L : Lim) (h : T Blk) (nx : Key) (r : Res) (o : Out) (h' : T Blk) (nx' : Key) : Prop := Fb rb h nx h' nx' ∧ ∃ l, o = .ret (.agg l) ∧ match r with
 | .ok v st => IsV l v ∧ RR rb dc L st 0 h' nx'
 | .stop c st => c ≠ 0 ∧ l = z4 ∧ RR rb dc L st c h' nx'
theorem REndsZ.weak {rb : Key} {dc : AV} {L : Lim} {h : T Blk} {nx : Key} {r : Res} {o : Out} {h' : T Blk} {nx' : Key} (H : REndsZ rb dc L h nx r o h' nx') : REnds rb dc L h nx r o h' nx' := by
 obtain ⟨f, l, e, hR⟩ := H
 refine ⟨f, l, e, ?_⟩
 cases r with
 | ok v st => exact hR
 | stop c st => exact ⟨hR.1, ⟨.mk 0 0 0 0 [], by rw [hR.2.1]; exact .leaf 0 0 0 0⟩, hR.2.2⟩
def RvOKz (C : Cfg) (rb : Key) (dc : AV) (L : Lim) (rec_ : Rec) (c0 : Int) : Prop := ∀ (fn : S) (s : Sc) (e : E) (st : St) (ec : AV) (le : List AV) (h : T Blk) (nx : Key), c0 ≤ st.cf → 0 ≤ st.calls → st.calls ≤ 256 → RR rb dc L st 0 h nx → REnv ec s.reverse → IsE le e → Sm e →
 CallA C n_ycg [.ptr rb 0, ec, .agg le, SA fn, I st.calls] h nx (REndsZ rb dc L h nx (rec_ fn s e st))
theorem RvOKz.weak {C : Cfg} {rb : Key} {dc : AV} {L : Lim} {rec_ : Rec} {c0 : Int} (H : RvOKz C rb dc L rec_ c0) : RvOK C rb dc L rec_ c0 :=
 fun fn s e st ec le h nx a b c d f g i => (H fn s e st ec le h nx a b c d f g i).mono fun _ _ _ x => x.weak
end Tz
/-
 SV: the reference evaluator's rows. No condition.
-/
namespace Tz
open Go.Sx Go
theorem Fb.add {rb : Key} {h h1 h2 : T Blk} {nx n1 n2 : Key} (f : Fb rb h nx h1 n1) (hn : n1.toNat ≤ n2.toNat) (e : T.get rb h2 = T.get rb h1) (g : ∀ b : Key, b.toNat < nx.toNat → T.get b h2 = T.get b h1) : Fb rb h nx h2 n2 :=
 ⟨Nat.le_trans f.n hn, fun b hb hr ho => by rw [g b hb]; exact f.g b hb hr ho, fun b hb o => f.o b hb ((Own.of e).1 o)⟩
def RAll (rb : Key) (dc : AV) (L : Lim) (h : T Blk) (nx : Key) (n : Nat) (r : ResL) (o : Out) (h' : T Blk) (nx' : Key) : Prop := Fb rb h nx h' nx' ∧ ∃ c vs, o = .ret c ∧ IsK c vs ∧ match r with
 | .ok l st => vs = l ∧ l.length = n ∧ RR rb dc L st 0 h' nx'
 | .stop x st => x ≠ 0 ∧ RR rb dc L st x h' nx'
def RAInv (rb : Key) (dc : AV) (L : Lim) (rec_ : Rec) (fn : S) (s : Sc) (es : List E) (st : St) (ec ck : AV) (h : T Blk) (nx : Key) (m : Nat) (tm' : T AV) (h' : T Blk) (nx' : Key) : Prop :=
 ∃ (j : Nat) (vs : List V) (c : AV) (cs : List AV) (x : Int) (stj : St), m = es.length - j ∧ j ≤ es.length ∧ vs.length = j ∧ T.get (K 0) tm' = some (.ptr rb 0) ∧ T.get (K 1) tm' = some ec ∧ T.get (K 2) tm' = some ck ∧ T.get (K 3) tm' = some (SA fn) ∧ T.get (K 4) tm' = some (I st.calls) ∧ T.get (K 11) tm' = some c ∧ T.get (K 12) tm' = some (I j) ∧
  Fb rb h nx h' nx' ∧ RR rb dc L stj x h' nx' ∧ Ap rb c cs j 4 h' nx' nx ∧ IsVs cs vs ∧
  ((x = 0 ∧ st.cf ≤ stj.cf ∧ stj.calls = st.calls ∧ allF rec_ fn s es st = match allF rec_ fn s (es.drop j) stj with | .ok r st' => .ok (vs ++ r) st' | .stop c st' => .stop c st') ∨ (x ≠ 0 ∧ allF rec_ fn s es st = .stop x stj))
variable {C : Cfg} (S : Std C) {rb : Key} {dc : AV} {L : Lim} {rec_ : Rec} {c0 : Int} (HE : RvOK C rb dc L rec_ c0) (G : GoodR L rec_)
include S HE G
theorem rvall_ok {fn : Go.Sx.S} {s : Sc} {es : List E} {st : St} {ec ck : AV} {h : T Blk} {nx : Key} (hc : c0 ≤ st.cf) (k0 : 0 ≤ st.calls) (k1 : st.calls ≤ 256) (hr : RR rb dc L st 0 h nx) (hs : REnv ec s.reverse) (hk : IsEK ck es) (hm : ∀ e ∈ es, Sm e) :
  CallA C n_ych [.ptr rb 0, ec, ck, SA fn, I st.calls] h nx (RAll rb dc L h nx es.length (allF rec_ fn s es st)) := by
 have hs' : ∀ n h, frzA n ec h = (ec, h) := hs.stb
 have low := hr.low
 refine S.c_ych.call ?_
 simp [ych]
 simp [ych_r0]
 simp [ych_r1]
 simp [ych_r2]
 rcases hk with ⟨rfl, rfl⟩ | ⟨cs, rfl, hel, hcs⟩
 ·refine W.unroll (W.of ?_)
  simp [ych_l0]
  simp [ych_r3]
  simp [ych_r6]
  exact ⟨Fb.refl, _, [], rfl, .inl ⟨rfl, rfl⟩, rfl, rfl, hr⟩
 ·refine W.loopM (n := es.length) (RAInv rb dc L rec_ fn s es st ec (.sl cs es.length 7 .any) h nx) ?_ ?_
  ·refine ⟨0, [], .nils, [], 0, st, by simp, by omega, rfl, ?_, ?_, ?_, ?_, ?_, ?_, ?_, Fb.refl, hr, Ap.nil 4, IsVs.nil, .inl ⟨rfl, by omega, rfl, ?_⟩⟩ <;> simp
   cases allF rec_ fn s es st <;> rfl
  ·rintro m tm1 h1 nx1 ⟨j, vs, c, cs1, x, stj, rfl, hj, hvj, f0, f1, f2, f3, f4, f11, f12, F1, R1, A1, hV, hx⟩
   have low1 := R1.low
   have t1 := F1.n
   have hfin : (x = 0 ∧ j = es.length) ∨ x ≠ 0 → RAll rb dc L h nx es.length (allF rec_ fn s es st) (.ret (frzA 8 c h1).1) (frzA 8 c h1).2 nx1 := by
    intro hh
    obtain ⟨hz1, hz2, hz3⟩ := A1.fast (IsVs.stbs hV) 7
    have hK : IsK (frzA 8 c h1).1 vs := by
     rcases hz1 with ⟨e, e2, e3⟩ | e
     ·exact .inl ⟨e, List.eq_nil_of_length_eq_zero (by omega)⟩
     ·exact .inr ⟨cs1, by rw [e, hvj], by omega, hV⟩
    have hR : RR rb dc L stj x (frzA 8 c h1).2 nx1 := R1.keep (Nat.le_refl _) hz2 fun b hb o => hz3 b fun oc => (A1.own b oc).1 o
    refine ⟨F1.add (Nat.le_refl _) hz2 fun b hb => hz3 b fun oc => by have := (A1.own b oc).2.2; omega, _, vs, rfl, hK, ?_⟩
    rcases hx with ⟨hx0, hcf, hcl, hall⟩ | ⟨hx0, hall⟩
    ·subst hx0
     rcases hh with ⟨_, hh⟩ | hh
     ·rw [hall, hh, List.drop_length]
      simp [allF]
      exact ⟨by omega, hR⟩
     ·exact absurd rfl hh
    ·rw [hall]
     exact ⟨hx0, hR⟩
   obtain ⟨br1, hb1, ha1⟩ := R1.blk
   refine W.of ?_
   simp [ych_l0]
   by_cases hlt : j < es.length
   ·have hlt' : (j : Int) < es.length := by omega
    by_cases hx0 : x = 0
    ·subst hx0
     simp [ych_r3, f0, f2, f12, hlt', hlt, hb1]
     rcases hx with ⟨_, hcf, hcl, hall⟩ | ⟨hx0, hall⟩
     ·obtain ⟨hst, hok⟩ := allF_split rec_ fn s es st j vs stj hall hlt
      have h7 : 7 ≤ cs.length - j * 7 := by have := hcs.hc; omega
      have hE := hcs.hk j hlt
      obtain ⟨cn, cb, ck, el, hn, hb, hk, hq⟩ := hE.cells
      have g1 : ∀ n h, frzA n cn h = (cn, h) := by rcases hn with ⟨rfl, _⟩ | rfl <;> exact fun n h => by cases n <;> rfl
      have g2 : ∀ n h, frzA n cb h = (cb, h) := by rcases hb with ⟨rfl, _⟩ | ⟨_, rfl, _⟩ <;> exact fun n h => by cases n <;> rfl
      have g3 : ∀ n h, frzA n ck h = (ck, h) := hk.stb
      simp [-appendTo, ych_r4, f0, f1, f2, f3, f4, f11, f12, hlt, h7, S.raw, hs', el, g1, g2, g3]
      rw [← el]
      have key := HE fn s es[j] stj ec _ h1 nx1 (by omega) (by omega) (by omega) R1 hs hE (hm _ (List.getElem_mem _))
      rw [hcl] at key
      refine key.mono ?_
      rintro o h2 nx2 ⟨F2, lv, rfl, hR⟩
      have t2 := F2.n
      have A2 := A1.keep F2
      have low2 : rb.toNat < nx2.toNat := by omega
      have u2 := Key.toNat_succ nx2
      obtain ⟨v, x2, st2, hv, R2, hx2⟩ : ∃ (v : V) (x2 : Int) (st2 : St), IsV lv v ∧ RR rb dc L st2 x2 h2 nx2 ∧ ((x2 = 0 ∧ st.cf ≤ st2.cf ∧ st2.calls = st.calls ∧ allF rec_ fn s es st = match allF rec_ fn s (es.drop (j + 1)) st2 with | .ok r st' => .ok (vs ++ [v] ++ r) st' | .stop c st' => .stop c st') ∨ (x2 ≠ 0 ∧ allF rec_ fn s es st = .stop x2 st2)) := by
       cases hrec : rec_ fn s es[j] stj with
       | ok v st2 =>
        rw [hrec] at hR
        have hg := G _ _ _ _ _ _ hrec
        have hgc := hg.c
        have hgk := hg.k
        exact ⟨v, 0, st2, hR.1, hR.2, .inl ⟨rfl, by omega, by omega, hok v st2 hrec⟩⟩
       | stop x2 st2 =>
        rw [hrec] at hR
        obtain ⟨hx2, ⟨v, hv⟩, hR⟩ := hR
        exact ⟨v, x2, st2, hv, hR, .inr ⟨hx2, hst x2 st2 hrec⟩⟩
      obtain ⟨cv, rfl, hKv⟩ := hv.cells
      have hccv := IsK.cell hKv
      have hcfv : ∀ n h, frzA n cv h = (cv, h) := IsK.stb hKv
      have F3 := Fb.ext (rb := rb) low2 (E0 h2 nx2 (.cells [I v.k, I v.n, .str v.a v.b, cv] .fix))
      have A3 := A2.keep F3
      have R3 := R2.ext (E0 h2 nx2 (.cells [I v.k, I v.n, .str v.a v.b, cv] .fix))
      obtain ⟨c', h5, nx5, ha, A5, t5, e5, g5⟩ := A3.add (new := [I v.k, I v.n, .str v.a v.b, cv]) (by omega) (by omega) (fun b o => (R3.own o).1) rfl (by omega) (by simp [hccv])
      have hbq := A3.app.beq (by
       have := (IsV.node 0 0 0 0 cs1 vs (by omega) hV.hc hV.hk).lits
       simpa [AV.litsL, AV.lits] using this)
      simp [-appendTo, hccv, hcfv, hbq, List.filter_cons, IsK.cells hKv, ha]
      have hvn := hV.append (IsVs.one hv)
      have F5 : Fb rb h nx h5 nx5 := ((F1.trans F2).trans F3).add t5 e5 fun b hb => g5 b (by omega) fun oc => by have := (A3.own b oc).2.2; omega
      have R5 : RR rb dc L st2 x2 h5 nx5 := R3.keep t5 e5 fun b hb o => g5 b hb fun oc => (A3.own b oc).1 o
      simp [ych_r5, f12]
      refine ⟨es.length - (j + 1), by omega, j + 1, vs ++ [v], c', _, x2, st2, rfl, by omega, by simp [hvj], ?_, ?_, ?_, ?_, ?_, ?_, ?_, F5, R5, A5, hvn, hx2⟩
      ·simp [f0]
      ·simp [f1]
      ·simp [f2]
      ·simp [f3]
      ·simp [f4]
      ·simp
      ·simp; rw [wrap_id (by omega) (by omega)]
     ·exact absurd rfl hx0
    ·have hx' : (x == 0) = false := by simpa using hx0
     simp [ych_r3, f0, f2, f12, hlt', hlt, hb1, hx']
     simp [ych_r6, f11]
     exact hfin (.inr hx0)
   ·have hlt' : ¬ (j : Int) < es.length := by omega
    simp [ych_r3, f0, f2, f12, hlt', hlt]
    simp [ych_r6, f11]
    by_cases hx0 : x = 0
    ·exact hfin (.inl ⟨hx0, by omega⟩)
    ·exact hfin (.inr hx0)
end Tz
/-
 SV: the reference evaluator's small functions. No condition.
-/
namespace Tz
open Go.Sx Go
theorem IsE.frz {le : List AV} {e : E} (h : IsE le e) (n : Nat) (H : T Blk) : frzLA (frzA n) le H = (le, H) := by
 obtain ⟨cn, cb, ck, rfl, hn, hb, hk, hq⟩ := h.cells
 refine frzLA_stb fun x hx => ?_
 have i1 : ∀ n : Int, Stb (I n) := fun n k h => by cases k <;> rfl
 simp at hx
 rcases hx with rfl | rfl | rfl | rfl | rfl | rfl | rfl
 ·exact i1 _
 ·exact stb_str _ _
 ·exact i1 _
 ·rcases hn with ⟨rfl, _⟩ | rfl <;> exact fun n h => by cases n <;> rfl
 ·rcases hb with ⟨rfl, _⟩ | ⟨_, rfl, _⟩ <;> exact fun n h => by cases n <;> rfl
 ·exact hk.stb
 ·exact i1 _
theorem rendb_ok {C : Cfg} (S : Std C) {rb : Key} {dc : AV} {L : Lim} {st : St} {x : Int} (c : Int) {h : T Blk} {nx : Key} (hr : RR rb dc L st x h nx) :
  CallA C n_ycm [.ptr rb 0, I c] h nx (fun o h' nx' => o = .ret (.tuple []) ∧ Fb rb h nx h' nx' ∧ RR rb dc L st (if x = 0 then c else x) h' nx') := by
 obtain ⟨br, hb, ha⟩ := hr.blk
 refine S.c_ycm.call ?_
 simp [ycm]
 by_cases hx : x = 0
 ·subst hx
  simp [ycm_r0, hb]
  simp [ycm_r1, hb, tupled]
  exact ⟨Fb.num hb, hr.nums hb ha rfl hr.c0 hr.c1 hr.nb hr.b0⟩
 ·have hx' : (x == 0) = false := by simpa using hx
  simp [ycm_r0, hb, hx, hx', tupled]
  exact ⟨Fb.refl, hr⟩
section
variable {C : Cfg} (S : Std C) {rb : Key} {dc : AV} {L : Lim} {rec_ : Rec} {c0 : Int} (HE : RvOK C rb dc L rec_ c0)
include S HE
def RCond (rb : Key) (dc : AV) (L : Lim) (h : T Blk) (nx : Key) (r : Res) (o : Out) (h' : T Blk) (nx' : Key) : Prop := Fb rb h nx h' nx' ∧ match r with
 | .stop c st => c ≠ 0 ∧ o = .ret (.bool false) ∧ RR rb dc L st c h' nx'
 | .ok v st => (v.k = 1 → o = .ret (.bool (v.n == 1)) ∧ RR rb dc L st 0 h' nx') ∧ (v.k ≠ 1 → o = .ret (.bool false) ∧ RR rb dc L st 9 h' nx')
theorem rcond_ok {fn : Go.Sx.S} {s : Sc} {e : E} {st : St} {ec : AV} {le : List AV} {h : T Blk} {nx : Key} (hc : c0 ≤ st.cf) (k0 : 0 ≤ st.calls) (k1 : st.calls ≤ 256) (hr : RR rb dc L st 0 h nx) (hs : REnv ec s.reverse) (he : IsE le e) (hm : Sm e) :
  CallA C n_yck [.ptr rb 0, ec, .agg le, SA fn, I st.calls] h nx (RCond rb dc L h nx (rec_ fn s e st)) := by
 have hs' : ∀ n h, frzA n ec h = (ec, h) := hs.stb
 have low := hr.low
 have hrb : nx ≠ rb := fun e => by rw [← e] at low; omega
 have s1 := Key.toNat_succ nx
 obtain ⟨cn, cb, ck, el, hn, hb, hk, hq⟩ := he.cells
 have g1 : ∀ n h, frzA n cn h = (cn, h) := by rcases hn with ⟨rfl, _⟩ | rfl <;> exact fun n h => by cases n <;> rfl
 have g2 : ∀ n h, frzA n cb h = (cb, h) := by rcases hb with ⟨rfl, _⟩ | ⟨_, rfl, _⟩ <;> exact fun n h => by cases n <;> rfl
 have g3 : ∀ n h, frzA n ck h = (ck, h) := hk.stb
 have c1 : cn.isCell = true := by rcases hn with ⟨rfl, _⟩ | rfl <;> rfl
 have c2 : cb.isCell = true := by rcases hb with ⟨rfl, _⟩ | ⟨_, rfl, _⟩ <;> rfl
 have c3 : ck.isCell = true := by rcases hk with ⟨rfl, _⟩ | ⟨_, rfl, _⟩ <;> rfl
 subst el
 refine S.c_yck.call ?_
 simp [yck]
 simp [yck_r0, c1, c2, c3]
 have F0 := Fb.ext (rb := rb) low (E0 h nx (.cells [I e.k, SA e.name, I e.n, cn, cb, ck, I e.at_] .fix))
 have R0 := hr.ext (E0 h nx (.cells [I e.k, SA e.name, I e.n, cn, cb, ck, I e.at_] .fix))
 simp [yck_r1, S.raw, hs', g1, g2, g3]
 refine (HE fn s e st ec _ _ _ hc k0 k1 R0 hs he hm).mono ?_
 rintro o h1 nx1 ⟨F1, lv, rfl, hR⟩
 have F1 := F0.trans F1
 have t1 := F1.n
 have u1 := Key.toNat_succ nx1
 obtain ⟨v, x, st', hv, R1, hx⟩ : ∃ (v : V) (x : Int) (st' : St), IsV lv v ∧ RR rb dc L st' x h1 nx1 ∧ ((x = 0 ∧ rec_ fn s e st = .ok v st') ∨ (x ≠ 0 ∧ rec_ fn s e st = .stop x st')) := by
  cases hrec : rec_ fn s e st with
  | ok v st2 =>
   rw [hrec] at hR
   exact ⟨v, 0, st2, hR.1, hR.2, .inl ⟨rfl, rfl⟩⟩
  | stop x2 st2 =>
   rw [hrec] at hR
   obtain ⟨hx2, ⟨v, hv⟩, hR⟩ := hR
   exact ⟨v, x2, st2, hv, hR, .inr ⟨hx2, rfl⟩⟩
 obtain ⟨cv, rfl, hKv⟩ := hv.cells
 have hccv := IsK.cell hKv
 simp [hccv]
 have low1 : rb.toNat < nx1.toNat := by omega
 have E2 := E0 h1 nx1 (.cells [I v.k, I v.n, .str v.a v.b, cv] .fix)
 have F2 := F1.trans (Fb.ext (rb := rb) low1 E2)
 have R2 := R1.ext E2
 have hn1 : nx1 ≠ rb := fun e => by rw [e] at low1; omega
 by_cases hk1 : v.k = 1
 ·obtain ⟨br, hb2, ha2⟩ := R2.blk
  simp [yck_r2, hk1]
  simp only [hk1] at hb2
  rcases hx with ⟨rfl, hrec⟩ | ⟨hx, hrec⟩
  ·simp [yck_r4, hb2]
   rw [hrec]
   rw [hk1] at F2 R2
   exact ⟨F2, fun _ => ⟨rfl, R2⟩, fun hh => absurd hk1 hh⟩
  ·have hx' : (x == 0) = false := by simpa using hx
   simp [yck_r4, hb2, hx']
   rw [hrec]
   rw [hk1] at F2 R2
   exact ⟨F2, hx, rfl, R2⟩
 ·have hk1' : (v.k == 1) = false := by simpa using hk1
  simp [yck_r2, hk1, hk1']
  simp [yck_r3, S.raw]
  refine (rendb_ok S 9 R2).mono ?_
  rintro o h3 nx3 ⟨rfl, f3, R3⟩
  have q3 := f3.fix R2 (b := nx1) (T.get_set_same _ _ _) (by omega) hn1
  have F3 := F2.trans f3
  obtain ⟨br3, hb3, ha3⟩ := R3.blk
  rcases hx with ⟨rfl, hrec⟩ | ⟨hx, hrec⟩
  ·simp at hb3 R3
   simp [tupled]
   simp [yck_r4, hb3]
   rw [hrec]
   exact ⟨F3, fun hh => absurd hh hk1, fun _ => ⟨rfl, R3⟩⟩
  ·have hx' : (x == 0) = false := by simpa using hx
   simp [hx] at hb3 R3
   simp [tupled]
   simp [yck_r4, hb3, hx']
   rw [hrec]
   exact ⟨F3, hx, rfl, R3⟩
end
end Tz
/-
 SV: the reference evaluator's kinds, names and lists. No condition.
-/
namespace Tz
open Go.Sx Go
def kindsB : List V → List Int → Bool
 | v :: vs, w :: ws => (decide (w < 0) || (v.k == w)) && kindsB vs ws
 | _, _ => true
theorem getI {ws : List Int} {j : Nat} (h : j < ws.length) : (ws.map I)[j]? = some (I ws[j]) := by simp [h]
variable {C : Cfg} (S : Std C) {rb : Key} {dc : AV} {L : Lim}
include S
theorem rkinds_ok {st : St} {c : AV} {vs : List V} (ws : List Int) {h : T Blk} {nx : Key} (hr : RR rb dc L st 0 h nx) (hk : IsK c vs) (hl : ws.length ≤ vs.length) (hp : 0 < ws.length) :
  CallA C n_ycn [.ptr rb 0, c, .sl (ws.map I) ws.length 1 .any] h nx (fun o h' nx' => Fb rb h nx h' nx' ∧ o = .ret (.bool (kindsB vs ws)) ∧ RR rb dc L st (if kindsB vs ws then 0 else 9) h' nx') := by
 rcases hk with ⟨rfl, rfl⟩ | ⟨cs, rfl, hvl, hcs⟩
 ·have : ws.length ≤ 0 := hl
  omega
 refine S.c_ycn.call ?_
 simp [ycn]
 simp [ycn_r0]
 simp [ycn_r1]
 refine W.loopM (n := ws.length) (fun m tm' h' nx' => ∃ (j : Nat), m = ws.length - j ∧ j ≤ ws.length ∧ T.get (K 0) tm' = some (.ptr rb 0) ∧ T.get (K 1) tm' = some (.sl cs vs.length 4 .any) ∧ T.get (K 2) tm' = some (.sl (ws.map I) ws.length 1 .any) ∧ T.get (K 7) tm' = some (I j) ∧ h' = h ∧ nx' = nx ∧ kindsB vs ws = kindsB (vs.drop j) (ws.drop j)) ?_ ?_
 ·refine ⟨0, by simp, by omega, ?_, ?_, ?_, ?_, rfl, rfl, by simp⟩ <;> simp
 ·rintro m tm1 h1 nx1 ⟨j, rfl, hj, f0, f1, f2, f7, rfl, rfl, hB⟩
  refine W.of ?_
  simp [ycn_l0]
  by_cases hlt : j < ws.length
  ·have hlt' : (j : Int) < ws.length := by omega
   have hjv : j < vs.length := by omega
   obtain ⟨cv, ev, hKv⟩ := hcs.at hjv
   have h4 : 4 ≤ cs.length - j * 4 := by have := hcs.hc; omega
   have hgi := getI hlt
   have h1j : 1 ≤ ws.length - j := by omega
   rw [List.drop_eq_getElem_cons hlt, List.drop_eq_getElem_cons hjv, kindsB] at hB
   simp [ycn_r2, f2, f7, hlt']
   have hgd : (List.drop j (ws.map I)).take 1 = [I ws[j]] := by
    rw [List.drop_eq_getElem_cons (by simpa using hlt)]; simp
   by_cases hw : ws[j] < 0
   ·have hw' : ¬ (0 ≤ ws[j]) := by omega
    simp [ycn_r3, f0, f1, f2, f7, hlt, hgi, hgd, h1j, hw, hw']
    simp [ycn_r6, f7]
    refine ⟨ws.length - (j + 1), by omega, j + 1, rfl, by omega, ?_, ?_, ?_, ?_, ?_⟩
    ·simp [f0]
    ·simp [f1]
    ·simp [f2]
    ·simp; rw [wrap_id (by omega) (by omega)]
    ·rw [hB]; simp [hw]
   ·have hw' : 0 ≤ ws[j] := by omega
    by_cases hkk : vs[j].k = ws[j]
    ·have hkk' : (vs[j].k == ws[j]) = true := by simpa using hkk
     simp [ycn_r3, f0, f1, f2, f7, hlt, hjv, h4, ev, hgi, hgd, h1j, hw, hw', hkk]
     simp [ycn_r6, f7]
     refine ⟨ws.length - (j + 1), by omega, j + 1, rfl, by omega, ?_, ?_, ?_, ?_, ?_⟩
     ·simp [f0]
     ·simp [f1]
     ·simp [f2]
     ·simp; rw [wrap_id (by omega) (by omega)]
     ·rw [hB]; simp [hkk]
    ·have hkk' : (vs[j].k == ws[j]) = false := by simpa using hkk
     have hBf : kindsB vs ws = false := by rw [hB]; simp [hw, hkk']
     simp [ycn_r3, f0, f1, f2, f7, hlt, hjv, h4, ev, hgi, hgd, h1j, hw, hw', hkk, hkk']
     simp [ycn_r4, f0, S.raw]
     refine (rendb_ok S 9 hr).mono ?_
     rintro o h3 nx3 ⟨rfl, f3, R3⟩
     simp at R3
     simp [tupled, ycn_r5, hBf]
     exact ⟨f3, R3⟩
  ·have hlt' : ¬ (j : Int) < ws.length := by omega
   have hBt : kindsB vs ws = true := by
    rw [hB, List.drop_eq_nil_of_le (as := ws) (by omega)]
    cases List.drop j vs <;> rfl
   simp [ycn_r2, f2, f7, hlt']
   simp [ycn_r7, hBt]
   exact ⟨Fb.refl, hr⟩
end Tz
/-
 SV: the reference's operators, and whether an expression is formed. No condition.
-/
namespace Tz
open Go.Sx Go
def opsOf (i : Int) : List S :=
 if i = 1 then [(2, 29295)] else if i = 2 then [(3, 6581857)] else if i = 4 then [(2, 15677), (2, 15649), (1, 60), (2, 15676)] else if i = 5 then [(1, 43), (1, 45)] else if i = 6 then [(1, 42)] else []
theorem ops_len (i : Int) : (opsOf i).length ≤ 4000 := by
 unfold opsOf
 split <;> (try simp)
 split <;> (try simp)
 split <;> (try simp)
 split <;> (try simp)
 split <;> simp
theorem lit_row (l : List S) (h : T Blk) (nx : Key) : IsS (frzA 8 (.slice nx 0 l.length 1) (T.set nx (some (.cells (l.map SA) .fix)) h)).1 l ∧ Ext h nx (frzA 8 (.slice nx 0 l.length 1) (T.set nx (some (.cells (l.map SA) .fix)) h)).2 nx.succ := by
 have s1 := Key.toNat_succ nx
 rw [frz_fix (l := l.map SA) (T.get_set_same _ _ _) (by simp) (fun x hx => by obtain ⟨y, _, rfl⟩ := List.mem_map.1 hx; exact stb_str _ _)]
 exact ⟨.inr rfl, by omega, fun b hb => by rw [get_lt hb, get_lt hb]⟩
variable {C : Cfg} (S : Std C)
include S
theorem rin_ok {c : AV} {l : List Go.Sx.S} (hc : IsS c l) (hl : l.length ≤ 4000) (nm : Go.Sx.S) : Pur C n_ybw [c, SA nm] (· = .ret (.bool (decide (nm ∈ l)))) := by
 intro h nx
 refine S.c_ybw.call ?_
 simp [ybw]
 simp [ybw_r0]
 simp [ybw_r1]
 rcases hc with ⟨rfl, rfl⟩ | rfl
 ·refine W.unroll (W.of ?_)
  simp [ybw_l0]
  simp [ybw_r2]
  simp [ybw_r6]
  exact Ext.refl _ _
 refine W.loopM (n := l.length) (fun m tm' h' nx' => ∃ (j : Nat), m = l.length - j ∧ j ≤ l.length ∧ T.get (K 0) tm' = some (.sl (l.map SA) l.length 1 .any) ∧ T.get (K 1) tm' = some (SA nm) ∧ T.get (K 5) tm' = some (I j) ∧ h' = h ∧ nx' = nx ∧ ∀ x ∈ l.take j, x ≠ nm) ?_ ?_
 ·refine ⟨0, by simp, by omega, ?_, ?_, ?_, rfl, rfl, by simp⟩ <;> simp
 ·rintro m tm1 h1 nx1 ⟨j, rfl, hj, f0, f1, f5, rfl, rfl, hB⟩
  refine W.of ?_
  simp [ybw_l0]
  by_cases hlt : j < l.length
  ·have hlt' : (j : Int) < l.length := by omega
   have h1j : 1 ≤ l.length - j := by omega
   have hgi : (l.map SA)[j]? = some (SA l[j]) := by simp [hlt]
   have hgd : (List.drop j (l.map SA)).take 1 = [SA l[j]] := by
    rw [List.drop_eq_getElem_cons (by simpa using hlt)]; simp
   simp [ybw_r2, f0, f5, hlt']
   by_cases he : l[j] = nm
   ·have he1 : (l[j].1 == nm.1) = true := by simp [he]
    have he2 : (l[j].2 == nm.2) = true := by simp [he]
    have hin : nm ∈ l := he ▸ List.getElem_mem _
    simp [ybw_r3, f0, f1, f5, hlt, hgi, hgd, h1j, he]
    simp [ybw_r4, hin]
    exact Ext.refl _ _
   ·have he' : ¬ (l[j].1 = nm.1 ∧ l[j].2 = nm.2) := fun hh => he (Prod.ext hh.1 hh.2)
    simp [ybw_r3, f0, f1, f5, hlt, hgi, hgd, h1j]
    refine ⟨fun a b => absurd ⟨a, b⟩ he', fun _ => ?_⟩
    simp [ybw_r5, f5]
    refine ⟨l.length - (j + 1), by omega, j + 1, rfl, by omega, ?_, ?_, ?_, ?_⟩
    ·simp [f0]
    ·simp [f1]
    ·simp; rw [wrap_id (by omega) (by omega)]
    ·intro a b hx
     rw [List.take_succ_eq_append_getElem hlt] at hx
     rcases List.mem_append.1 hx with hx | hx
     ·exact hB _ hx
     ·simp at hx; rw [hx]; exact he
  ·have hlt' : ¬ (j : Int) < l.length := by omega
   have hni : nm ∉ l := fun hh => hB nm (by rw [List.take_of_length_le (by omega)]; exact hh) rfl
   simp [ybw_r2, f0, f5, hlt']
   simp [ybw_r6, hni]
   exact Ext.refl _ _
theorem rops_ok (i : Int) (h0 : 0 < i) (h7 : i < 7) : Pur C n_ybu [I i] (fun o => ∃ c, IsS c (opsOf i) ∧ o = .ret c) := by
 intro h nx
 have key : ∀ (l : List Go.Sx.S) (h : T Blk) (nx : Key), Ext h nx (T.set nx (some (Blk.cells (l.map SA) .ro)) h) nx.succ := fun l h nx => E0 h nx _
 have cs : i = 1 ∨ i = 2 ∨ i = 3 ∨ i = 4 ∨ i = 5 ∨ i = 6 := by omega
 refine S.c_ybu.call ?_
 simp [ybu]
 simp [ybu_r0]
 simp [ybu_r1]
 rcases cs with rfl | rfl | rfl | rfl | rfl | rfl
 ·simp [ybu_r2, ybu_r3, opsOf]
  exact lit_row [(2, 29295)] h nx
 ·simp [ybu_r2, ybu_r4, ybu_r5, opsOf]
  exact lit_row [(3, 6581857)] h nx
 ·simp [ybu_r2, ybu_r4, ybu_r6, ybu_r8, ybu_r10, ybu_r12, opsOf]
  exact ⟨.inl ⟨rfl, rfl⟩, Ext.refl _ _⟩
 ·simp [ybu_r2, ybu_r4, ybu_r6, ybu_r7, opsOf]
  exact lit_row [(2, 15677), (2, 15649), (1, 60), (2, 15676)] h nx
 ·simp [ybu_r2, ybu_r4, ybu_r6, ybu_r8, ybu_r9, opsOf]
  exact lit_row [(1, 43), (1, 45)] h nx
 ·simp [ybu_r2, ybu_r4, ybu_r6, ybu_r8, ybu_r10, ybu_r11, opsOf]
  exact lit_row [(1, 42)] h nx
def RankIs (nm : Go.Sx.S) (r : Int) : Prop := (∃ i, 0 < i ∧ i < 7 ∧ nm ∈ opsOf i ∧ r = i) ∨ ((∀ i, 0 < i → i < 7 → nm ∉ opsOf i) ∧ r = if nm = (3, 7630702) then 3 else 0)
theorem rrank_ok (nm : Go.Sx.S) : Pur C n_ybv [SA nm] (fun o => ∃ r, RankIs nm r ∧ o = .ret (I r)) := by
 intro h nx
 refine S.c_ybv.call ?_
 simp [ybv]
 simp [ybv_r0]
 simp [ybv_r1]
 refine W.loopM (n := 6) (fun m tm' h' nx' => ∃ (j : Int), m = (7 - j).toNat ∧ 0 < j ∧ j ≤ 7 ∧ T.get (K 0) tm' = some (SA nm) ∧ T.get (K 3) tm' = some (I j) ∧ Ext h nx h' nx' ∧ ∀ i, 0 < i → i < j → nm ∉ opsOf i) ?_ ?_
 ·refine ⟨1, by simp, by omega, by omega, ?_, ?_, Ext.refl _ _, fun i a b => by omega⟩ <;> simp
 ·rintro m tm1 h1 nx1 ⟨j, rfl, j0, j7, f0, f3, e1, hB⟩
  refine W.of ?_
  simp [ybv_l0]
  by_cases hlt : j < 7
  ·simp [ybv_r2, f3, hlt]
   simp [ybv_r3, f0, f3, S.raw]
   refine (rops_ok S j j0 hlt _ _).mono ?_
   rintro o h2 nx2 ⟨⟨c, hc, rfl⟩, e2⟩
   have hcf : ∀ n h, frzA n c h = (c, h) := by rcases hc with ⟨rfl, _⟩ | rfl <;> exact fun n h => by cases n <;> rfl
   simp [hcf, f0, S.raw]
   refine (rin_ok S hc (ops_len j) nm _ _).mono ?_
   rintro o h3 nx3 ⟨rfl, e3⟩
   have e := (e1.trans e2).trans e3
   by_cases hin : nm ∈ opsOf j
   ·simp [hin]
    simp [ybv_r4, f3]
    exact ⟨.inl ⟨j, j0, hlt, hin, rfl⟩, e⟩
   ·simp [hin]
    simp [ybv_r5, f3]
    refine ⟨(7 - (j + 1)).toNat, by omega, j + 1, rfl, by omega, by omega, ?_, ?_, e, fun i a b => ?_⟩
    ·simp [f0]
    ·rw [wrap_id (by omega) (by omega)]
    ·by_cases hij : i = j
     ·rw [hij]; exact hin
     ·exact hB i a (by omega)
  ·have hj : j = 7 := by omega
   subst hj
   simp [ybv_r2, f3]
   by_cases hnm : nm = (3, 7630702)
   ·subst hnm
    simp [ybv_r6, f0]
    simp [ybv_r7]
    exact ⟨.inr ⟨hB, by simp⟩, e1⟩
   ·have hne : ¬ (nm.1 = 3 ∧ nm.2 = 7630702) := fun hh => hnm (Prod.ext hh.1 hh.2)
    simp [ybv_r6, f0]
    refine ⟨fun a b => absurd ⟨a, b⟩ hne, fun _ => ?_⟩
    simp [ybv_r8]
    exact ⟨.inr ⟨hB, by simp [hnm]⟩, e1⟩
end Tz
/-
 SV: whether an expression is formed; how many arguments; lists. No condition.
-/
namespace Tz
open Go.Sx Go
section
variable {C : Cfg} (S : Std C)
include S
theorem rformed_ok {le : List AV} {e : E} (he : IsE le e) (hk : Sk e) : Pur C n_ycv [.agg le] (· = .ret (.bool true)) := by
 intro h nx
 obtain ⟨cn, cb, ck, rfl, hn, hb, hK, hq⟩ := he.cells
 have c1 : cn.isCell = true := by rcases hn with ⟨rfl, _⟩ | rfl <;> rfl
 have c2 : cb.isCell = true := by rcases hb with ⟨rfl, _⟩ | ⟨_, rfl, _⟩ <;> rfl
 have c3 : ck.isCell = true := by rcases hK with ⟨rfl, _⟩ | ⟨_, rfl, _⟩ <;> rfl
 refine S.c_ycv.call ?_
 simp [ycv]
 simp [ycv_r0, c1, c2, c3]
 have E1 := E0 h nx (.cells [I e.k, SA e.name, I e.n, cn, cb, ck, I e.at_] .fix)
 rcases hK with ⟨rfl, h2⟩ | ⟨cs, rfl, hl, hcs⟩
 ·simp [ycv_r1]
  rcases hk with hk | hk | ⟨hk, _⟩ | ⟨hk, h3⟩ | ⟨hk, h3, _⟩
  ·simp [ycv_r2, ycv_r3, ycv_r8, hk]; rw [hk] at E1; exact E1
  ·simp [ycv_r2, ycv_r3, ycv_r4, ycv_r8, hk]; rw [hk] at E1; exact E1
  ·simp [ycv_r2, ycv_r3, ycv_r4, ycv_r5, ycv_r8, hk]; rw [hk] at E1; exact E1
  ·rw [h2] at h3; cases h3
  ·rw [h2] at h3; cases h3
 ·simp [ycv_r1]
  rcases hk with hk | hk | ⟨hk, _⟩ | ⟨hk, h3⟩ | ⟨hk, h3, hnm⟩
  ·simp [ycv_r2, ycv_r3, ycv_r8, hk]; rw [hk] at E1; exact E1
  ·simp [ycv_r2, ycv_r3, ycv_r4, ycv_r8, hk]; rw [hk] at E1; exact E1
  ·simp [ycv_r2, ycv_r3, ycv_r4, ycv_r5, ycv_r8, hk]; rw [hk] at E1; exact E1
  ·simp [ycv_r2, ycv_r3, ycv_r4, ycv_r5, ycv_r6, ycv_r7, ycv_r9, ycv_r11, hk]
   simp [ycv_r12, h3]; rw [hk, h3] at E1; exact E1
  ·simp [ycv_r2, ycv_r3, ycv_r4, ycv_r5, ycv_r6, ycv_r7, ycv_r9, ycv_r11, ycv_r13, ycv_r15, ycv_r17, hk]
   simp [ycv_r18, S.raw]
   refine (rrank_ok S e.name _ _).mono ?_
   rintro o h1 nx1 ⟨⟨r, hr, rfl⟩, e1⟩
   rw [hk] at E1
   have ee := E1.trans e1
   have hr' : r = 4 ∨ r = 5 := by
    rcases hr with ⟨i, i0, i7, hin, rfl⟩ | ⟨hno, _⟩
    ·have hc : r = 1 ∨ r = 2 ∨ r = 3 ∨ r = 4 ∨ r = 5 ∨ r = 6 := by omega
     rcases hc with rfl | rfl | rfl | rfl | rfl | rfl
     ·rcases hnm with hh | hh | hh <;> rw [hh] at hin <;> simp [opsOf] at hin
     ·rcases hnm with hh | hh | hh <;> rw [hh] at hin <;> simp [opsOf] at hin
     ·rcases hnm with hh | hh | hh <;> rw [hh] at hin <;> simp [opsOf] at hin
     ·exact .inl rfl
     ·exact .inr rfl
     ·rcases hnm with hh | hh | hh <;> rw [hh] at hin <;> simp [opsOf] at hin
    ·rcases hnm with hh | hh | hh
     ·exact absurd (by rw [hh]; simp [opsOf]) (hno 5 (by omega) (by omega))
     ·exact absurd (by rw [hh]; simp [opsOf]) (hno 5 (by omega) (by omega))
     ·exact absurd (by rw [hh]; simp [opsOf]) (hno 4 (by omega) (by omega))
   rcases hr' with rfl | rfl
   ·simp [ycv_r19, h3]; exact ee
   ·simp [ycv_r19, h3]; exact ee
theorem rbuiltins_ok : Pur C n_ycu [] (fun o => ∃ c, IsS c [(4, 1702521203), (2, 29793), (4, 1752397168), (4, 1701536116), (4, 1886351972), (3, 7628147), (3, 7889261), (3, 7235949), (4, 1885957222)] ∧ o = .ret c) := by
 intro h nx
 refine S.c_ycu.call ?_
 simp [ycu]
 simp [ycu_r0]
 simp [ycu_r1]
 exact lit_row [(4, 1702521203), (2, 29793), (4, 1752397168), (4, 1701536116), (4, 1886351972), (3, 7628147), (3, 7889261), (3, 7235949), (4, 1885957222)] h nx
end
end Tz
/-
 SV: rows that are joined; lists, numbers of arguments. No condition.
-/
namespace Tz
open Go.Sx Go
theorem IsApp.addN {c : AV} {l new : List AV} {len sz m : Nat} {h : T Blk} {nx n0 : Key} (ha : IsApp c l len sz h nx) (ho : ∀ b, OwnC c b → n0.toNat ≤ b.toNat) (h0 : n0.toNat ≤ nx.toNat) (hn : new.length = m * sz) (hl : len + m ≤ 1048576) (hc : new.all AV.isCell = true) :
  ∃ c' h' nx', appendTo sz c new m h nx = .val c' h' nx' ∧ IsApp c' (l ++ new) (len + m) sz h' nx' ∧ (∀ b, OwnC c' b → n0.toNat ≤ b.toNat) ∧ nx.toNat ≤ nx'.toNat ∧ ∀ b : Key, b.toNat < n0.toNat → T.get b h' = T.get b h := by
 have s1 := Key.toNat_succ nx
 by_cases hm : m = 0
 ·subst hm
  have : new = [] := List.eq_nil_of_length_eq_zero (by omega)
  subst this
  rcases id ha with ⟨rfl, rfl, rfl⟩ | ⟨b, rfl, hb, hlt, hll⟩ | ⟨t, rfl, ht, hlt⟩
  ·exact ⟨_, h, nx, by simp, by simpa using ha, ho, Nat.le_refl _, fun _ _ => rfl⟩
  ·exact ⟨_, h, nx, by have hl' : len ≤ 1048576 := hl; simp [hb, hl'], by simpa using ha, ho, Nat.le_refl _, fun _ _ => rfl⟩
  ·exact ⟨_, h, nx, by simp, by simpa using ha, ho, Nat.le_refl _, fun _ _ => rfl⟩
 ·have own1 : ∀ b, OwnC (.slice nx 0 (0 + m) sz) b → n0.toNat ≤ b.toNat := fun b o => by rcases o with ⟨_, _, h3⟩ | ⟨_, _, _, h3⟩ <;> cases h3; exact h0
  have own2 : ∀ (l : List AV) (k : Nat), ∀ b, OwnC (.sl l k sz (.tok nx)) b → n0.toNat ≤ b.toNat := fun l k b o => by rcases o with ⟨_, _, h3⟩ | ⟨_, _, _, h3⟩ <;> cases h3; exact h0
  rcases ha with ⟨rfl, rfl, rfl⟩ | ⟨b, rfl, hb, hlt, hll⟩ | ⟨t, rfl, ht, hlt⟩
  ·have hm2 : m ≤ 1048576 := by omega
   refine ⟨.slice nx 0 (0 + m) sz, T.set nx (some (.cells new .part)) h, nx.succ, by simp [hm, hm2], .inr (.inl ⟨nx, rfl, by simp, by omega, by simpa using hn⟩), own1, by omega, fun b hb => get_lt (by omega)⟩
  ·have hb1 := ho b (.inl ⟨_, _, rfl⟩)
   refine ⟨.sl (l ++ new) (len + m) sz (.tok nx), T.set nx (some .tok) (T.set b none h), nx.succ, ?_, .inr (.inr ⟨nx, rfl, by simp, by omega⟩), own2 _ _, by omega, fun x hx => ?_⟩
   ·simp [hl, hc, hb, hll, hm]
   ·rw [get_lt (by omega), get_lt (by omega)]
  ·have hb1 := ho t (.inr ⟨_, _, _, rfl⟩)
   refine ⟨.sl (l ++ new) (len + m) sz (.tok nx), T.set nx (some .tok) (T.set t none h), nx.succ, ?_, .inr (.inr ⟨nx, rfl, by simp, by omega⟩), own2 _ _, by omega, fun x hx => ?_⟩
   ·simp [hl, hc, ht, hm]
   ·rw [get_lt (by omega), get_lt (by omega)]
theorem IsApp.fastN {c : AV} {l : List AV} {len sz : Nat} {h : T Blk} {nx n0 : Key} (ha : IsApp c l len sz h nx) (ho : ∀ b, OwnC c b → n0.toNat ≤ b.toNat) (hs : ∀ y ∈ l, Stb y) (n : Nat) :
  ((frzA (n + 1) c h).1 = .nils ∧ l = [] ∧ len = 0 ∨ (frzA (n + 1) c h).1 = .sl l len sz .any) ∧ ∀ b : Key, b.toNat < n0.toNat → T.get b (frzA (n + 1) c h).2 = T.get b h := by
 rcases id ha with ⟨rfl, hn, hl⟩ | ⟨b, rfl, hb, hlt, hll⟩ | ⟨t, rfl, ht, hlt⟩
 ·exact ⟨.inl ⟨rfl, hn, hl⟩, fun _ _ => rfl⟩
 ·have hb1 := ho b (.inl ⟨_, _, rfl⟩)
  rw [frz_part hb hll hs]
  exact ⟨.inr rfl, fun x hx => get_lt (by omega)⟩
 ·exact ⟨.inr rfl, fun _ _ => rfl⟩
theorem own_nils {P : Prop} {b : Key} (o : OwnC .nils b) : P := by rcases o with ⟨_, _, h3⟩ | ⟨_, _, _, h3⟩ <;> cases h3
theorem IsK.row {c : AV} {vs : List V} (hk : IsK c vs) : ∃ cs, IsVs cs vs ∧ ((c = .nils ∧ vs = [] ∧ cs = []) ∨ c = .sl cs vs.length 4 .any) := by
 rcases hk with ⟨rfl, rfl⟩ | ⟨cs, rfl, _, hcs⟩
 ·exact ⟨[], IsVs.nil, .inl ⟨rfl, rfl, rfl⟩⟩
 ·exact ⟨cs, hcs, .inr rfl⟩
section
variable {C : Cfg} (S : Std C)
include S
theorem rlist_ok {c1 c2 : AV} {vs us : List V} (k1 : IsK c1 vs) (k2 : IsK c2 us) (hl : vs.length + us.length ≤ 4000) : Pur C n_ycw [c1, c2] (fun o => ∃ l, IsV l (.mk 2 0 0 0 (vs ++ us)) ∧ o = .ret (.agg l)) := by
 intro h nx
 have s1 := Key.toNat_succ nx
 obtain ⟨cs1, v1, r1⟩ := IsK.row k1
 obtain ⟨cs2, v2, r2⟩ := IsK.row k2
 refine S.c_ycw.call ?_
 simp [ycw]
 simp [ycw_r0]
 simp [ycw_r1]
 have a0 : IsApp .nils [] 0 4 (T.set nx (some (.cells [I 0, I 0, .str 0 0, .nils] .fix)) h) nx.succ := .inl ⟨rfl, rfl, rfl⟩
 obtain ⟨c3, h3, nx3, ha3, a3, o3, t3, g3⟩ := a0.addN (n0 := nx.succ) (new := cs1) (m := vs.length) (fun b o => own_nils o) (Nat.le_refl _) v1.hc (by omega) (IsVs.iscells v1)
 have q3 := (g3 nx (by omega)).trans (T.get_set_same _ _ _)
 obtain ⟨c4, h4, nx4, ha4, a4, o4, t4, g4⟩ := a3.addN (n0 := nx.succ) (new := cs2) (m := us.length) o3 (by omega) v2.hc (by omega) (IsVs.iscells v2)
 have q4 := (g4 nx (by omega)).trans q3
 have hcc := a4.cell
 have hv := v1.append v2
 have hbq1 := a3.beq (by
  have := (IsV.node 0 0 0 0 ([] ++ cs1) vs (by omega) (by simpa using v1.hc) (by simpa using v1.hk)).lits
  simpa [AV.litsL, AV.lits] using this)
 have hs : ∀ y ∈ [] ++ cs1 ++ cs2, Stb y := by simpa using IsVs.stbs hv
 have fin : ∀ n, IsK (frzA (n + 1) c4 (T.set nx (some (.cells [I 2, I 0, .str 0 0, c4] .fix)) h4)).1 (vs ++ us) ∧ ∀ b : Key, b.toNat < nx.toNat → T.get b (frzA (n + 1) c4 (T.set nx (some (.cells [I 2, I 0, .str 0 0, c4] .fix)) h4)).2 = T.get b h := by
  intro n
  have a5 : IsApp c4 ([] ++ cs1 ++ cs2) (0 + vs.length + us.length) 4 (T.set nx (some (.cells [I 2, I 0, .str 0 0, c4] .fix)) h4) nx4 := a4.keep (Nat.le_refl _) fun b hb hx => by
   rw [T.get_set_ne]
   intro e; subst e
   rcases hx with hx | ⟨l', hx⟩ <;> rw [q4] at hx <;> cases hx
  obtain ⟨z1, z2⟩ := a5.fastN o4 hs n
  refine ⟨?_, fun b hb => ?_⟩
  ·rcases z1 with ⟨e, e2, e3⟩ | e
   ·exact .inl ⟨e, List.eq_nil_of_length_eq_zero (by rw [List.length_append]; omega)⟩
   ·refine .inr ⟨cs1 ++ cs2, ?_, by simp; omega, hv⟩
    rw [e]; simp
  ·rw [z2 b (by omega), get_lt (by omega), g4 b (by omega), g3 b (by omega), get_lt (by omega)]
 have t5 : nx.toNat ≤ nx4.toNat := by omega
 rcases r1 with ⟨rfl, rfl, rfl⟩ | rfl
 ·simp only [List.length_nil] at ha3
  simp [-appendTo, ycw_r2, ha3]
  rcases r2 with ⟨rfl, rfl, rfl⟩ | rfl
  ·simp only [List.length_nil] at ha4
   simp [-appendTo, ycw_r3, ha4, hcc, q4]
   exact ⟨IsV.of (fin _).1, t5, (fin _).2⟩
  ·simp [-appendTo, ycw_r3, ha4, hcc, q4]
   exact ⟨IsV.of (fin _).1, t5, (fin _).2⟩
 ·simp [-appendTo, ycw_r2, ha3]
  rcases r2 with ⟨rfl, rfl, rfl⟩ | rfl
  ·simp only [List.length_nil] at ha4
   simp [-appendTo, ycw_r3, ha4, hcc, q4]
   have fin6 := (fin 6).1
   rw [List.append_nil] at fin6
   exact ⟨IsV.of fin6, t5, (fin _).2⟩
  ·simp [-appendTo, ycw_r3, ha4, hcc, q4]
   exact ⟨IsV.of (fin _).1, t5, (fin _).2⟩
end
end Tz
