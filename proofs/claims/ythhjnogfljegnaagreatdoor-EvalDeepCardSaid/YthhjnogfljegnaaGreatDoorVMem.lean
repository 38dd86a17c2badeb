/-
 SV: what the evaluator's memory holds. No condition.
-/
import Derived.Test.YthhjnogfljegnaaGreatDoorVCmp
set_option linter.unusedSimpArgs false
set_option linter.unusedVariables false
set_option linter.unusedSectionVars false
namespace Tz
open Go.Sx Go
abbrev SA (s : S) : AV := .str s.1 s.2
def IsS (c : AV) (l : List S) : Prop := (c = .nils ∧ l = []) ∨ c = .sl (l.map SA) l.length 1 .any
def IsB (c : AV) (l : List (List S)) : Prop := (c = .nils ∧ l = []) ∨ ∃ cs, c = .sl cs l.length 1 .any ∧ cs.length = l.length ∧ ∀ (i : Nat) (h : i < l.length), ∃ x, cs[i]? = some x ∧ IsS x l[i]
def Qe (k : Int) (nm : S) : Prop := ¬ (k = 3 ∧ nm = (4, 1885957222)) ∧ k ≠ 8
inductive IsE : List AV → E → Prop
 | leaf (k : Int) (nm : S) (n : Int) (names : List S) (binds : List (List S)) (at_ : Int) (cn cb : AV) (hn : IsS cn names) (hb : IsB cb binds) (hq : Qe k nm) : IsE [I k, SA nm, I n, cn, cb, .nils, I at_] (.mk k nm n names binds [] at_)
 | node (k : Int) (nm : S) (n : Int) (names : List S) (binds : List (List S)) (at_ : Int) (cn cb : AV) (hn : IsS cn names) (hb : IsB cb binds) (hq : Qe k nm) (cs : List AV) (es : List E) (hl : es.length ≤ 4000)
   (hc : cs.length = es.length * 7) (hk : ∀ (i : Nat) (h : i < es.length), IsE ((cs.drop (i * 7)).take 7) es[i]) : IsE [I k, SA nm, I n, cn, cb, .sl cs es.length 7 .any, I at_] (.mk k nm n names binds es at_)
structure IsEs (cs : List AV) (es : List E) : Prop where
 hc : cs.length = es.length * 7
 hk : ∀ (i : Nat) (h : i < es.length), IsE ((cs.drop (i * 7)).take 7) es[i]
def IsEK (c : AV) (es : List E) : Prop := (c = .nils ∧ es = []) ∨ ∃ cs, c = .sl cs es.length 7 .any ∧ es.length ≤ 4000 ∧ IsEs cs es
theorem IsE.cells {l : List AV} {e : E} (h : IsE l e) : ∃ cn cb ck, l = [I e.k, SA e.name, I e.n, cn, cb, ck, I e.at_] ∧ IsS cn e.names ∧ IsB cb e.binds ∧ IsEK ck e.kids ∧ Qe e.k e.name := by
 cases h with
 | leaf k nm n names binds at_ cn cb hn hb hq => exact ⟨cn, cb, .nils, rfl, hn, hb, .inl ⟨rfl, rfl⟩, hq⟩
 | node k nm n names binds at_ cn cb hn hb hq cs es hl hc hk => exact ⟨cn, cb, _, rfl, hn, hb, .inr ⟨cs, rfl, hl, hc, hk⟩, hq⟩
theorem IsEK.stb {c : AV} {es : List E} (h : IsEK c es) : Stb c := by
 rcases h with ⟨rfl, rfl⟩ | ⟨cs, rfl, _, _⟩
 ·exact stb_nils
 ·exact stb_sl _ _ _
def Kp : Option Blk → Prop
 | some .tok => False
 | some (.cells _ .part) => False
 | _ => True
def OwnC (c : AV) (b : Key) : Prop := (∃ len sz, c = .slice b 0 len sz) ∨ ∃ l len sz, c = .sl l len sz (.tok b)
def OwnE (rb : Key) (h : T Blk) (b : Key) : Prop := ∃ l k br, T.get rb h = some (.cells l k) ∧ l[11]? = some br ∧ OwnC br b
theorem OwnE.of {rb : Key} {h h' : T Blk} (e : T.get rb h' = T.get rb h) {b : Key} : OwnE rb h' b ↔ OwnE rb h b := by unfold OwnE; rw [e]
structure Fr (rb : Key) (h : T Blk) (nx : Key) (h' : T Blk) (nx' : Key) : Prop where
 n : nx.toNat ≤ nx'.toNat
 g : ∀ b : Key, b.toNat < nx.toNat → b ≠ rb → Kp (T.get b h) → T.get b h' = T.get b h
 o : rb.toNat < nx.toNat → ∀ b : Key, b.toNat < nx.toNat → OwnE rb h' b → OwnE rb h b
structure Fq (X : Key → Prop) (h : T Blk) (nx : Key) (h' : T Blk) (nx' : Key) : Prop where
 n : nx.toNat ≤ nx'.toNat
 g : ∀ b : Key, b.toNat < nx.toNat → ¬ X b → Kp (T.get b h) → T.get b h' = T.get b h
theorem Fr.q {rb : Key} {h h' : T Blk} {nx nx' : Key} (f : Fr rb h nx h' nx') : Fq (· = rb) h nx h' nx' := ⟨f.n, f.g⟩
theorem Fq.from {X : Key → Prop} {h1 h2 h3 : T Blk} {n1 n2 n3 : Key} (a : Ext h1 n1 h2 n2) (b : Fq X h2 n2 h3 n3) : Fq X h1 n1 h3 n3 :=
 ⟨Nat.le_trans a.n b.n, fun k hk hr hp => by
  have e := a.g k hk
  rw [b.g k (Nat.lt_of_lt_of_le hk a.n) hr (by rw [e]; exact hp), e]⟩
theorem Fr.refl (rb : Key) (h : T Blk) (nx : Key) : Fr rb h nx h nx := ⟨Nat.le_refl _, fun _ _ _ _ => rfl, fun _ _ _ o => o⟩
theorem Fr.trans {rb : Key} {h1 h2 h3 : T Blk} {n1 n2 n3 : Key} (a : Fr rb h1 n1 h2 n2) (b : Fr rb h2 n2 h3 n3) : Fr rb h1 n1 h3 n3 :=
 ⟨Nat.le_trans a.n b.n, fun k hk hr hp => by
  have e := a.g k hk hr hp
  rw [b.g k (Nat.lt_of_lt_of_le hk a.n) hr (by rw [e]; exact hp), e], fun hl k hk o => a.o hl k hk (b.o (Nat.lt_of_lt_of_le hl a.n) k (Nat.lt_of_lt_of_le hk a.n) o)⟩
theorem Fr.ext {rb : Key} {h1 h2 : T Blk} {n1 n2 : Key} (a : Ext h1 n1 h2 n2) : Fr rb h1 n1 h2 n2 := ⟨a.n, fun b hb _ _ => a.g b hb, fun hl b _ o => (OwnE.of (a.g rb hl)).1 o⟩
theorem Fr.set {rb k : Key} {h h' : T Blk} {nx nx' : Key} {B : Option Blk} (f : Fr rb h nx h' nx') (hk : nx.toNat ≤ k.toNat) : Fr rb h nx (T.set k B h') nx' :=
 ⟨f.n, fun b hb hr hp => by rw [T.get_set_ne _ _ _ _ (fun e => by rw [e] at hb; omega)]; exact f.g b hb hr hp, fun hl b hb o => f.o hl b hb ((OwnE.of (T.get_set_ne _ _ _ _ (fun e => by rw [e] at hl; omega))).1 o)⟩
def IsP (rb : Key) (h : T Blk) (nx : Key) (p : AV) (e : E) : Prop := ∃ l, IsE l e ∧ ((∃ t, p = .cref (l ++ t)) ∨ ∃ b, p = .ptr b 0 ∧ T.get b h = some (.cells l .fix) ∧ b.toNat < nx.toNat ∧ b ≠ rb ∧ (e.k = 3 ∨ e.k = 9))
theorem IsP.mono {rb : Key} {h h' : T Blk} {nx nx' : Key} {p : AV} {e : E} (hp : IsP rb h nx p e) (f : Fr rb h nx h' nx') : IsP rb h' nx' p e := by
 obtain ⟨l, hl, ⟨t, rfl⟩ | ⟨b, rfl, hb, hn, hr, h39⟩⟩ := hp
 ·exact ⟨l, hl, .inl ⟨t, rfl⟩⟩
 ·exact ⟨l, hl, .inr ⟨b, rfl, by rw [f.g b hn hr (by rw [hb]; trivial)]; exact hb, Nat.lt_of_lt_of_le hn f.n, hr, h39⟩⟩
theorem IsP.at {rb : Key} {h : T Blk} {nx : Key} {cs : List AV} {es : List E} (hs : IsEs cs es) {i : Nat} (hi : i < es.length) : IsP rb h nx (.cref ((cs.drop (i * 7)).take 7)) es[i] :=
 ⟨_, hs.hk i hi, .inl ⟨[], by simp⟩⟩
theorem IsP.stb {rb : Key} {h : T Blk} {nx : Key} {p : AV} {e : E} (hp : IsP rb h nx p e) : Stb p := by
 obtain ⟨l, hl, ⟨t, rfl⟩ | ⟨b, rfl, hb, hn, hr, h39⟩⟩ := hp
 ·exact fun k h => by cases k <;> rfl
 ·exact fun k h => by cases k <;> rfl
inductive IsSc (rb : Key) (h : T Blk) (nx : Key) : AV → Sc → Prop
 | nil : IsSc rb h nx .nilp []
 | cons (b : Key) (name : S) (v : V) (c p : AV) (s : Sc) (hb : b.toNat < nx.toNat) (hr : b ≠ rb) (hg : T.get b h = some (.cells [SA name, I v.k, I v.n, .str v.a v.b, c, I v.size, p] .fix)) (hK : IsK c v.kids) (hz : v.size ≤ 1073741824)
   (hs : IsSc rb h nx p s) : IsSc rb h nx (.ptr b 0) ((name, v) :: s)
theorem IsSc.mono {rb : Key} {h h' : T Blk} {nx nx' : Key} {p : AV} {s : Sc} (hp : IsSc rb h nx p s) (f : Fr rb h nx h' nx') : IsSc rb h' nx' p s := by
 induction hp with
 | nil => exact .nil
 | cons b name v c p s hb hr hg hK hz hs ih => exact .cons b name v c p s (Nat.lt_of_lt_of_le hb f.n) hr (by rw [f.g b hb hr (by rw [hg]; trivial)]; exact hg) hK hz ih
theorem IsSc.stb {rb : Key} {h : T Blk} {nx : Key} {p : AV} {s : Sc} (hp : IsSc rb h nx p s) : Stb p := by
 cases hp with
 | nil => exact fun k h => by cases k <;> rfl
 | cons => exact fun k h => by cases k <;> rfl
theorem IsSc.cell {rb : Key} {h : T Blk} {nx : Key} {p : AV} {s : Sc} (hp : IsSc rb h nx p s) : p.isCell = true ∧ p.cells = [p] := by
 cases hp with
 | nil => exact ⟨rfl, rfl⟩
 | cons => exact ⟨rfl, rfl⟩
def IsApp (c : AV) (l : List AV) (len sz : Nat) (h : T Blk) (nx : Key) : Prop :=
 (c = .nils ∧ l = [] ∧ len = 0) ∨ (∃ b : Key, c = .slice b 0 len sz ∧ T.get b h = some (.cells l .part) ∧ b.toNat < nx.toNat ∧ l.length = len * sz) ∨ (∃ t : Key, c = .sl l len sz (.tok t) ∧ T.get t h = some .tok ∧ t.toNat < nx.toNat)
theorem IsApp.addO {c : AV} {l new : List AV} {len sz : Nat} {h : T Blk} {nx : Key} (ha : IsApp c l len sz h nx) (hn : new.length = sz) (hl : len + 1 ≤ 1048576) (hc : new.all AV.isCell = true) (hs : ∀ x ∈ new, Stb x) :
  ∃ c' h' nx', appendTo sz c new 1 h nx = .val c' h' nx' ∧ IsApp c' (l ++ new) (len + 1) sz h' nx' ∧ nx.toNat ≤ nx'.toNat ∧ (∀ b : Key, b.toNat < nx.toNat → Kp (T.get b h) → T.get b h' = T.get b h) ∧ ∀ b, OwnC c' b → b = nx := by
 have s1 := Key.toNat_succ nx
 rcases ha with ⟨rfl, rfl, rfl⟩ | ⟨b, rfl, hb, hlt, hll⟩ | ⟨t, rfl, ht, hlt⟩
 ·refine ⟨.slice nx 0 1 sz, T.set nx (some (.cells new .part)) h, nx.succ, by simp, .inr (.inl ⟨nx, rfl, by simp, by omega, by simpa using hn⟩), by omega, fun b hb _ => get_lt hb, fun b o => by rcases o with ⟨_, _, h3⟩ | ⟨_, _, _, h3⟩ <;> cases h3; rfl⟩
 ·refine ⟨.sl (l ++ new) (len + 1) sz (.tok nx), T.set nx (some .tok) (T.set b none h), nx.succ, ?_, .inr (.inr ⟨nx, rfl, by simp, by omega⟩), by omega, fun x hx hk => ?_, fun b o => by rcases o with ⟨_, _, h3⟩ | ⟨_, _, _, h3⟩ <;> cases h3; rfl⟩
  ·simp [hl, hc, hb, hll]
  ·have hne : x ≠ b := by intro e; subst e; rw [hb] at hk; exact hk
   rw [get_lt hx, T.get_set_ne _ _ _ _ hne]
 ·refine ⟨.sl (l ++ new) (len + 1) sz (.tok nx), T.set nx (some .tok) (T.set t none h), nx.succ, ?_, .inr (.inr ⟨nx, rfl, by simp, by omega⟩), by omega, fun x hx hk => ?_, fun b o => by rcases o with ⟨_, _, h3⟩ | ⟨_, _, _, h3⟩ <;> cases h3; rfl⟩
  ·simp [hl, hc, ht]
  ·have hne : x ≠ t := by intro e; subst e; rw [ht] at hk; exact hk
   rw [get_lt hx, T.get_set_ne _ _ _ _ hne]
theorem IsApp.add {c : AV} {l new : List AV} {len sz : Nat} {h : T Blk} {nx : Key} (ha : IsApp c l len sz h nx) (hn : new.length = sz) (hl : len + 1 ≤ 1048576) (hc : new.all AV.isCell = true) (hs : ∀ x ∈ new, Stb x) :
  ∃ c' h' nx', appendTo sz c new 1 h nx = .val c' h' nx' ∧ IsApp c' (l ++ new) (len + 1) sz h' nx' ∧ nx.toNat ≤ nx'.toNat ∧ ∀ b : Key, b.toNat < nx.toNat → Kp (T.get b h) → T.get b h' = T.get b h := by
 obtain ⟨c', h', nx', a, b, c, d, _⟩ := ha.addO hn hl hc hs
 exact ⟨c', h', nx', a, b, c, d⟩
theorem IsApp.keep {c : AV} {l : List AV} {len sz : Nat} {h h' : T Blk} {nx nx' : Key} (ha : IsApp c l len sz h nx) (hn : nx.toNat ≤ nx'.toNat) (hg : ∀ b : Key, b.toNat < nx.toNat → (T.get b h = some .tok ∨ ∃ l, T.get b h = some (.cells l .part)) → T.get b h' = T.get b h) : IsApp c l len sz h' nx' := by
 rcases ha with ⟨rfl, rfl, rfl⟩ | ⟨b, rfl, hb, hlt, hll⟩ | ⟨t, rfl, ht, hlt⟩
 ·exact .inl ⟨rfl, rfl, rfl⟩
 ·exact .inr (.inl ⟨b, rfl, by rw [hg b hlt (.inr ⟨_, hb⟩)]; exact hb, by omega, hll⟩)
 ·exact .inr (.inr ⟨t, rfl, by rw [hg t hlt (.inl ht)]; exact ht, by omega⟩)
theorem IsApp.lt {c : AV} {l : List AV} {len sz : Nat} {h : T Blk} {nx : Key} (ha : IsApp c l len sz h nx) {b : Key} (o : OwnC c b) : b.toNat < nx.toNat := by
 rcases ha with ⟨rfl, _, _⟩ | ⟨b', rfl, hb', hlt, _⟩ | ⟨t, rfl, ht, hlt⟩
 ·rcases o with ⟨_, _, h3⟩ | ⟨_, _, _, h3⟩ <;> cases h3
 ·rcases o with ⟨_, _, h3⟩ | ⟨_, _, _, h3⟩ <;> cases h3
  exact hlt
 ·rcases o with ⟨_, _, h3⟩ | ⟨_, _, _, h3⟩ <;> cases h3
  exact hlt
theorem IsApp.cell {c : AV} {l : List AV} {len sz : Nat} {h : T Blk} {nx : Key} (ha : IsApp c l len sz h nx) : c.isCell = true ∧ c.cells = [c] := by
 rcases ha with ⟨rfl, rfl, rfl⟩ | ⟨b, rfl, hb, hlt, hll⟩ | ⟨t, rfl, ht, hlt⟩ <;> exact ⟨rfl, rfl⟩
def brA (b : Br) : List AV := [SA b.fn, I b.at_, I b.arm]
def brsA (l : List Br) : List AV := l.flatMap brA
structure RunB where
 bf : Key
 bc : Key
 bb : Key
 fm : List (AV × AV)
 cm : List (AV × AV)
 bm : List (AV × AV)
structure Lims (L : Lim) : Prop where
 f0 : 0 ≤ L.fuel
 f1 : L.fuel ≤ 1048576
 r0 : 0 ≤ L.room
 r1 : L.room ≤ 1024
abbrev runC (D : RunB) (L : Lim) (st : St) (br : AV) : List AV := [.map D.bf, .map D.bc, .map D.bb, I L.fuel, I L.room, I L.seed, I L.att, I st.cf, I st.cb, I st.fl, I st.calls, br]
structure Run (rb : Key) (D : RunB) (L : Lim) (st : St) (h : T Blk) (nx : Key) : Prop where
 blk : ∃ br, T.get rb h = some (.cells (runC D L st br) .fix) ∧ IsApp br (brsA st.brs) st.brs.length 3 h nx
 low : rb.toNat < nx.toNat
 gf : T.get D.bf h = some (.map D.fm)
 gc : T.get D.bc h = some (.map D.cm)
 gb : T.get D.bb h = some (.map D.bm)
 lf : D.bf.toNat < nx.toNat
 lc : D.bc.toNat < nx.toNat
 lb : D.bb.toNat < nx.toNat
 c0 : 0 ≤ st.cf
 c1 : st.cf ≤ L.fuel
 nb : (st.brs.length : Int) ≤ st.cf
 k0 : 0 ≤ st.calls
 k1 : st.calls ≤ 256
 b0 : 0 ≤ st.cb
theorem Run.ext {rb : Key} {D : RunB} {L : Lim} {st : St} {h h' : T Blk} {nx nx' : Key} (r : Run rb D L st h nx) (e : Ext h nx h' nx') : Run rb D L st h' nx' := by
 obtain ⟨⟨br, hb, ha⟩, low, gf, gc, gb, lf, lc, lb, c0, c1, nb, k0, k1, b0⟩ := r
 have n := e.n
 exact ⟨⟨br, by rw [e.g rb low]; exact hb, ha.keep n fun b hb _ => e.g b hb⟩, by omega, by rw [e.g _ lf]; exact gf, by rw [e.g _ lc]; exact gc, by rw [e.g _ lb]; exact gb, by omega, by omega, by omega, c0, c1, nb, k0, k1, b0⟩
def Ends (rb : Key) (D : RunB) (L : Lim) (h : T Blk) (nx : Key) (r : Res) (o : Out) (h' : T Blk) (nx' : Key) : Prop := Fr rb h nx h' nx' ∧ match r with
 | .ok v st => OkV v o ∧ Run rb D L st h' nx'
 | .stop c st => o = stopO c ∧ Run rb D L st h' nx'
def EndsX (X : Key → Prop) (rb : Key) (D : RunB) (L : Lim) (h : T Blk) (nx : Key) (r : Res) (o : Out) (h' : T Blk) (nx' : Key) : Prop := Fq X h nx h' nx' ∧ match r with
 | .ok v st => OkV v o ∧ Run rb D L st h' nx'
 | .stop c st => o = stopO c ∧ Run rb D L st h' nx'
theorem Ends.x {rb : Key} {D : RunB} {L : Lim} {h h' : T Blk} {nx nx' : Key} {r : Res} {o : Out} (e : Ends rb D L h nx r o h' nx') : EndsX (· = rb) rb D L h nx r o h' nx' := ⟨e.1.q, e.2⟩
structure Good (L : Lim) (st : St) (v : V) (st' : St) : Prop where
 c : st.cf ≤ st'.cf
 f : Fit v
 r : (v.size : Int) ≤ L.room
 k : st'.calls = st.calls
 b : st.cf - st.brs.length ≤ st'.cf - st'.brs.length
def EvOK (C : Cfg) (rb : Key) (D : RunB) (L : Lim) (rec_ : Rec) (c0 : Int) : Prop := ∀ (fn : S) (s : Sc) (e : E) (st : St) (sp ep : AV) (h : T Blk) (nx : Key), c0 ≤ st.cf → Run rb D L st h nx → IsSc rb h nx sp s → IsP rb h nx ep e →
 CallA C n_ybg [.ptr rb 0, SA fn, sp, ep] h nx (Ends rb D L h nx (rec_ fn s e st)) ∧ ∀ v st', rec_ fn s e st = .ok v st' → Good L st v st'
end Tz
/-
 SV: truth values, and rows of values. No condition.
-/
namespace Tz
open Go.Sx Go
theorem stb_str (a b : Nat) : Stb (.str a b) := fun k h => by cases k <;> rfl
variable {C : Cfg} (S : Std C) {rb : Key} {D : RunB} {L : Lim} {rec_ : Rec} {c0 : Int} (HE : EvOK C rb D L rec_ c0)
include S HE
theorem rtruth_ok {fn : Go.Sx.S} {s : Sc} {e : E} {st : St} {sp ep : AV} {h : T Blk} {nx : Key} (hc : c0 ≤ st.cf) (hr : Run rb D L st h nx) (hs : IsSc rb h nx sp s) (hp : IsP rb h nx ep e) :
  CallA C n_ybl [.ptr rb 0, SA fn, sp, ep] h nx (fun o h' nx' => Fr rb h nx h' nx' ∧ match rec_ fn s e st with
   | .stop c st' => o = stopO c ∧ Run rb D L st' h' nx'
   | .ok v st' => (v.k = 1 → o = .ret (.bool (v.n == 1))) ∧ (v.k ≠ 1 → o = stopO 9) ∧ Run rb D L st' h' nx') := by
 have hs' : ∀ n h, frzA n sp h = (sp, h) := hs.stb
 have hp' : ∀ n h, frzA n ep h = (ep, h) := hp.stb
 refine S.c_ybl.call ?_
 simp [ybl]
 simp [ybl_r0]
 simp [ybl_r1, S.raw, hs', hp']
 refine (HE fn s e st sp ep h nx hc hr hs hp).1.mono ?_
 rintro o h1 nx1 ⟨f1, hR⟩
 have t1 := f1.n
 have s1 := Key.toNat_succ nx1
 cases hrec : rec_ fn s e st with
 | stop c st' =>
  rw [hrec] at hR
  obtain ⟨rfl, hR⟩ := hR
  simp [stopO]
  exact ⟨f1, hR⟩
 | ok v st' =>
  rw [hrec] at hR
  obtain ⟨⟨c, hK, rfl⟩, hR⟩ := hR
  have hcc := IsK.cell hK
  simp [hcc]
  simp [ybl_r2, S.raw]
  refine (need_ok S _ _ _).mono ?_
  rintro o h2 nx2 ⟨rfl, e2⟩
  have t2 := e2.n
  have q := e2.g nx1 (by omega)
  simp at q
  have hE : Ext h1 nx1 h2 nx2 := ⟨by omega, fun b hb => by rw [e2.g b (by omega), get_lt (by omega)]⟩
  by_cases hk : v.k = 1
  ·simp [hk]
   simp [ybl_r3, q]
   exact ⟨f1.trans (Fr.ext hE), hR.ext hE⟩
  ·have hk' : (v.k == 1) = false := by simpa using hk
   simp [hk, hk', stopO]
   exact ⟨f1.trans (Fr.ext hE), hR.ext hE⟩
end Tz
/-
 SV: rows of values. No condition.
-/
namespace Tz
open Go.Sx Go
theorem Rw.snoc {α : Type} {z n : Nat} {R : List AV → α → Prop} {L u : List AV} {l : List α} {v : α} {j : Nat} (hL : L.length = n * z) (hj : j < n) (hlj : l.length = j) (h : Rw z R (L.take (j * z)) l) (hu : u.length = z) (hR : R u v) :
  (L.take (j * z) ++ u ++ L.drop (j * z + z)).length = n * z ∧ Rw z R ((L.take (j * z) ++ u ++ L.drop (j * z + z)).take ((j + 1) * z)) (l ++ [v]) := by
 have hm : (j + 1) * z ≤ n * z := Nat.mul_le_mul_right _ hj
 have hm1 : (j + 1) * z = j * z + z := Nat.succ_mul j z
 have hl1 : (L.take (j * z) ++ u).length = (j + 1) * z := by simp [hu]; omega
 have e : (L.take (j * z) ++ u ++ L.drop (j * z + z)).take ((j + 1) * z) = L.take (j * z) ++ u := by
  rw [List.take_append_of_le_length (by omega), List.take_of_length_le (by omega)]
 refine ⟨by simp [hu]; omega, ?_⟩
 rw [e]
 refine ⟨by rw [hl1, List.length_append, hlj]; rfl, fun i hi => ?_⟩
 have hi' : i < j + 1 := by simp at hi; omega
 have hlt : (L.take (j * z)).length = j * z := by simp; omega
 by_cases hij : i < j
 ·have h1 : (i + 1) * z ≤ j * z := Nat.mul_le_mul_right _ hij
  have h2 : (i + 1) * z = i * z + z := Nat.succ_mul i z
  have := h.hk i (by omega)
  rw [List.getElem_append_left (by omega)]
  rw [List.drop_append_of_le_length (by omega), List.take_append_of_le_length (by rw [List.length_drop]; omega)]
  exact this
 ·have hij : i = j := by omega
  subst hij
  rw [List.getElem_append_right (by omega)]
  rw [List.drop_append_of_le_length (by omega), List.drop_eq_nil_of_le (by omega), List.nil_append, List.take_of_length_le (by omega)]
  simpa using hR
def IsZ (l : List AV) (v : V) : Prop := ∃ c, IsK c v.kids ∧ l = szc v c
theorem IsZ.stbs {l : List AV} {v : V} (h : IsZ l v) : ∀ x ∈ l, Stb x := by
 obtain ⟨c, hK, rfl⟩ := h
 intro x hx
 have i1 : ∀ n : Int, Stb (I n) := fun n k h => by cases k <;> rfl
 simp at hx
 rcases hx with rfl | rfl | rfl | rfl | rfl
 ·exact i1 _
 ·exact i1 _
 ·exact stb_str _ _
 ·exact IsK.stb hK
 ·exact i1 _
theorem Rw.all {α : Type} {z : Nat} {R : List AV → α → Prop} {P : AV → Prop} {cs : List AV} {vs : List α} (hz : 0 < z) (h : Rw z R cs vs) (hP : ∀ l v, R l v → ∀ x ∈ l, P x) : ∀ x ∈ cs, P x := by
 intro x hx
 obtain ⟨i, hi, rfl⟩ := List.getElem_of_mem hx
 have hc := h.hc
 have hd : i / z < vs.length := by
  rw [Nat.div_lt_iff_lt_mul hz]; omega
 refine hP _ _ (h.hk (i / z) hd) _ ?_
 have hmod : i / z * z + i % z = i := by rw [Nat.mul_comm]; exact Nat.div_add_mod i z
 have : ((cs.drop (i / z * z)).take z)[i % z]? = some cs[i] := by
  rw [List.getElem?_take_of_lt (Nat.mod_lt _ hz), List.getElem?_drop, hmod]
  exact List.getElem?_eq_getElem hi
 exact List.mem_of_getElem? this
theorem allF_split (rec_ : Rec) (fn : Go.Sx.S) (s : Sc) : ∀ (es : List E) (st : St) (j : Nat) (l : List V) (stj : St), (allF rec_ fn s es st = match allF rec_ fn s (es.drop j) stj with | .ok r st' => .ok (l ++ r) st' | .stop c st' => .stop c st') → ∀ (hj : j < es.length),
  (∀ c st', rec_ fn s es[j] stj = .stop c st' → allF rec_ fn s es st = .stop c st') ∧
  (∀ v st', rec_ fn s es[j] stj = .ok v st' → allF rec_ fn s es st = match allF rec_ fn s (es.drop (j + 1)) st' with | .ok r st' => .ok (l ++ [v] ++ r) st' | .stop c st' => .stop c st') := by
 intro es st j l stj he hj
 have hd : es.drop j = es[j] :: es.drop (j + 1) := List.drop_eq_getElem_cons hj
 rw [hd, allF] at he
 constructor
 ·intro c st' hr
  rw [hr] at he
  exact he
 ·intro v st' hr
  rw [hr] at he
  rw [he]
  simp only
  cases allF rec_ fn s (es.drop (j + 1)) st' with
  | ok r st2 => simp
  | stop c st2 => rfl
variable {C : Cfg} (S : Std C) {rb : Key} {D : RunB} {L : Lim} {rec_ : Rec} {c0 : Int} (HE : EvOK C rb D L rec_ c0)
def AllPost (rb : Key) (D : RunB) (L : Lim) (st : St) (h : T Blk) (nx : Key) (n : Nat) (r : ResL) (o : Out) (h' : T Blk) (nx' : Key) : Prop := Fr rb h nx h' nx' ∧ match r with
 | .stop c st' => o = stopO c ∧ Run rb D L st' h' nx'
 | .ok l st' => (∃ cs, Rw 5 IsZ cs l ∧ o = .ret (.sl cs l.length 5 .any)) ∧ Run rb D L st' h' nx' ∧ (∀ v ∈ l, Fit v ∧ (v.size : Int) ≤ L.room) ∧ st.cf ≤ st'.cf ∧ st'.calls = st.calls ∧ l.length = n
def AllInv (rb : Key) (D : RunB) (L : Lim) (rec_ : Rec) (fn : Go.Sx.S) (s : Sc) (es : List E) (st : St) (sp : AV) (cs : List AV) (h : T Blk) (nx : Key) (m : Nat) (tm' : T AV) (h' : T Blk) (nx' : Key) : Prop :=
 ∃ (j : Nat) (l : List V) (stj : St) (L1 : List AV), m = es.length - j ∧ j ≤ es.length ∧ l.length = j ∧ T.get (K 0) tm' = some (.ptr rb 0) ∧ T.get (K 1) tm' = some (SA fn) ∧ T.get (K 2) tm' = some sp ∧ T.get (K 3) tm' = some (.sl cs es.length 7 .any) ∧ T.get (K 9) tm' = some (.slice nx 0 es.length 5) ∧
    T.get (K 15) tm' = some (I es.length) ∧ T.get (K 16) tm' = some (I j) ∧ nx.succ.toNat ≤ nx'.toNat ∧ Fr rb h nx h' nx' ∧ Run rb D L stj h' nx' ∧ T.get nx h' = some (.cells L1 .fix) ∧ L1.length = es.length * 5 ∧ Rw 5 IsZ (L1.take (j * 5)) l ∧ st.cf ≤ stj.cf ∧ stj.calls = st.calls ∧
    (∀ v ∈ l, Fit v ∧ (v.size : Int) ≤ L.room) ∧ allF rec_ fn s es st = match allF rec_ fn s (es.drop j) stj with | .ok r st' => .ok (l ++ r) st' | .stop c st' => .stop c st'
include S HE
theorem rall_ok {fn : Go.Sx.S} {s : Sc} {es : List E} {st : St} {sp ck : AV} {h : T Blk} {nx : Key} (hc : c0 ≤ st.cf) (hr : Run rb D L st h nx) (hs : IsSc rb h nx sp s) (hk : IsEK ck es) :
  CallA C n_ybd [.ptr rb 0, SA fn, sp, ck] h nx (AllPost rb D L st h nx es.length (allF rec_ fn s es st)) := by
 have hs' : ∀ n h, frzA n sp h = (sp, h) := hs.stb
 have s1 := Key.toNat_succ nx
 have low := hr.low
 have hrb : nx ≠ rb := fun e => by rw [← e] at low; omega
 refine S.c_ybd.call ?_
 simp [ybd]
 simp [ybd_r0]
 rcases hk with ⟨rfl, rfl⟩ | ⟨cs, rfl, hel, hcs⟩
 ·simp [ybd_r1]
  simp [ybd_r2]
  refine W.unroll (W.of ?_)
  simp [ybd_l0]
  simp [ybd_r3]
  simp [ybd_r7]
  rw [frz_fix (l := []) (by simp) rfl (by simp)]
  have hE : Ext h nx (T.set nx (some (Blk.cells [] .ro)) h) nx.succ := ⟨by omega, fun b hb => by rw [get_lt hb]⟩
  simp [AllPost, allF]
  exact ⟨Fr.ext hE, Rw.nil 5 IsZ, hr.ext hE⟩
 ·have hle : es.length ≤ 65536 := by omega
  simp [ybd_r1, hle]
  simp [ybd_r2]
  refine W.loopM (n := es.length) (AllInv rb D L rec_ fn s es st sp cs h nx) ?_ ?_
  ·have hE : Ext h nx (T.set nx (some (Blk.cells (List.replicate es.length [I 0, I 0, .str 0 0, .nils, I 0]).flatten .fix)) h) nx.succ := ⟨by omega, fun b hb => by rw [get_lt hb]⟩
   refine ⟨0, [], st, (List.replicate es.length [I 0, I 0, .str 0 0, .nils, I 0]).flatten, by simp, by omega, rfl, ?_, ?_, ?_, ?_, ?_, ?_, ?_, by omega, Fr.ext hE, hr.ext hE, ?_, ?_, by simpa using Rw.nil 5 IsZ, by omega, rfl, by simp, ?_⟩ <;> simp
   cases allF rec_ fn s es st <;> rfl
  ·rintro m tm1 h1 nx1 ⟨j, l, stj, L1, rfl, hj, hlj, f0, f1, f2, f3, f9, f15, f16, t1, g1, r1, hL, hLl, hR, hcf, hcl, hfit, hall⟩
   refine W.of ?_
   simp [ybd_l0]
   simp [ybd_r3, f15, f16]
   refine ⟨fun hlt => ?_, fun hge => ?_⟩
   ·have hjl : j < es.length := by omega
    have h7 : 7 ≤ cs.length - j * 7 := by have := hcs.hc; omega
    simp [ybd_r4, f16]
    simp [ybd_r5, f0, f1, f2, f3, f9, hjl, h7, S.raw, hs']
    obtain ⟨call, good⟩ := HE fn s es[j] stj sp _ h1 nx1 (by omega) r1 (hs.mono g1) (IsP.at hcs hjl)
    refine call.mono ?_
    rintro o h2 nx2 ⟨f2', hR2⟩
    have t2 := f2'.n
    have q0 := (f2'.g nx (by omega) hrb (by rw [hL]; trivial)).trans hL
    obtain ⟨sp1, sp2⟩ := allF_split rec_ fn s es st j l stj hall hjl
    cases hrec : rec_ fn s es[j] stj with
    | stop c st' =>
     rw [hrec] at hR2
     obtain ⟨rfl, hR2⟩ := hR2
     simp [stopO]
     rw [sp1 c st' hrec]
     exact ⟨g1.trans f2', rfl, hR2⟩
    | ok v st' =>
     rw [hrec] at hR2
     obtain ⟨⟨c, hK, rfl⟩, hR2⟩ := hR2
     have hg := good v st' hrec
     have hcc := IsK.cell hK
     have hput : j * 5 + 5 ≤ L1.length := by omega
     have hset := Rw.snoc hLl hjl hlj hR (u := szc v c) (v := v) rfl ⟨c, hK, rfl⟩
     simp [q0, hcc, hput, hjl]
     simp [ybd_r6, f16]
     have hE : ∀ L2 : List AV, Ext h2 nx2 (T.set nx (some (Blk.cells L2 .fix)) h2) nx2 → True := fun _ _ => trivial
     have hF : Fr rb h nx (T.set nx (some (Blk.cells (L1.take (j * 5) ++ szc v c ++ L1.drop (j * 5 + 5)) .fix)) h2) nx2 := (g1.trans f2').set (Nat.le_refl _)
     have hRun : Run rb D L st' (T.set nx (some (Blk.cells (L1.take (j * 5) ++ szc v c ++ L1.drop (j * 5 + 5)) .fix)) h2) nx2 := by
      obtain ⟨⟨br, hb, ha⟩, low', gf, gc, gb, lf, lc, lb, c0', c1, nb, k0, k1, b0⟩ := hR2
      have ne : ∀ b B, T.get b h2 = some B → (∀ l, B ≠ .cells l .fix) → b ≠ nx := fun b B hB hn e => by subst e; rw [q0] at hB; cases hB; exact hn _ rfl
      refine ⟨⟨br, by rw [T.get_set_ne _ _ _ _ (fun e => hrb e.symm)]; exact hb, ha.keep (Nat.le_refl _) fun b hb hx => ?_⟩, low', ?_, ?_, ?_, lf, lc, lb, c0', c1, nb, k0, k1, b0⟩
      ·rcases hx with hx | ⟨l, hx⟩
       ·rw [T.get_set_ne _ _ _ _ (ne b _ hx (by simp))]
       ·rw [T.get_set_ne _ _ _ _ (ne b _ hx (by simp))]
      ·rw [T.get_set_ne _ _ _ _ (ne _ _ gf (by simp))]; exact gf
      ·rw [T.get_set_ne _ _ _ _ (ne _ _ gc (by simp))]; exact gc
      ·rw [T.get_set_ne _ _ _ _ (ne _ _ gb (by simp))]; exact gb
     simp at hset hF hRun
     have hgc := hg.c
     refine ⟨es.length - (j + 1), by omega, j + 1, l ++ [v], st', L1.take (j * 5) ++ I v.k :: I v.n :: .str v.a v.b :: c :: I v.size :: L1.drop (j * 5 + 5), rfl, by omega, by simp [hlj], ?_, ?_, ?_, ?_, ?_, ?_, ?_, by omega, hF, hRun, by simp, by simpa using hset.1, hset.2, by omega, by rw [hg.k]; exact hcl, ?_, sp2 v st' hrec⟩
     ·simp [f0]
     ·simp [f1]
     ·simp [f2]
     ·simp [f3]
     ·simp [f9]
     ·simp [f15]
     ·simp; rw [wrap_id (by omega) (by omega)]
     ·intro x hx
      rcases List.mem_append.1 hx with hx | hx
      ·exact hfit x hx
      ·simp at hx; subst hx; exact ⟨hg.f, hg.r⟩
   ·have hjl : j = es.length := by omega
    subst hjl
    rw [List.drop_length, allF] at hall
    simp at hall
    have hLw : L1.take (es.length * 5) = L1 := List.take_of_length_le (by omega)
    rw [hLw] at hR
    simp [ybd_r7, f9]
    rw [frz_fix hL hLl (Rw.all (by omega) hR fun _ _ h => h.stbs)]
    rw [hall]
    have hF : Fr rb h nx (T.set nx (some (Blk.cells L1 .ro)) h1) nx1 := g1.set (Nat.le_refl _)
    have hRun : Run rb D L stj (T.set nx (some (Blk.cells L1 .ro)) h1) nx1 := by
      obtain ⟨⟨br, hb, ha⟩, low', gf, gc, gb, lf, lc, lb, c0', c1, nb, k0, k1, b0⟩ := r1
      have ne : ∀ b B, T.get b h1 = some B → (∀ l, B ≠ .cells l .fix) → b ≠ nx := fun b B hB hn e => by subst e; rw [hL] at hB; cases hB; exact hn _ rfl
      refine ⟨⟨br, by rw [T.get_set_ne _ _ _ _ (fun e => hrb e.symm)]; exact hb, ha.keep (Nat.le_refl _) fun b hb hx => ?_⟩, low', ?_, ?_, ?_, lf, lc, lb, c0', c1, nb, k0, k1, b0⟩
      ·rcases hx with hx | ⟨l, hx⟩
       ·rw [T.get_set_ne _ _ _ _ (ne b _ hx (by simp))]
       ·rw [T.get_set_ne _ _ _ _ (ne b _ hx (by simp))]
      ·rw [T.get_set_ne _ _ _ _ (ne _ _ gf (by simp))]; exact gf
      ·rw [T.get_set_ne _ _ _ _ (ne _ _ gc (by simp))]; exact gc
      ·rw [T.get_set_ne _ _ _ _ (ne _ _ gb (by simp))]; exact gb
    exact ⟨hF, ⟨L1, hR, by rw [hlj]⟩, hRun, hfit, hcf, hcl, hlj⟩
end Tz
/-
 SV: values made of values. No condition.
-/
namespace Tz
open Go.Sx Go
theorem sizes_take_succ {l : List V} {j : Nat} (h : j < l.length) : V.sizes (l.take (j + 1)) = V.sizes (l.take j) + l[j].size := by
 rw [List.take_succ_eq_append_getElem h, sizes_append]; simp [V.sizes]
theorem sizes_le {l : List V} {z : Nat} (h : ∀ v ∈ l, v.size ≤ z) : V.sizes l ≤ l.length * z := by
 induction l with
 | nil => simp [V.sizes]
 | cons v l ih =>
  have h1 := h v (by simp)
  have h2 := ih fun x hx => h x (by simp [hx])
  simp [V.sizes, Nat.add_mul]; omega
def JoinInv (k : Int) (a b : Nat) (cs : List AV) (l : List V) (h : T Blk) (nx : Key) (m : Nat) (tm' : T AV) (h' : T Blk) (nx' : Key) : Prop :=
 ∃ (j : Nat) (L : List AV), m = l.length - j ∧ j ≤ l.length ∧ T.get (K 2) tm' = some (.ptr nx 0) ∧ T.get (K 4) tm' = some (.ptr nx.succ 0) ∧ T.get (K 5) tm' = some (I ((1 + V.sizes (l.take j) : Nat) : Int)) ∧ T.get (K 12) tm' = some (.sl cs l.length 5 .any) ∧ T.get (K 13) tm' = some (I l.length) ∧ T.get (K 14) tm' = some (I j) ∧
  nx.succ.succ.succ.toNat ≤ nx'.toNat ∧ (∀ b : Key, b.toNat < nx.toNat → T.get b h' = T.get b h) ∧ T.get nx h' = some (.cells [I k, I 0, .str a b, .slice nx.succ.succ 0 l.length 4] .fix) ∧ T.get nx.succ h' = some (.cells [I 0, I 0, .str 0 0, .nils, I 0] .fix) ∧
  T.get nx.succ.succ h' = some (.cells L .fix) ∧ L.length = l.length * 4 ∧ Rw 4 IsV (L.take (j * 4)) (l.take j)
variable {C : Cfg} (S : Std C)
include S
theorem joined_ok (k : Int) (a b : Nat) {cs : List AV} {l : List V} (hcs : Rw 5 IsZ cs l) (hl : l.length ≤ 4000) (hz : ∀ v ∈ l, v.size ≤ 1048576) :
  Pur C n_yaw [.agg [I k, I 0, .str a b, .nils], .sl cs l.length 5 .any] (OkV (.mk k 0 a b l)) := by
 intro h nx
 have s1 := Key.toNat_succ nx
 have s2 := Key.toNat_succ nx.succ
 have s3 := Key.toNat_succ nx.succ.succ
 have hle : l.length ≤ 65536 := by omega
 have hzs := sizes_le hz
 refine S.c_yaw.call ?_
 simp [yaw]
 simp [yaw_r0]
 simp [yaw_r1]
 simp [yaw_r2, hle]
 simp [yaw_r3]
 refine W.loopM (n := l.length) (JoinInv k a b cs l h nx) ?_ ?_
 ·refine ⟨0, (List.replicate l.length [I 0, I 0, .str 0 0, .nils]).flatten, by simp, by omega, ?_, ?_, ?_, ?_, ?_, ?_, by omega, fun b hb => ?_, ?_, ?_, ?_, ?_, by simpa using Rw.nil 4 IsV⟩
  ·simp
  ·simp
  ·simp [V.sizes]
  ·simp
  ·simp
  ·simp
  ·simp (disch := omega) only [get_lt (α := Blk)]
  ·simp
  ·simp
  ·simp
  ·simp
 ·rintro m tm1 h1 nx1 ⟨j, L, rfl, hj, f2, f4, f5, f12, f13, f14, t1, e1, q0, q1, q2, hLl, hR⟩
  have s4 := Key.toNat_succ nx1
  refine W.of ?_
  simp [yaw_l0]
  simp [yaw_r4, f13, f14]
  refine ⟨fun hlt => ?_, fun hge => ?_⟩
  ·have hjl : j < l.length := by omega
   obtain ⟨c, hK, ec⟩ := hcs.hk j hjl
   have hcc := IsK.cell hK
   have hcs' := IsK.cells hK
   have h5 : 5 ≤ cs.length - j * 5 := by have := hcs.hc; omega
   have g0 : ∀ v t, T.get nx (T.set nx1 v t) = T.get (α := Blk) nx t := fun v t => get_lt (by omega)
   have g1 : ∀ v t, T.get nx.succ (T.set nx1 v t) = T.get (α := Blk) nx.succ t := fun v t => get_lt (by omega)
   have g2 : ∀ v t, T.get nx.succ.succ (T.set nx1 v t) = T.get (α := Blk) nx.succ.succ t := fun v t => get_lt (by omega)
   have g3 : ∀ v t, T.get nx1 (T.set nx.succ.succ v t) = T.get (α := Blk) nx1 t := fun v t => get_gt (by omega)
   have hput : j * 4 + 4 ≤ L.length := by omega
   have hset := Rw.set hLl hjl hR (u := [I l[j].k, I l[j].n, .str l[j].a l[j].b, c]) rfl (IsV.ofV hK)
   simp [yaw_r5, f12, f14, hjl, h5, ec, hcc]
   simp [yaw_r6, f2, g0, g2, q0, q2, hcc, hjl, hput]
   have hsum := sizes_take_succ hjl
   have hbd : V.sizes (l.take (j + 1)) ≤ V.sizes l := sizes_take l (j + 1)
   have hw : wrapF .i64 (1 + (V.sizes (l.take j) : Int) + l[j].size) = ((1 + V.sizes (l.take (j + 1)) : Nat) : Int) := by
    rw [wrap_id (by omega) (by omega)]; omega
   simp [yaw_r7, f5, g3, hw]
   simp [yaw_r8, f14]
   simp at hset
   refine ⟨l.length - (j + 1), by omega, j + 1, L.take (j * 4) ++ I l[j].k :: I l[j].n :: .str l[j].a l[j].b :: c :: L.drop (j * 4 + 4), rfl, by omega, ?_, ?_, ?_, ?_, ?_, ?_, by omega, fun b hb => ?_, ?_, ?_, ?_, by simpa using hset.1, hset.2⟩
   ·simp [f2]
   ·simp [f4]
   ·simp
   ·simp [f12]
   ·simp [f13]
   ·simp; rw [wrap_id (by omega) (by omega)]
   ·rw [get_lt (by omega), get_lt (by omega)]; exact e1 b hb
   ·simp [g0, q0]
   ·simp [g1, q1]
   ·simp
  ·have hjl : j = l.length := by omega
   subst hjl
   have hW := (Rw.whole hLl hR).isVs
   rw [List.take_length] at f5
   simp [yaw_r9, f2, f4, f5, q0, q1]
   rw [frz_fix (l := L) (by simp [q2]) hLl (IsVs.stbs hW)]
   refine ⟨⟨.sl L l.length 4 .any, .inr ⟨L, rfl, hl, hW⟩, ?_⟩, by omega, fun b hb => ?_⟩
   ·simp [V.size_eq]
   ·rw [get_lt (by omega), get_lt (by omega)]; exact e1 b hb
end Tz
/-
 SV: help for the evaluator's functions. No condition.
-/
namespace Tz
open Go.Sx Go
abbrev Zb : Blk := .cells [I 0, I 0, .str 0 0, .nils, I 0] .fix
@[simp] theorem E_k (k : Int) (nm : S) (n : Int) (names : List S) (binds : List (List S)) (kids : List E) (a : Int) : (E.mk k nm n names binds kids a).k = k := rfl
@[simp] theorem E_name (k : Int) (nm : S) (n : Int) (names : List S) (binds : List (List S)) (kids : List E) (a : Int) : (E.mk k nm n names binds kids a).name = nm := rfl
@[simp] theorem E_n (k : Int) (nm : S) (n : Int) (names : List S) (binds : List (List S)) (kids : List E) (a : Int) : (E.mk k nm n names binds kids a).n = n := rfl
@[simp] theorem E_names (k : Int) (nm : S) (n : Int) (names : List S) (binds : List (List S)) (kids : List E) (a : Int) : (E.mk k nm n names binds kids a).names = names := rfl
@[simp] theorem E_binds (k : Int) (nm : S) (n : Int) (names : List S) (binds : List (List S)) (kids : List E) (a : Int) : (E.mk k nm n names binds kids a).binds = binds := rfl
@[simp] theorem E_kids (k : Int) (nm : S) (n : Int) (names : List S) (binds : List (List S)) (kids : List E) (a : Int) : (E.mk k nm n names binds kids a).kids = kids := rfl
@[simp] theorem E_at (k : Int) (nm : S) (n : Int) (names : List S) (binds : List (List S)) (kids : List E) (a : Int) : (E.mk k nm n names binds kids a).at_ = a := rfl
theorem E0 (h : T Blk) (nx : Key) (B : Blk) : Ext h nx (T.set nx (some B) h) nx.succ := by
 have s1 := Key.toNat_succ nx
 exact ⟨by omega, fun b hb => by rw [get_lt hb]⟩
section
variable {rb : Key} {D : RunB} {L : Lim}
theorem Run.set {st : St} {h : T Blk} {nx k : Key} {l : List AV} {B : Blk} (r : Run rb D L st h nx) (hk : T.get k h = some (.cells l .fix)) (hn : k ≠ rb) : Run rb D L st (T.set k (some B) h) nx := by
 obtain ⟨⟨br, hb, ha⟩, low', gf, gc, gb, lf, lc, lb, c0', c1, nb, k0, k1, b0⟩ := r
 have ne : ∀ b B, T.get b h = some B → (∀ l, B ≠ .cells l .fix) → b ≠ k := fun b B hB hn e => by subst e; rw [hk] at hB; cases hB; exact hn _ rfl
 refine ⟨⟨br, by rw [T.get_set_ne _ _ _ _ (fun e => hn e.symm)]; exact hb, ha.keep (Nat.le_refl _) fun b hb hx => ?_⟩, low', ?_, ?_, ?_, lf, lc, lb, c0', c1, nb, k0, k1, b0⟩
 ·rcases hx with hx | ⟨l, hx⟩
  ·rw [T.get_set_ne _ _ _ _ (ne b _ hx (by simp))]
  ·rw [T.get_set_ne _ _ _ _ (ne b _ hx (by simp))]
 ·rw [T.get_set_ne _ _ _ _ (ne _ _ gf (by simp))]; exact gf
 ·rw [T.get_set_ne _ _ _ _ (ne _ _ gc (by simp))]; exact gc
 ·rw [T.get_set_ne _ _ _ _ (ne _ _ gb (by simp))]; exact gb
theorem Fr.down {h h' : T Blk} {nx nx' : Key} {B : Blk} (f : Fr rb (T.set nx (some B) h) nx.succ h' nx') : Fr rb h nx h' nx' :=
 (Fr.ext (E0 h nx B)).trans f
theorem Fr.res {h h' : T Blk} {nx nx' : Key} {l : List AV} (f : Fr rb (T.set nx (some (.cells l .fix)) h) nx.succ h' nx') (hl : rb.toNat < nx.toNat) : T.get nx h' = some (.cells l .fix) := by
 have s1 := Key.toNat_succ nx
 rw [f.g nx (by omega) (fun e => by rw [← e] at hl; omega) (by rw [T.get_set_same]; trivial), T.get_set_same]
theorem fin_ok {h h' : T Blk} {nx nx' : Key} {v : V} {c : AV} {st : St} (f : Fr rb (T.set nx (some Zb) h) nx.succ h' nx') (hl : rb.toNat < nx.toNat) (r : Run rb D L st h' nx') (hK : IsK c v.kids) :
  Ends rb D L h nx (.ok v st) (.ret (.agg [I v.k, I v.n, .str v.a v.b, c, I v.size])) (T.set nx (some (.cells [I v.k, I v.n, .str v.a v.b, c, I v.size] .fix)) h') nx' := by
 have f' := f.down
 refine ⟨f'.set (Nat.le_refl _), ⟨c, hK, rfl⟩, r.set (f.res hl) (fun e => by rw [← e] at hl; omega)⟩
theorem stop_ok {h h' : T Blk} {nx nx' : Key} {c : Int} {st : St} (f : Fr rb h nx h' nx') (r : Run rb D L st h' nx') : Ends rb D L h nx (.stop c st) (stopO c) h' nx' := ⟨f, rfl, r⟩
end
end Tz
/-
 SV: declarations, and the maps that a run holds. No condition.
-/
namespace Tz
open Go.Sx Go
theorem IsSc.beq {rb : Key} {h : T Blk} {nx : Key} {p : AV} {s : Sc} (hp : IsSc rb h nx p s) : AV.beq p p = true := by
 cases hp with
 | nil => rfl
 | cons => exact beq_refl _ rfl
structure Dl where
 kind : Int
 f : Fun
 cts : List (S × Nat)
def IsPr (l : List AV) (p : S) : Prop := ∃ a b c, l = [SA p, a, b, c] ∧ AV.isCell a = true ∧ AV.isCell b = true ∧ AV.isCell c = true
def IsPs (c : AV) (ps : List S) : Prop := (c = .nils ∧ ps = []) ∨ ∃ cs, c = .sl cs ps.length 4 .any ∧ ps.length ≤ 4000 ∧ Rw 4 IsPr cs ps
def IsLen (c : AV) (n : Nat) : Prop := (c = .nils ∧ n = 0) ∨ ∃ cs z, c = .sl cs n z .any
def IsCtr (l : List AV) (x : S × Nat) : Prop := ∃ c, l = [SA x.1, c] ∧ IsLen c x.2
def IsCts (c : AV) (l : List (S × Nat)) : Prop := (c = .nils ∧ l = []) ∨ ∃ cs, c = .sl cs l.length 2 .any ∧ l.length ≤ 4000 ∧ Rw 2 IsCtr cs l
structure IsDl (l : List AV) (d : Dl) : Prop where
 len : l.length = 45
 k : l[0]? = some (I d.kind)
 nm : l[1]? = some (SA d.f.name)
 ct : ∃ c, l[3]? = some c ∧ IsCts c d.cts
 ps : ∃ c, l[4]? = some c ∧ IsPs c d.f.params
 bd : IsE ((l.drop 8).take 7) d.f.body
 stb : ∀ x ∈ l, Stb x
 cel : ∀ x ∈ l, AV.isCell x = true
def IsDs (c : AV) (ds : List Dl) : Prop := (c = .nils ∧ ds = []) ∨ ∃ cs, c = .sl cs ds.length 45 .any ∧ ds.length ≤ 4000 ∧ Rw 45 IsDl cs ds
theorem IsDs.stb {c : AV} {ds : List Dl} (h : IsDs c ds) : Stb c := by
 rcases h with ⟨rfl, _⟩ | ⟨cs, rfl, _, _⟩
 ·exact stb_nils
 ·exact stb_sl _ _ _
theorem IsDs.cell {c : AV} {ds : List Dl} (h : IsDs c ds) : c.isCell = true := by rcases h with ⟨rfl, _⟩ | ⟨_, rfl, _⟩ <;> rfl
def findD (kind : Int) (nm : S) : List Dl → Option Dl
 | [] => none
 | d :: l => if d.kind = kind ∧ d.f.name = nm then some d else findD kind nm l
def IsFp (p : AV) (F : Fun) : Prop := ∃ ld d, p = .cref ld ∧ IsDl ld d ∧ d.f = F
def fmOf (l : List (S × AV)) : List (AV × AV) := l.map fun x => (SA x.1, x.2)
theorem keyEq_S (a b : S) : keyEq [] true (SA a) (SA b) = some (decide (a = b)) := by
 simp only [keyEq, cond_true]
 congr 1
 by_cases h : a = b
 ·subst h; simp
 ·rw [decide_eq_false h]
  cases h1 : Nat.beq a.1 b.1
  ·rfl
  ·cases h2 : Nat.beq a.2 b.2
   ·rfl
   ·exact absurd (Prod.ext (Nat.eq_of_beq_eq_true h1) (Nat.eq_of_beq_eq_true h2)) h
theorem findK_fm (nm : S) : ∀ (l : List (S × AV)), findK [] true (SA nm) (fmOf l) = some (findA nm l)
 | [] => rfl
 | x :: l => by
  have ih := findK_fm nm l
  simp only [fmOf, List.map_cons, findK, findA] at ih ⊢
  rw [keyEq_S]
  by_cases h : nm = x.1
  ·rw [decide_eq_true h, if_pos h]
  ·rw [decide_eq_false h, if_neg h]; exact ih
theorem setK_fm (nm : S) (v : AV) : ∀ (l : List (S × AV)), findA nm l = none → setK [] true (SA nm) v (fmOf l) = some (fmOf (l ++ [(nm, v)]))
 | [], _ => rfl
 | x :: l, hn => by
  rw [findA] at hn
  by_cases h : nm = x.1
  ·rw [if_pos h] at hn; cases hn
  ·rw [if_neg h] at hn
   have ih := setK_fm nm v l hn
   simp only [fmOf, List.map_cons, List.cons_append, setK] at ih ⊢
   rw [keyEq_S, decide_eq_false h]
   simp only
   rw [ih]
theorem findA_app {α : Type} (nm : S) : ∀ (l m : List (S × α)), findA nm (l ++ m) = match findA nm l with | some x => some x | none => findA nm m
 | [], m => rfl
 | x :: l, m => by
  simp only [List.cons_append, findA]
  by_cases h : nm = x.1
  ·rw [if_pos h, if_pos h]
  ·rw [if_neg h, if_neg h]; exact findA_app nm l m
def modF : List Dl → List (S × Fun)
 | [] => []
 | d :: l => if d.kind = 1 then (d.f.name, d.f) :: modF l else modF l
def modC : List Dl → List (S × Int)
 | [] => []
 | d :: l => if d.kind = 0 then d.cts.map (fun x => (x.1, (x.2 : Int))) ++ modC l else modC l
def modOf (ds : List Dl) : Md := ⟨modF ds, modC ds⟩
theorem modF_find (nm : S) : ∀ ds, findA nm (modF ds) = (findD 1 nm ds).map Dl.f
 | [] => rfl
 | d :: l => by
  rw [modF, findD]
  by_cases hk : d.kind = 1
  ·rw [if_pos hk, findA]
   by_cases hn : nm = d.f.name
   ·rw [if_pos hn, if_pos ⟨hk, hn.symm⟩]; rfl
   ·rw [if_neg hn, if_neg fun h => hn h.2.symm]; exact modF_find nm l
  ·rw [if_neg hk, if_neg fun h => hk h.1]; exact modF_find nm l
theorem modF_app : ∀ (l m : List Dl), modF (l ++ m) = modF l ++ modF m
 | [], m => rfl
 | d :: l, m => by
  rw [List.cons_append, modF, modF]
  split
  ·rw [modF_app l m]; rfl
  ·exact modF_app l m
theorem modC_app : ∀ (l m : List Dl), modC (l ++ m) = modC l ++ modC m
 | [], m => rfl
 | d :: l, m => by
  rw [List.cons_append, modC, modC]
  split
  ·rw [modC_app l m, List.append_assoc]
  ·exact modC_app l m
def RelF (fm : List (AV × AV)) (fs : List (S × Fun)) : Prop := ∀ nm : S, match findA nm fs with
 | none => findK [] true (SA nm) fm = some none
 | some F => ∃ p, findK [] true (SA nm) fm = some (some p) ∧ IsFp p F
end Tz
