/-
 SV: numbers of arguments; variables that are bound. No condition.
-/
import Derived.Test.YthhjnogfljegnaaGreatDoorRA
import Derived.Test.YthhjnogfljegnaaGreatDoorVMem
set_option linter.unusedSimpArgs false
set_option linter.unusedVariables false
set_option linter.unusedSectionVars false
namespace Tz
open Go.Sx Go
def bnL : List S := [(4, 1702521203), (2, 29793), (4, 1752397168), (4, 1701536116), (4, 1886351972), (3, 7628147), (3, 7889261), (3, 7235949), (4, 1885957222)]
def arI (nm : S) : Int := match arityF nm with | some n => (n : Int) | none => -1
theorem arI_none {nm : S} (h : ∀ x ∈ bnL, x ≠ nm) : arI nm = -1 := by
 have h : ∀ x ∈ bnL, ¬ nm = x := fun x hx e => h x hx e.symm
 simp [bnL] at h
 simp [arI, arityF, h]
theorem Rw.app {α : Type} {z : Nat} {R : List AV → α → Prop} {cs ds : List AV} {vs us : List α} (h1 : Rw z R cs vs) (h2 : Rw z R ds us) : Rw z R (cs ++ ds) (vs ++ us) := by
 refine ⟨by simp [h1.hc, h2.hc, Nat.add_mul], fun i h => ?_⟩
 by_cases hi : i < vs.length
 ·rw [List.getElem_append_left hi]
  have h3 : (i + 1) * z ≤ vs.length * z := Nat.mul_le_mul_right _ hi
  have h4 : (i + 1) * z = i * z + z := Nat.succ_mul i z
  have e : ((cs ++ ds).drop (i * z)).take z = (cs.drop (i * z)).take z := by
   rw [List.drop_append_of_le_length (by rw [h1.hc]; omega), List.take_append_of_le_length (by rw [List.length_drop, h1.hc]; omega)]
  rw [e]
  exact h1.hk i hi
 ·rw [List.getElem_append_right (by omega)]
  have hlt : i - vs.length < us.length := by simp at h; omega
  have h3 : vs.length * z ≤ i * z := Nat.mul_le_mul_right _ (by omega)
  have e : ((cs ++ ds).drop (i * z)).take z = (ds.drop ((i - vs.length) * z)).take z := by
   rw [List.drop_append, List.drop_eq_nil_of_le (by rw [h1.hc]; omega), List.nil_append]
   congr 2
   rw [h1.hc, Nat.sub_mul]
  rw [e]
  exact h2.hk _ hlt
theorem Rw.one {α : Type} {z : Nat} {R : List AV → α → Prop} {cs : List AV} {v : α} (hl : cs.length = z) (h : R cs v) : Rw z R cs [v] := by
 refine ⟨by simp [hl], fun i hi => ?_⟩
 have : i = 0 := by simp at hi; omega
 subst this
 simpa [List.take_of_length_le, hl] using h
theorem RBd.stbs {l : List AV} {x : S × V} (h : RBd l x) : ∀ y ∈ l, Stb y := by
 obtain ⟨c, hK, rfl⟩ := h
 have i1 : ∀ n : Int, Stb (I n) := fun n k h => by cases k <;> rfl
 intro y hy
 simp at hy
 rcases hy with rfl | rfl | rfl | rfl | rfl
 ·exact stb_str _ _
 ·exact i1 _
 ·exact i1 _
 ·exact stb_str _ _
 ·exact IsK.stb hK
theorem RBd.iscells {l : List AV} {x : S × V} (h : RBd l x) : ∀ y ∈ l, AV.isCell y = true := by
 obtain ⟨c, hK, rfl⟩ := h
 intro y hy
 simp at hy
 rcases hy with rfl | rfl | rfl | rfl | rfl
 ·rfl
 ·rfl
 ·rfl
 ·rfl
 ·exact IsK.cell hK
theorem RBd.lits {l : List AV} {x : S × V} (h : RBd l x) : ∀ y ∈ l, AV.lits y = true := by
 obtain ⟨c, hK, rfl⟩ := h
 have := (IsV.of (k := 0) (n := 0) (a := 0) (b := 0) hK).lits
 simp [AV.litsL, AV.lits] at this
 intro y hy
 simp at hy
 rcases hy with rfl | rfl | rfl | rfl | rfl
 ·rfl
 ·rfl
 ·rfl
 ·rfl
 ·exact this
theorem REnv.row {c : AV} {s : Sc} (h : REnv c s) : ∃ cs, Rw 5 RBd cs s ∧ ((c = .nils ∧ s = [] ∧ cs = []) ∨ c = .sl cs s.length 5 .any) := by
 rcases h.c with ⟨rfl, rfl⟩ | ⟨cs, rfl, _, hcs⟩
 ·exact ⟨[], Rw.nil 5 RBd, .inl ⟨rfl, rfl, rfl⟩⟩
 ·exact ⟨cs, hcs, .inr rfl⟩
theorem bindS_rev : ∀ (ps : List S) (xs : List V) (s : Sc), ps.length = xs.length → (bindS ps xs s).reverse = s.reverse ++ ps.zip xs
 | [], [], s, _ => by simp [bindS]
 | p :: ps, x :: xs, s, h => by
  have := bindS_rev ps xs ((p, x) :: s) (by simpa using h)
  simp [bindS, this]
 | [], _ :: _, s, h => by cases h
 | _ :: _, [], s, h => by cases h
section
variable {C : Cfg} (S : Std C)
include S
theorem rarity_ok (nm : Go.Sx.S) : Pur C n_ycs [SA nm] (· = .ret (I (arI nm))) := by
 intro h nx
 refine S.c_ycs.call ?_
 simp [ycs]
 simp [ycs_r0]
 simp [ycs_r1, S.raw]
 refine (rbuiltins_ok S h nx).mono ?_
 rintro o h0 nx0 ⟨⟨c, hc, rfl⟩, e0⟩
 have hc : c = .sl (bnL.map SA) 9 1 .any := by
  rcases hc with ⟨_, h2⟩ | h2
  ·cases h2
  ·exact h2
 subst hc
 simp
 simp [ycs_r2]
 refine W.loopM (n := 9) (fun m tm' h' nx' => ∃ (j : Nat), m = 9 - j ∧ j ≤ 9 ∧ T.get (K 0) tm' = some (SA nm) ∧ T.get (K 3) tm' = some (.sl (bnL.map SA) 9 1 .any) ∧ T.get (K 4) tm' = some (I j) ∧ h' = h0 ∧ nx' = nx0 ∧ ∀ x ∈ bnL.take j, x ≠ nm) ?_ ?_
 ·refine ⟨0, by simp, by omega, ?_, ?_, ?_, rfl, rfl, by simp⟩ <;> simp
 ·rintro m tm1 h1 nx1 ⟨j, rfl, hj, f0, f3, f4, rfl, rfl, hB⟩
  refine W.of ?_
  simp [ycs_l0]
  by_cases hlt : j < 9
  ·have hlt' : (j : Int) < 9 := by omega
   have hlb : j < bnL.length := hlt
   have h1j : 1 ≤ 9 - j := by omega
   have hgd : (List.drop j (bnL.map SA)).take 1 = [SA bnL[j]] := by
    rw [List.drop_eq_getElem_cons (by simpa using hlb)]; simp
   have hll : (bnL.map SA).length = 9 := rfl
   have hbl : bnL.length = 9 := rfl
   simp [ycs_r3, f3, f4, hlt']
   simp [ycs_r4, f0, f3, f4, hlt, hgd, h1j, hll, hbl]
   refine ⟨fun a b => ?_, fun hne => ?_⟩
   ·have he : bnL[j] = nm := Prod.ext a b
    have hc : j = 0 ∨ j = 1 ∨ j = 2 ∨ j = 3 ∨ j = 4 ∨ j = 5 ∨ j = 6 ∨ j = 7 ∨ j = 8 := by omega
    have E1 := e0.trans (E0 h1 nx1 (.cells [I 1, I 2, I 2, I 2, I 2, I 3, I 2, I 2, I 1] .fix))
    have hq : ([I 1, I 2, I 2, I 2, I 2, I 3, I 2, I 2, I 1] : List AV)[j]? = some (I (arI nm)) := by
     subst he
     rcases hc with rfl | rfl | rfl | rfl | rfl | rfl | rfl | rfl | rfl <;> rfl
    obtain ⟨hq1, hq2⟩ := List.getElem?_eq_some_iff.1 hq
    simp [ycs_r5, f4, hlt, hlt']
    rw [hq2]
    exact ⟨rfl, E1⟩
   ·simp [ycs_r6, f4]
    refine ⟨9 - (j + 1), by omega, j + 1, rfl, by omega, ?_, ?_, ?_, ?_⟩
    ·simp [f0]
    ·simp [f3]
    ·simp; rw [wrap_id (by omega) (by omega)]
    ·intro a b hx
     rw [List.take_succ_eq_append_getElem hlb] at hx
     rcases List.mem_append.1 hx with hx | hx
     ·exact hB _ hx
     ·simp at hx; rw [hx]; exact fun e => hne (by rw [e]) (by rw [e])
  ·have hlt' : ¬ (j : Int) < 9 := by omega
   simp [ycs_r3, f3, f4, hlt']
   simp [ycs_r7]
   rw [arI_none (fun x hx => hB x (by rw [List.take_of_length_le (by show 9 ≤ j; omega)]; exact hx))]
   exact ⟨rfl, e0⟩
end
end Tz
/-
 SV: variables that are bound. No condition.
-/
namespace Tz
open Go.Sx Go
def BdInv (cn cv : AV) (names : List S) (vs : List V) (s : Sc) (h : T Blk) (nx : Key) (m : Nat) (tm' : T AV) (h' : T Blk) (nx' : Key) : Prop :=
 ∃ (j : Nat) (c : AV) (cs : List AV), m = names.length - j ∧ j ≤ names.length ∧ T.get (K 1) tm' = some cn ∧ T.get (K 2) tm' = some cv ∧ T.get (K 7) tm' = some c ∧ T.get (K 8) tm' = some (I j) ∧ IsApp c cs (s.length + j) 5 h' nx' ∧ (∀ b, OwnC c b → nx.toNat ≤ b.toNat) ∧ Rw 5 RBd cs (s ++ (names.take j).zip (vs.take j)) ∧ Ext h nx h' nx'
theorem Rw.cells {α : Type} {z : Nat} {R : List AV → α → Prop} {cs : List AV} {vs : List α} (hz : 0 < z) (h : Rw z R cs vs) (hP : ∀ l v, R l v → ∀ x ∈ l, AV.isCell x = true) : cs.all AV.isCell = true := List.all_eq_true.2 (h.all hz hP)
variable {C : Cfg} (S : Std C)
include S
theorem rbind_ok {ec cn cv : AV} {names : List Go.Sx.S} {vs : List V} {s : Sc} (he : REnv ec s) (hn : IsS cn names) (hv : IsK cv vs) (hl : names.length = vs.length) (hb : s.length + names.length ≤ 1000000) (hz : ∀ v ∈ vs, v.size ≤ 1073741824) :
  Pur C n_yct [ec, cn, cv] (fun o => ∃ c, REnv c (s ++ names.zip vs) ∧ o = .ret c) := by
 intro h nx
 obtain ⟨cs0, r0, hr0⟩ := he.row
 have lits0 : ∀ {cs : List AV} {s : Sc}, Rw 5 RBd cs s → AV.litsL cs = true := fun r => litsL_of fun x hx => r.all (by decide) (fun l v hv => RBd.lits hv) x hx
 have hz2 : ∀ x ∈ s ++ names.zip vs, x.2.size ≤ 1073741824 := by
  intro x hx
  rcases List.mem_append.1 hx with hx | hx
  ·exact he.z x hx
  ·exact hz x.2 (List.of_mem_zip hx).2
 have fin : ∀ (c : AV) (cs : List AV) (h1 : T Blk) (nx1 : Key), IsApp c cs (s.length + names.length) 5 h1 nx1 → (∀ b, OwnC c b → nx.toNat ≤ b.toNat) → Rw 5 RBd cs (s ++ names.zip vs) → Ext h nx h1 nx1 → REnv (frzA 8 c h1).1 (s ++ names.zip vs) ∧ Ext h nx (frzA 8 c h1).2 nx1 := by
  intro c cs h1 nx1 ha ho hr e
  obtain ⟨z1, z2⟩ := ha.fastN ho (fun y hy => hr.all (by decide) (fun l v hv => RBd.stbs hv) y hy) 7
  refine ⟨?_, e.n, fun b hb => by rw [z2 b hb]; exact e.g b hb⟩
  have hlen : (s ++ names.zip vs).length = s.length + names.length := by simp [hl]
  rcases z1 with ⟨e1, e2, e3⟩ | e1
  ·exact ⟨.inl ⟨e1, List.eq_nil_of_length_eq_zero (by omega)⟩, hz2⟩
  ·exact ⟨.inr ⟨cs, by rw [e1, hlen], by omega, hr⟩, hz2⟩
 have a0 : IsApp .nils [] 0 5 h nx := .inl ⟨rfl, rfl, rfl⟩
 obtain ⟨c1, h1, nx1, ha1, a1, o1, t1, g1⟩ := a0.addN (n0 := nx) (new := cs0) (m := s.length) (fun b o => own_nils o) (Nat.le_refl _) r0.hc (by omega) (Rw.cells (by decide) r0 fun l v hv => RBd.iscells hv)
 have go : ∀ tm, T.get (K 1) tm = some cn → T.get (K 2) tm = some cv → T.get (K 7) tm = some c1 → T.get (K 8) tm = some (I 0) → W C (.loop yct_l0) (blockPost 0 (seqPost (wpC C (.seq (.ops yct_r7) .ret) (BodyP [.tmp (K 6)] fun o h' nx' => (∃ c, REnv c (s ++ names.zip vs) ∧ o = .ret c) ∧ Ext h nx h' nx')) (BodyP [.tmp (K 6)] fun o h' nx' => (∃ c, REnv c (s ++ names.zip vs) ∧ o = .ret c) ∧ Ext h nx h' nx'))) tm h1 nx1 := by
  intro tm f1 f2 f7 f8
  refine W.loopM (n := names.length) (BdInv cn cv names vs s h nx) ?_ ?_
  ·refine ⟨0, c1, cs0, by simp, by omega, f1, f2, f7, by simpa using f8, by simpa using a1, o1, by simpa using r0, t1, g1⟩
  ·rintro m tm1 h2 nx2 ⟨j, c, cs, rfl, hj, f1, f2, f7, f8, ha, ho, hr, e⟩
   have en := e.n
   refine W.of ?_
   simp [yct_l0]
   by_cases hlt : j < names.length
   ·have hlt' : (j : Int) < names.length := by omega
    have hjv : j < vs.length := by omega
    rcases hn with ⟨rfl, rfl⟩ | rfl
    ·simp at hlt
    rcases hv with ⟨rfl, rfl⟩ | ⟨cs2, rfl, hvl, hcs⟩
    ·simp at hjv
    obtain ⟨cv, ev, hKv⟩ := hcs.at hjv
    have h4 : 4 ≤ cs2.length - j * 4 := by have := hcs.hc; omega
    have h1j : 1 ≤ names.length - j := by omega
    have hccv := IsK.cell hKv
    have hcfv : ∀ n h, frzA n cv h = (cv, h) := IsK.stb hKv
    have hgd : (List.drop j (names.map SA)).take 1 = [SA names[j]] := by
     rw [List.drop_eq_getElem_cons (by simpa using hlt)]; simp
    simp [yct_r4, f1, f8, hlt']
    have hBd : RBd [SA names[j], I vs[j].k, I vs[j].n, .str vs[j].a vs[j].b, cv] (names[j], vs[j]) := ⟨cv, hKv, rfl⟩
    have E3 := E0 h2 nx2 (.cells [SA names[j], I vs[j].k, I vs[j].n, .str vs[j].a vs[j].b, cv] .fix)
    have u2 := Key.toNat_succ nx2
    have a3 := ha.keep E3.n fun b hb _ => E3.g b hb
    obtain ⟨c', h5, nx5, ha5, a5, o5, t5, g5⟩ := a3.addN (n0 := nx) (new := [SA names[j], I vs[j].k, I vs[j].n, .str vs[j].a vs[j].b, cv]) (m := 1) ho (by omega) rfl (by omega) (by simp [hccv])
    have hbq := a3.beq (lits0 hr)
    have hcc := ha.cell
    simp [-appendTo, yct_r5, List.filter_cons, f1, f2, f7, f8, hlt, hlt', hjv, h4, h1j, hgd, ev, hccv, hcfv, IsK.cells hKv, hbq, hcc, ha5]
    simp [yct_r6, f8]
    refine ⟨names.length - (j + 1), by omega, j + 1, c', _, rfl, by omega, ?_, ?_, ?_, ?_, a5, o5, ?_, ?_⟩
    ·simp [f1]
    ·simp [f2]
    ·simp
    ·simp; rw [wrap_id (by omega) (by omega)]
    ·have := hr.app (Rw.one (z := 5) rfl hBd)
     rw [List.take_succ_eq_append_getElem hlt, List.take_succ_eq_append_getElem hjv, List.zip_append (by simp; omega)]
     simpa using this
    ·exact ⟨by omega, fun b hb => by rw [g5 b hb, get_lt (by omega)]; exact e.g b hb⟩
   ·have hlt' : ¬ (j : Int) < names.length := by omega
    have hjn : j = names.length := by omega
    subst hjn
    have hr' : Rw 5 RBd cs (s ++ names.zip vs) := by
     rw [List.take_length, List.take_of_length_le (by omega)] at hr; exact hr
    rcases hn with ⟨rfl, rfl⟩ | rfl
    ·simp [yct_r4, f1, f8]
     simp [yct_r7, f7]
     have fin := fin c cs h2 nx2 ha ho hr' e
     simpa using fin
    ·simp [yct_r4, f1, f8]
     simp [yct_r7, f7]
     exact fin c cs h2 nx2 ha ho hr' e
 refine S.c_yct.call ?_
 simp [yct]
 simp [yct_r0]
 simp [yct_r1]
 rcases hr0 with ⟨rfl, rfl, rfl⟩ | rfl
 ·simp only [List.length_nil] at ha1
  simp [-appendTo, yct_r2, ha1]
  simp [yct_r3]
  refine go _ ?_ ?_ ?_ ?_ <;> simp
 ·simp [-appendTo, yct_r2, ha1]
  simp [yct_r3]
  refine go _ ?_ ?_ ?_ ?_ <;> simp
end Tz
/-
 SV: declarations. No condition.
-/
namespace Tz
open Go.Sx Go
def zD : List AV := [(I 0), (.str 0 0), (I 0), .nils, .nils, (I 0), (.str 0 0), .nils, (I 0), (.str 0 0), (I 0), .nils, .nils, .nils, (I 0), (I 0), (I 0), (.str 0 0), .nils, .nils, .nils, (I 0), .nils, .nils, .nils, .nils, (I 0), (.str 0 0), .nils, (I 0), (.str 0 0), (I 0), .nils, .nils, .nils, (I 0), .nils, .nils, (I 0), (.str 0 0), (I 0), .nils, .nils, .nils, (I 0)]
theorem zl : zD.length = 45 := rfl
def DInv (kind : Int) (nm : S) (ds : List Dl) (cs : List AV) (h : T Blk) (nx : Key) (m : Nat) (tm' : T AV) (h' : T Blk) (nx' : Key) : Prop := ∃ (j : Nat), m = ds.length - j ∧ j ≤ ds.length ∧ T.get (K 1) tm' = some (I kind) ∧ T.get (K 2) tm' = some (SA nm) ∧ T.get (K 3) tm' = some (.ptr nx 0) ∧ T.get (K 6) tm' = some (.ptr nx.succ 0) ∧ T.get (K 8) tm' = some (I j) ∧
  T.get nx h' = some (.cells [.sl cs ds.length 45 .any] .fix) ∧ T.get nx.succ h' = some (.cells zD .fix) ∧ Ext h nx h' nx' ∧ nx.succ.succ.toNat ≤ nx'.toNat ∧ findD kind nm ds = findD kind nm (ds.drop j)
variable {C : Cfg} (S : Std C)
include S
theorem rdecl_ok {dc : AV} {ds : List Dl} (hd : IsDs dc ds) (kind : Int) (nm : Go.Sx.S) : Pur C n_ybt [.agg [dc], I kind, SA nm] (fun o => match findD kind nm ds with
  | some d => ∃ l, IsDl l d ∧ o = .ret (.tuple [.agg l, .bool true])
  | none => o = .ret (.tuple [.agg zD, .bool false])) := by
 intro h nx
 have s1 := Key.toNat_succ nx
 have s2 := Key.toNat_succ nx.succ
 rcases hd with ⟨rfl, rfl⟩ | ⟨cs, rfl, hdl, hcs⟩
 ·have e1 := (E0 h nx (.cells [.nils] .fix)).trans (E0 _ nx.succ (.cells zD .fix))
  refine S.c_ybt.call ?_
  simp [ybt]
  simp [ybt_r0]
  simp [ybt_r1]
  refine W.unroll (W.of ?_)
  simp [ybt_l0]
  simp [ybt_r2]
  simp [ybt_r6, tupled]
  exact ⟨rfl, e1⟩
 refine S.c_ybt.call ?_
 simp [ybt]
 simp [ybt_r0]
 simp [ybt_r1]
 refine W.loopM (n := ds.length) (DInv kind nm ds cs h nx) ?_ ?_
 ·refine ⟨0, by simp, by omega, ?_, ?_, ?_, ?_, ?_, ?_, ?_, ?_, by omega, by simp⟩
  ·simp
  ·simp
  ·simp
  ·simp
  ·simp
  ·rw [get_lt (by omega)]; simp
  ·simp [zD]
  ·exact (E0 _ _ _).trans (E0 _ _ _)
 ·rintro m tm1 h1 nx1 ⟨j, rfl, hj, f1, f2, f3, f6, f8, q0, q1, e1, t1, hB⟩
  refine W.of ?_
  simp [ybt_l0]
  by_cases hlt : j < ds.length
  ·have hlt' : (j : Int) < ds.length := by omega
   have h45 : 45 ≤ cs.length - j * 45 := by have := hcs.hc; omega
   have hD := hcs.hk j hlt
   rw [List.drop_eq_getElem_cons hlt, findD] at hB
   have hcel : ∀ x ∈ (cs.drop (j * 45)).take 45, AV.isCell x = true := hD.cel
   generalize hL : (cs.drop (j * 45)).take 45 = l at hD hcel
   simp [ybt_r2, f3, f8, q0, hlt']
   have hkk := hD.k
   have hnn := hD.nm
   have hlen := hD.len
   have hstep : (¬ (ds[j].kind = kind ∧ ds[j].f.name = nm)) → ∀ (tm : T AV) (Q : T AV → T Blk → Key → Prop) (X : Post), (∀ tm h' nx', (∃ m, m < ds.length - j ∧ DInv kind nm ds cs h nx m tm h' nx') → Q tm h' nx') → T.get (K 1) tm = some (I kind) → T.get (K 2) tm = some (SA nm) → T.get (K 3) tm = some (.ptr nx 0) → T.get (K 6) tm = some (.ptr nx.succ 0) → T.get (K 8) tm = some (I j) → wpO C (seqPost Q X) ybt_r5 tm h1 nx1 := by
    intro hno tm Q X hQ f1 f2 f3 f6 f8
    simp [ybt_r5, f8]
    refine hQ _ _ _ ⟨ds.length - (j + 1), by omega, j + 1, rfl, by omega, ?_, ?_, ?_, ?_, ?_, q0, q1, e1, by omega, ?_⟩
    ·simp [f1]
    ·simp [f2]
    ·simp [f3]
    ·simp [f6]
    ·simp; rw [wrap_id (by omega) (by omega)]
    ·rw [hB, if_neg hno]
   by_cases hk : ds[j].kind = kind
   ·have hk' : (ds[j].kind == kind) = true := by simpa using hk
    by_cases hn : ds[j].f.name = nm
    ·rw [hn] at hnn
     simp [ybt_r3, f1, f2, f3, f8, q0, hlt, h45, hL, hkk, hnn, hk]
     rw [if_pos ⟨hk, hn⟩] at hB
     have tk : List.take 45 l = l := List.take_of_length_le (by omega)
     have hall : l.all AV.isCell = true := List.all_eq_true.2 hcel
     have zd : List.drop 45 zD = [] := rfl
     have fz : ∀ n H, frzLA (frzA n) l H = (l, H) := fun n H => frzLA_stb hD.stb
     simp [-List.all_eq_true, ybt_r4, f3, f6, f8, q0, q1, hlt, h45, hL, hlen, zl, tk, hall, zd, fz, hB, tupled]
     exact ⟨hD, e1.n, fun b hb => by rw [get_lt (by omega)]; exact e1.g b hb⟩
    ·have hn' : ¬ (ds[j].f.name.1 = nm.1 ∧ ds[j].f.name.2 = nm.2) := fun hh => hn (Prod.ext hh.1 hh.2)
     simp [ybt_r3, f1, f2, f3, f8, q0, hlt, h45, hL, hkk, hnn, hk]
     refine ⟨fun a b => absurd ⟨a, b⟩ hn', fun _ => ?_⟩
     refine hstep (fun hh => hn hh.2) _ _ _ (fun _ _ _ hh => hh) ?_ ?_ ?_ ?_ ?_ <;> simp [f1, f2, f3, f6, f8]
   ·have hk' : (ds[j].kind == kind) = false := by simpa using hk
    simp [ybt_r3, f1, f2, f3, f8, q0, hlt, h45, hL, hkk, hk']
    refine hstep (fun hh => hk hh.1) _ _ _ (fun _ _ _ hh => hh) ?_ ?_ ?_ ?_ ?_ <;> simp [f1, f2, f3, f6, f8]
  ·have hlt' : ¬ (j : Int) < ds.length := by omega
   simp [ybt_r2, f3, f8, q0, hlt']
   rw [hB, List.drop_eq_nil_of_le (by omega), findD]
   simp [ybt_r6, f6, q1, zl, tupled]
   refine ⟨rfl, e1.n, fun b hb => by rw [get_lt (by omega)]; exact e1.g b hb⟩
end Tz
/-
 SV: the reference's calls of functions. No condition.
-/
namespace Tz
open Go.Sx Go
def EnInv (ps : List S) (d5 : Key) (h : T Blk) (nx : Key) (rb k8 : Key) (cv : AV) (deep : Int) (m : Nat) (tm' : T AV) (h' : T Blk) (nx' : Key) : Prop :=
 ∃ (j : Nat) (c : AV), m = ps.length - j ∧ j ≤ ps.length ∧ T.get (K 0) tm' = some (.ptr rb 0) ∧ T.get (K 2) tm' = some cv ∧ T.get (K 3) tm' = some (I deep) ∧ T.get (K 5) tm' = some (.ptr d5 0) ∧ T.get (K 8) tm' = some (.ptr k8 0) ∧ T.get (K 9) tm' = some c ∧ T.get (K 10) tm' = some (I j) ∧
  IsApp c ((ps.take j).map SA) j 1 h' nx' ∧ (∀ b, OwnC c b → nx.toNat ≤ b.toNat) ∧ Ext h nx h' nx'
section
variable {C : Cfg} (S : Std C) {rb : Key} {dc : AV} {L : Lim} {rec_ : Rec} {c0 : Int} (HE : RvOKz C rb dc L rec_ c0)
include S HE
theorem renter_ok {d : Dl} {st : St} {cv : AV} {vs : List V} {ld : List AV} {h : T Blk} {nx : Key} (hc : c0 ≤ st.cf) (k0 : 0 ≤ st.calls) (k1 : st.calls ≤ 256) (hr : RR rb dc L st 0 h nx) (hd : IsDl ld d) (hv : IsK cv vs) (hl : d.f.params.length = vs.length) (hm : Sm d.f.body) (hz : ∀ v ∈ vs, v.size ≤ 1073741824) :
  CallA C n_ycf [.ptr rb 0, .agg ld, cv, I st.calls] h nx (REndsZ rb dc L h nx (callF rec_ d.f vs st)) := by
 have hv' : ∀ n h, frzA n cv h = (cv, h) := IsK.stb hv
 have low := hr.low
 have s1 := Key.toNat_succ nx
 have s2 := Key.toNat_succ nx.succ
 have hcel : ld.all AV.isCell = true := List.all_eq_true.2 hd.cel
 have e1 := (E0 h nx (.cells ld .fix)).trans (E0 (T.set nx (some (.cells ld .fix)) h) nx.succ (.cells z4 .fix))
 have R1 := hr.ext e1
 have F1 := Fb.ext low e1
 have hn0 : nx ≠ rb := fun e => by rw [e] at s1 low; omega
 have hn1 : nx.succ ≠ rb := fun e => by rw [← e] at low; omega
 refine S.c_ycf.call ?_
 simp [ycf]
 simp [-List.all_eq_true, ycf_r0, hcel]
 by_cases hdeep : 256 ≤ st.calls
 ·have hdeep2 : ¬ st.calls < 256 := by omega
  simp [ycf_r1, hdeep2]
  simp [ycf_r2, S.raw]
  refine (rendb_ok S 15 R1).mono ?_
  rintro o h3 nx3 ⟨rfl, f3, R3⟩
  simp at R3
  have q3 := f3.fix R1 (b := nx.succ) (T.get_set_same _ _ _) (by omega) hn1
  simp [tupled]
  simp [ycf_r3, q3]
  refine ⟨(F1.trans f3).put (by omega) low, _, rfl, ?_⟩
  simp [callF, hdeep]
  exact R3.set q3 hn1
 ·have hdeep' : st.calls < 256 := by omega
  simp [ycf_r1, hdeep']
  simp [ycf_r4]
  simp [ycf_r5]
  obtain ⟨cp, hp4, hps⟩ := hd.ps
  refine W.loopM (n := d.f.params.length) (EnInv d.f.params nx (T.set nx.succ (some (.cells z4 .fix)) (T.set nx (some (.cells ld .fix)) h)) nx.succ.succ rb nx.succ cv st.calls) ?_ ?_
  ·refine ⟨0, .nils, by simp, by omega, ?_, ?_, ?_, ?_, ?_, ?_, ?_, .inl ⟨rfl, rfl, rfl⟩, fun b o => own_nils o, Ext.refl _ _⟩ <;> simp
  ·rintro m tm1 h1 nx1 ⟨j, c, rfl, hj, f0, f2, f3, f5, f8, f9, f10, ha, ho, e2⟩
   have t2 := e2.n
   have q0 : T.get nx h1 = some (.cells ld .fix) := (e2.g nx (by omega)).trans (by rw [get_lt (by omega)]; exact T.get_set_same _ _ _)
   have q1 := (e2.g nx.succ (by omega)).trans (T.get_set_same _ _ _)
   refine W.of ?_
   simp [ycf_l0]
   by_cases hlt : j < d.f.params.length
   ·have hlt' : (j : Int) < d.f.params.length := by omega
    rcases id hps with ⟨rfl, hz⟩ | ⟨cs, rfl, hpl, hcs⟩
    ·rw [hz] at hlt; simp at hlt
    simp [ycf_r6, f5, f10, q0, hp4, hlt']
    have h4 : 4 ≤ cs.length - j * 4 := by have := hcs.hc; omega
    obtain ⟨_, _, _, ht, _, _, _⟩ := hcs.hk j hlt
    have E3 := E0 h1 nx1 (.cells [SA d.f.params[j]] .fix)
    have u1 := Key.toNat_succ nx1
    have a3 := ha.keep E3.n fun b hb _ => E3.g b hb
    obtain ⟨c', h5, nx5, ha5, a5, o5, t5, g5⟩ := a3.addN (n0 := nx.succ.succ) (new := [SA d.f.params[j]]) (m := 1) ho (by omega) rfl (by omega) (by simp)
    simp [-appendTo, ycf_r7, f5, f9, f10, q0, hp4, hlt, h4, ht, ha5]
    simp [ycf_r8, f10]
    refine ⟨d.f.params.length - (j + 1), by omega, j + 1, c', rfl, by omega, ?_, ?_, ?_, ?_, ?_, ?_, ?_, ?_, o5, ?_⟩
    ·simp [f0]
    ·simp [f2]
    ·simp [f3]
    ·simp [f5]
    ·simp [f8]
    ·simp
    ·simp; rw [wrap_id (by omega) (by omega)]
    ·rw [List.take_succ_eq_append_getElem hlt, List.map_append]
     simpa using a5
    ·exact ⟨by omega, fun b hb => by rw [g5 b hb, get_lt (by omega)]; exact e2.g b hb⟩
   ·have hlt' : ¬ (j : Int) < d.f.params.length := by omega
    have hjn : j = d.f.params.length := by omega
    subst hjn
    have hw : wrapF .i64 (st.calls + 1) = st.calls + 1 := wrap_id (by omega) (by omega)
    have hlen := hd.len
    have h8 : 7 ≤ ld.length - 8 := by omega
    have hbE := hd.bd
    generalize hB : (ld.drop 8).take 7 = le at hbE
    have hbq : AV.litsL le = true := hbE.lits
    have hbeq : AV.beq (.agg le) (.agg le) = true := beq_refl _ (by simpa [AV.lits] using hbq)
    have hfz : ∀ n H, frzLA (frzA n) le H = (le, H) := fun n H => hbE.frz n H
    have hnm := hd.nm
    obtain ⟨z1, z2⟩ := ha.fastN (n0 := nx.succ.succ) ho (fun y hy => by obtain ⟨x, _, rfl⟩ := List.mem_map.1 hy; exact stb_str _ _) 7
    have hS : IsS (frzA 8 c h1).1 d.f.params := by
     rw [List.take_length] at z1
     rcases z1 with ⟨e, _, e3⟩ | e
     ·exact .inl ⟨e, List.eq_nil_of_length_eq_zero e3⟩
     ·exact .inr e
    have e3 : Ext (T.set nx.succ (some (.cells z4 .fix)) (T.set nx (some (.cells ld .fix)) h)) nx.succ.succ (frzA 8 c h1).2 nx1 := ⟨t2, fun b hb => by rw [z2 b hb]; exact e2.g b hb⟩
    have hpl : d.f.params.length ≤ 4000 := by
     rcases hps with ⟨_, hz⟩ | ⟨_, _, hpl, _⟩
     ·rw [hz]; simp
     ·exact hpl
    have tail : ∀ tm, T.get (K 0) tm = some (.ptr rb 0) → T.get (K 2) tm = some cv → T.get (K 3) tm = some (I st.calls) → T.get (K 5) tm = some (.ptr nx 0) → T.get (K 8) tm = some (.ptr nx.succ 0) → T.get (K 9) tm = some c →
      wpC C (.seq (.staged ycf_r9 ⟨[K 32, K 33, K 34, K 35, K 36, K 37, K 38, K 39, K 40, K 41, K 42], []⟩) .ret) (BodyP [.cell (K 8) true 4] (REndsZ rb dc L h nx (callF rec_ d.f vs st))) tm h1 nx1 := by
     intro tm f0 f2 f3 f5 f8 f9
     simp [ycf_r9, f0, f2, f3, f5, f8, f9, q0, h8, hB, hnm, hw, S.raw, hv']
     refine (rbind_ok S ⟨.inl ⟨rfl, rfl⟩, by simp⟩ hS hv hl (by simp; omega) hz _ _).mono ?_
     rintro o h3 nx3 ⟨⟨ce, hce, rfl⟩, e4⟩
     have E4 := e3.trans e4
     have R4 := R1.ext E4
     have F4 := F1.trans (Fb.ext (rb := rb) (by omega) E4)
     have t4 := E4.n
     have q04 : T.get nx h3 = some (.cells ld .fix) := by rw [E4.g nx (by omega), get_lt (by omega)]; exact T.get_set_same _ _ _
     have q14 : T.get nx.succ h3 = some (.cells z4 .fix) := by rw [E4.g nx.succ (by omega)]; exact T.get_set_same _ _ _
     have hce' : ∀ n h, frzA n ce h = (ce, h) := hce.stb
     have henv : REnv ce (bindS d.f.params vs []).reverse := by rw [bindS_rev _ _ _ hl]; exact hce
     have hbs : AV.beq (SA d.f.name) (SA d.f.name) = true := beq_refl _ rfl
     simp [q04, h8, hB, hnm, hbeq, hbs, S.raw, hce', hfz]
     refine (HE d.f.name (bindS d.f.params vs []) d.f.body { st with calls := st.calls + 1 } ce le _ _ hc (by simp; omega) (by simp; omega) (R4.calls _) henv hbE hm).mono ?_
     rintro o h5 nx5 ⟨f5', lv, rfl, hR⟩
     have q15 := f5'.fix R4 q14 (by omega) hn1
     have F5 := F4.trans f5'
     have hcl : ∀ {v : V}, IsV lv v → lv.all AV.isCell = true ∧ lv.length = 4 ∧ ∀ n H, frzLA (frzA n) lv H = (lv, H) := fun hv => ⟨List.all_eq_true.2 (IsV.iscells hv), hv.length, fun n H => frzLA_stb (IsV.stbs hv)⟩
     obtain ⟨v, hvv⟩ : ∃ v, IsV lv v := by
      cases hrec : rec_ d.f.name (bindS d.f.params vs []) d.f.body { st with calls := st.calls + 1 } with
      | ok v st2 => rw [hrec] at hR; exact ⟨v, hR.1⟩
      | stop x st2 => rw [hrec] at hR; exact ⟨.mk 0 0 0 0 [], by rw [hR.2.1]; exact .leaf 0 0 0 0⟩
     obtain ⟨hc1, hc2, hc3⟩ := hcl hvv
     obtain ⟨cx, rfl, hKx⟩ := hvv.cells
     have hccx := IsK.cell hKx
     have hcfx : ∀ n h, frzA n cx h = (cx, h) := IsK.stb hKx
     simp [f8, q15, hccx, hcfx]
     refine ⟨F5.put (by omega) low, _, rfl, ?_⟩
     unfold callF
     rw [if_neg hdeep]
     cases hrec : rec_ d.f.name (bindS d.f.params vs []) d.f.body { st with calls := st.calls + 1 } with
     | ok v st2 =>
      rw [hrec] at hR
      exact ⟨hR.1, (hR.2.set q15 hn1).calls _⟩
     | stop x st2 =>
      rw [hrec] at hR
      exact ⟨hR.1, hR.2.1, hR.2.2.set q15 hn1⟩
    rcases id hps with ⟨rfl, hz⟩ | ⟨cs, rfl, hpl, hcs⟩
    ·simp [ycf_r6, f5, f10, q0, hp4, hz]
     refine tail _ ?_ ?_ ?_ ?_ ?_ ?_ <;> simp [f0, f2, f3, f5, f8, f9]
    ·simp [ycf_r6, f5, f10, q0, hp4, hlt']
     refine tail _ ?_ ?_ ?_ ?_ ?_ ?_ <;> simp [f0, f2, f3, f5, f8, f9]
end
end Tz
/-
 SV: the reference's push. No condition.
-/
namespace Tz
open Go.Sx Go
variable {C : Cfg} (S : Std C) {rb : Key} {dc : AV} {L : Lim}
include S
theorem rpush_ok {st : St} {cv : AV} {x y : V} {h : T Blk} {nx : Key} (hr : RR rb dc L st 0 h nx) (hv : IsK cv [x, y]) (hx : x.k = 2 → x.kids.length ≤ 3000) :
  CallA C n_yci [.ptr rb 0, .str 4 1752397168, cv] h nx (REnds rb dc L h nx (builtF (4, 1752397168) [x, y] st)) := by
 have hv' : ∀ n h, frzA n cv h = (cv, h) := IsK.stb hv
 have low := hr.low
 have s1 := Key.toNat_succ nx
 have s2 := Key.toNat_succ nx.succ
 have s3 := Key.toNat_succ nx.succ.succ
 have hn0 : nx ≠ rb := fun e => by rw [e] at s1 low; omega
 have e1 : Ext h nx (T.set nx.succ.succ (some (.cells [I 2, I (-1)] .ro)) (T.set nx.succ.succ (some (.cells [I 2, I (-1)] .fix)) (T.set nx.succ (some (.cells [I 2, I 0] .fix)) (T.set nx (some (.cells z4 .fix)) h)))) nx.succ.succ.succ := ⟨by omega, fun b hb => by rw [get_lt (by omega), get_lt (by omega), get_lt (by omega), get_lt (by omega)]⟩
 have q1 : T.get nx (T.set nx.succ.succ (some (.cells [I 2, I (-1)] .ro)) (T.set nx.succ.succ (some (.cells [I 2, I (-1)] .fix)) (T.set nx.succ (some (.cells [I 2, I 0] .fix)) (T.set nx (some (.cells z4 .fix)) h)))) = some (.cells z4 .fix) := by rw [get_lt (by omega), get_lt (by omega), get_lt (by omega)]; exact T.get_set_same _ _ _
 have R1 := hr.ext e1
 have F1 := Fb.ext low e1
 refine S.c_yci.call ?_
 simp [yci]
 simp [yci_r0]
 simp [yci_r1]
 simp [yci_r2]
 simp [yci_r3]
 simp [yci_r5]
 simp [yci_r6]
 simp [yci_r14, S.raw, hv']
 have hfx := frz_fix (n := 7) (b := nx.succ.succ) (len := 2) (sz := 1) (l := [I 2, I (-1)]) (H := T.set nx.succ.succ (some (.cells [I 2, I (-1)] .fix)) (T.set nx.succ (some (.cells [I 2, I 0] .fix)) (T.set nx (some (.cells z4 .fix)) h))) (T.get_set_same _ _ _) rfl (by
  intro y hy
  have i1 : ∀ n : Int, Stb (I n) := fun n k h => by cases k <;> rfl
  simp at hy
  rcases hy with rfl | rfl <;> exact i1 _)
 rw [hfx]
 refine (rkinds_ok S [2, -1] R1 hv (by simp) (by simp)).mono ?_
 rintro o h2 nx2 ⟨f2, rfl, R2⟩
 have q2 := f2.fix R1 q1 (by omega) hn0
 have t2 := f2.n
 have F2 := F1.trans f2
 have low2 : rb.toNat < nx2.toNat := by omega
 by_cases hk : x.k = 2
 ·have hB : kindsB [x, y] [2, -1] = true := by simp [kindsB, hk]
  simp [hB] at R2 ⊢
  obtain ⟨cs, hcs, hcv⟩ := IsK.row hv
  have hcv : cv = .sl cs 2 4 .any := by
   rcases hcv with ⟨_, h2, _⟩ | h2
   ·cases h2
   ·exact h2
  subst hcv
  obtain ⟨cx, ex, hKx⟩ := hcs.at (i := 0) (by simp)
  obtain ⟨cy, ey, hKy⟩ := hcs.at (i := 1) (by simp)
  have hlen := hcs.hc
  simp at ex ey hKx hKy hlen
  have h4 : 4 ≤ cs.length := by omega
  have h8 : 4 ≤ cs.length - 4 := by omega
  have hccy := IsK.cell hKy
  have hcfy : ∀ n h, frzA n cy h = (cy, h) := IsK.stb hKy
  have hcfx : ∀ n h, frzA n cx h = (cx, h) := IsK.stb hKx
  simp [yci_r16, h4, ex]
  simp [yci_r17]
  simp [yci_r18]
  simp [yci_r20]
  simp [yci_r21, h8, ey, hccy, hcfy, hcfx, S.raw]
  have hvy := IsV.ofV hKy
  have hfy := frz_fix (n := 7) (b := nx2) (len := 1) (sz := 4) (l := [I y.k, I y.n, .str y.a y.b, cy]) (H := T.set nx2 (some (.cells [I y.k, I y.n, .str y.a y.b, cy] .fix)) h2) (T.get_set_same _ _ _) rfl (IsV.stbs hvy)
  rw [hfy]
  have u2 := Key.toNat_succ nx2
  have e3 : Ext h2 nx2 (T.set nx2 (some (.cells [I y.k, I y.n, .str y.a y.b, cy] .ro)) (T.set nx2 (some (.cells [I y.k, I y.n, .str y.a y.b, cy] .fix)) h2)) nx2.succ := ⟨by omega, fun b hb => by rw [get_lt (by omega), get_lt (by omega)]⟩
  refine (rlist_ok S hKx (us := [y]) (.inr ⟨_, rfl, by simp, IsVs.one hvy⟩) (by have := hx hk; simp; omega) _ _).mono ?_
  rintro o h4 nx4 ⟨⟨lv, hlv, rfl⟩, e4⟩
  have e5 := e3.trans e4
  have q4 := (e5.g nx (by omega)).trans q2
  have F5 := F2.trans (Fb.ext low2 e5)
  obtain ⟨cw, rfl, hKw⟩ := hlv.cells
  have hccw := IsK.cell hKw
  have hcfw : ∀ n h, frzA n cw h = (cw, h) := IsK.stb hKw
  simp [q4, hccw, hcfw]
  refine ⟨F5.put (by omega) low, _, rfl, ?_⟩
  simp [builtF, hk]
  exact ⟨hlv, (R2.ext e5).set q4 hn0⟩
 ·have hk' : (x.k == 2) = false := by simpa using hk
  have hB : kindsB [x, y] [2, -1] = false := by simp [kindsB, hk']
  simp [hB] at R2 ⊢
  simp [yci_r15, q2]
  refine ⟨F2.put (by omega) low, _, rfl, ?_⟩
  simp [builtF, hk]
  exact ⟨⟨_, .leaf 0 0 0 0⟩, R2.set q2 hn0⟩
end Tz
/-
 SV: the reference's operations. No condition.
-/
namespace Tz
open Go.Sx Go
def opV (nm : S) (x y : V) (st : St) : Res :=
 if x.k = 0 ∧ y.k = 0 then (if nm = (1, 43) then numR (wrapF .i64 (x.n + y.n)) st else if nm = (1, 45) then numR (wrapF .i64 (x.n - y.n)) st else boolR (decide (x.n < y.n)) st) else .stop 9 st
theorem opF_all {rec_ : Rec} {fn : S} {s : Sc} {e : E} {st : St} {a b : E} (hk : e.kids = [a, b]) (hn : e.name = (1, 43) ∨ e.name = (1, 45) ∨ e.name = (1, 60)) :
  opF rec_ fn s e st = match allF rec_ fn s e.kids st with | .stop c st => .stop c st | .ok [x, y] st => opV e.name x y st | .ok _ st => .stop 9 st := by
 unfold opF
 rw [hk]
 simp only [allF]
 rcases hn with hn | hn | hn
 ·rw [hn]
  cases rec_ fn s a st with
  | stop c st1 => simp
  | ok x st1 =>
   simp
   cases rec_ fn s b st1 with
   | stop c st2 => simp
   | ok y st2 => simp [opV]
 ·rw [hn]
  cases rec_ fn s a st with
  | stop c st1 => simp
  | ok x st1 =>
   simp
   cases rec_ fn s b st1 with
   | stop c st2 => simp
   | ok y st2 => simp [opV]
 ·rw [hn]
  cases rec_ fn s a st with
  | stop c st1 => simp
  | ok x st1 =>
   simp
   cases rec_ fn s b st1 with
   | stop c st2 => simp
   | ok y st2 => simp [opV]
theorem kids2 {l : List E} (h : l.length = 2) : ∃ a b, l = [a, b] := by
 match l, h with
 | [a, b], _ => exact ⟨a, b, rfl⟩
section
variable {C : Cfg} (S : Std C) {rb : Key} {dc : AV} {L : Lim} {rec_ : Rec} {c0 : Int} (HE : RvOK C rb dc L rec_ c0) (G : GoodR L rec_)
include S HE G
theorem rop_ok {fn : Go.Sx.S} {s : Sc} {e : E} {st : St} {ec : AV} {le : List AV} {h : T Blk} {nx : Key} (hc : c0 ≤ st.cf) (k0 : 0 ≤ st.calls) (k1 : st.calls ≤ 256) (hr : RR rb dc L st 0 h nx) (hs : REnv ec s.reverse) (he : IsE le e) (hm : ∀ x ∈ e.kids, Sm x) (hk2 : e.kids.length = 2) (hnm : e.name = (1, 43) ∨ e.name = (1, 45) ∨ e.name = (1, 60)) :
  CallA C n_ycp [.ptr rb 0, ec, .agg le, SA fn, I st.calls] h nx (REnds rb dc L h nx (opF rec_ fn s e st)) := by
 have hs' : ∀ n h, frzA n ec h = (ec, h) := hs.stb
 have low := hr.low
 have s1 := Key.toNat_succ nx
 have s2 := Key.toNat_succ nx.succ
 obtain ⟨cn, cb, ck, rfl, hn, hb, hk, hq⟩ := he.cells
 obtain ⟨a, b, hab⟩ := kids2 hk2
 have g3 : ∀ n h, frzA n ck h = (ck, h) := hk.stb
 have c1 : cn.isCell = true := by rcases hn with ⟨rfl, _⟩ | rfl <;> rfl
 have c2 : cb.isCell = true := by rcases hb with ⟨rfl, _⟩ | ⟨_, rfl, _⟩ <;> rfl
 have c3 : ck.isCell = true := by rcases hk with ⟨rfl, _⟩ | ⟨_, rfl, _⟩ <;> rfl
 have hn0 : nx ≠ rb := fun e => by rw [e] at s1 low; omega
 have hn1 : nx.succ ≠ rb := fun e => by rw [← e] at low; omega
 have e1 := (E0 h nx (.cells [I e.k, SA e.name, I e.n, cn, cb, ck, I e.at_] .fix)).trans (E0 _ nx.succ (.cells z4 .fix))
 have R1 := hr.ext e1
 have F1 := Fb.ext low e1
 have q0 : T.get nx (T.set nx.succ (some (.cells z4 .fix)) (T.set nx (some (.cells [I e.k, SA e.name, I e.n, cn, cb, ck, I e.at_] .fix)) h)) = some (.cells [I e.k, SA e.name, I e.n, cn, cb, ck, I e.at_] .fix) := by rw [get_lt (by omega)]; exact T.get_set_same _ _ _
 rw [opF_all hab hnm]
 refine S.c_ycp.call ?_
 simp [ycp]
 simp [ycp_r0, c1, c2, c3]
 simp [ycp_r1, q0]
 have n1 : ¬ (e.name.1 = 3 ∧ e.name.2 = 7630702) := by rcases hnm with hh | hh | hh <;> rw [hh] <;> decide
 have n2 : ¬ (e.name.1 = 3 ∧ e.name.2 = 6581857) := by rcases hnm with hh | hh | hh <;> rw [hh] <;> decide
 have n3 : ¬ (e.name.1 = 2 ∧ e.name.2 = 29295) := by rcases hnm with hh | hh | hh <;> rw [hh] <;> decide
 have n4 : ¬ (e.name.1 = 2 ∧ e.name.2 = 15677) := by rcases hnm with hh | hh | hh <;> rw [hh] <;> decide
 have n5 : ¬ (e.name.1 = 2 ∧ e.name.2 = 15649) := by rcases hnm with hh | hh | hh <;> rw [hh] <;> decide
 simp [ycp_r2]
 refine ⟨fun a b => absurd ⟨a, b⟩ n1, fun _ => ?_⟩
 simp [ycp_r5]
 refine ⟨fun a b => absurd ⟨a, b⟩ n2, fun _ => ?_⟩
 simp [ycp_r8]
 refine ⟨fun a b => absurd ⟨a, b⟩ n3, fun _ => ?_⟩
 simp [ycp_r13, q0, S.raw, hs', g3]
 refine (rvall_ok S HE G hc k0 k1 R1 hs hk hm).mono ?_
 rintro o h2 nx2 ⟨f2, cv, vs, rfl, hKv, hR⟩
 have hcfv : ∀ n h, frzA n cv h = (cv, h) := IsK.stb hKv
 have t2 := f2.n
 have F2 := F1.trans f2
 have low2 : rb.toNat < nx2.toNat := by omega
 have q02 := f2.fix R1 q0 (by omega) hn0
 have q12 := f2.fix R1 (b := nx.succ) (T.get_set_same _ _ _) (by omega) hn1
 cases hall : allF rec_ fn s e.kids st with
 | stop x st2 =>
  rw [hall] at hR
  obtain ⟨hx, R2⟩ := hR
  obtain ⟨br, hb2, ha2⟩ := R2.blk
  have hx' : (x == 0) = false := by simpa using hx
  simp [ycp_r14, hb2, hx, hx']
  simp [ycp_r15, q12]
  refine ⟨F2.put (by omega) low, _, rfl, ?_⟩
  exact ⟨hx, ⟨_, .leaf 0 0 0 0⟩, R2.set q12 hn1⟩
 | ok l st2 =>
  rw [hall] at hR
  obtain ⟨rfl, hlen, R2⟩ := hR
  obtain ⟨br, hb2, ha2⟩ := R2.blk
  rw [hk2] at hlen
  obtain ⟨x, y, rfl⟩ := len2 hlen
  simp [ycp_r14, hb2]
  simp [ycp_r16, q02]
  refine ⟨fun a b => absurd ⟨a, b⟩ n4, fun _ => ?_⟩
  simp [ycp_r18, q02]
  refine ⟨fun a b => absurd ⟨a, b⟩ n5, fun _ => ?_⟩
  have i1 : ∀ n : Int, Stb (I n) := fun n k h => by cases k <;> rfl
  have hfx := frz_fix (n := 7) (b := nx2) (len := 2) (sz := 1) (l := [I 0, I 0]) (H := T.set nx2 (some (.cells [I 0, I 0] .fix)) h2) (T.get_set_same _ _ _) rfl (by
   intro y hy
   simp at hy
   rcases hy with rfl | rfl <;> exact i1 _)
  have u2 := Key.toNat_succ nx2
  have e3 : Ext h2 nx2 (T.set nx2 (some (.cells [I 0, I 0] .ro)) (T.set nx2 (some (.cells [I 0, I 0] .fix)) h2)) nx2.succ := ⟨by omega, fun b hb => by rw [get_lt (by omega), get_lt (by omega)]⟩
  simp [ycp_r20, S.raw, hcfv]
  rw [hfx]
  have R3 := R2.ext e3
  refine (rkinds_ok S [0, 0] R3 hKv (by simp) (by simp)).mono ?_
  rintro o h4 nx4 ⟨f4, rfl, R4⟩
  have t4 := f4.n
  have F4 := (F2.trans (Fb.ext low2 e3)).trans f4
  have q03 := (e3.g nx (by omega)).trans q02
  have q13 := (e3.g nx.succ (by omega)).trans q12
  have q04 := f4.fix R3 q03 (by omega) hn0
  have q14 := f4.fix R3 q13 (by omega) hn1
  have low4 : rb.toNat < nx4.toNat := by omega
  by_cases hkk : x.k = 0 ∧ y.k = 0
  ·obtain ⟨hx0, hy0⟩ := hkk
   have hB : kindsB [x, y] [0, 0] = true := by simp [kindsB, hx0, hy0]
   simp [hB] at R4 ⊢
   obtain ⟨cs, hcs, hcv⟩ := IsK.row hKv
   have hcv : cv = .sl cs 2 4 .any := by
    rcases hcv with ⟨_, h2, _⟩ | h2
    ·cases h2
    ·exact h2
   subst hcv
   obtain ⟨cx, ex, hKx⟩ := hcs.at (i := 0) (by simp)
   obtain ⟨cy, ey, hKy⟩ := hcs.at (i := 1) (by simp)
   have hlen := hcs.hc
   simp at ex ey hKx hKy hlen
   have h44 : 4 ≤ cs.length := by omega
   have h8 : 4 ≤ cs.length - 4 := by omega
   simp [ycp_r22, h44, ex]
   simp [ycp_r23, h8, ey]
   simp [ycp_r24, q04]
   have fin : ∀ (v : V) (h5 : T Blk) (nx5 : Key), v.kids = [] → Ext h4 nx4 h5 nx5 → REnds rb dc L h nx (.ok v st2) (.ret (.agg [I v.k, I v.n, .str v.a v.b, .nils])) (T.set nx.succ (some (.cells [I v.k, I v.n, .str v.a v.b, .nils] .fix)) h5) nx5 := by
    intro v h5 nx5 hv e5
    have q5 := (e5.g nx.succ (by omega)).trans q14
    exact ⟨(F4.trans (Fb.ext low4 e5)).put (by omega) low, _, rfl, IsV.ofV (by rw [hv]; exact .inl ⟨rfl, rfl⟩), (R4.ext e5).set q5 hn1⟩
   rcases hnm with hh | hh | hh
   ·simp [ycp_r25, hh]
    simp [ycp_r26, S.raw]
    refine (rnumber_ok S _ _ _).mono ?_
    rintro o h5 nx5 ⟨rfl, e5⟩
    have q5 := (e5.g nx.succ (by omega)).trans q14
    simp [q5]
    have := fin (numV (wrapF .i64 (x.n + y.n))) h5 nx5 rfl e5
    simpa [opV, hx0, hy0, numR, numV] using this
   ·simp [ycp_r25, hh]
    simp [ycp_r27]
    simp [ycp_r28, S.raw]
    refine (rnumber_ok S _ _ _).mono ?_
    rintro o h5 nx5 ⟨rfl, e5⟩
    have q5 := (e5.g nx.succ (by omega)).trans q14
    simp [q5]
    have := fin (numV (wrapF .i64 (x.n - y.n))) h5 nx5 rfl e5
    simpa [opV, hx0, hy0, numR, numV] using this
   ·simp [ycp_r25, hh]
    simp [ycp_r27]
    simp [ycp_r29]
    simp [ycp_r31]
    simp [ycp_r32, S.raw]
    refine (rtruthV_ok S _ _ _).mono ?_
    rintro o h5 nx5 ⟨rfl, e5⟩
    have q5 := (e5.g nx.succ (by omega)).trans q14
    simp [q5]
    have := fin (boolV (decide (x.n < y.n))) h5 nx5 rfl e5
    simpa [opV, hx0, hy0, boolR, boolV] using this
  ·have hB : kindsB [x, y] [0, 0] = false := by
    cases hz : kindsB [x, y] [0, 0] with
    | false => rfl
    | true => simp [kindsB] at hz; exact absurd hz hkk
   simp [hB] at R4 ⊢
   simp [ycp_r21, q14]
   refine ⟨F4.put (by omega) low, _, rfl, ?_⟩
   simp [opV, hkk]
   exact ⟨⟨_, .leaf 0 0 0 0⟩, R4.set q14 hn1⟩
end
end Tz
/-
 SV: the reference's calls. No condition.
-/
namespace Tz
open Go.Sx Go
structure RMod (dc : AV) (ds : List Dl) (M : Md) : Prop where
 row : IsDs dc ds
 fn : ∀ nm, findA nm M.funs = (findD 1 nm ds).map Dl.f
 sm : ∀ d ∈ ds, Sm d.f.body
theorem findD_mem {k : Int} {nm : S} : ∀ {l : List Dl} {d : Dl}, findD k nm l = some d → d ∈ l
 | [], d, h => by cases h
 | x :: l, d, h => by
  rw [findD] at h
  split at h
  ·cases h; simp
  ·exact List.mem_cons_of_mem _ (findD_mem h)
theorem REnds.fin {rb : Key} {dc : AV} {L : Lim} {h h6 h7 : T Blk} {nx nx6 nx7 k : Key} {st6 : St} {x6 : Int} {r : Res} {o : Out} {l0 : List AV} (H : REnds rb dc L h6 nx6 r o h7 nx7) (F : Fb rb h nx h6 nx6) (R6 : RR rb dc L st6 x6 h6 nx6) (low : rb.toNat < nx.toNat) (hk : nx.toNat ≤ k.toNat) (hk6 : k.toNat < nx6.toNat) (q : T.get k h6 = some (.cells l0 .fix)) :
  ∃ (v : V) (c : AV), o = .ret (.agg [I v.k, I v.n, .str v.a v.b, c]) ∧ c.isCell = true ∧ (∀ n h, frzA n c h = (c, h)) ∧ T.get k h7 = some (.cells l0 .fix) ∧ REnds rb dc L h nx r (.ret (.agg [I v.k, I v.n, .str v.a v.b, c])) (T.set k (some (.cells [I v.k, I v.n, .str v.a v.b, c] .fix)) h7) nx7 := by
 obtain ⟨f7, lv, rfl, hR⟩ := H
 have hne : k ≠ rb := fun e => by rw [e] at hk; omega
 have q7 := f7.fix R6 q hk6 hne
 obtain ⟨v, hv⟩ : ∃ v, IsV lv v := by
  cases r with
  | ok v st2 => exact ⟨v, hR.1⟩
  | stop x st2 => exact hR.2.1
 obtain ⟨c, rfl, hK⟩ := hv.cells
 refine ⟨v, c, rfl, IsK.cell hK, IsK.stb hK, q7, (F.trans f7).put hk low, _, rfl, ?_⟩
 cases r with
 | ok v st2 => exact ⟨hR.1, hR.2.set q7 hne⟩
 | stop x st2 => exact ⟨hR.1, hR.2.1, hR.2.2.set q7 hne⟩
theorem allF_fit {L : Lim} {rec_ : Rec} (G : GoodR L rec_) {fn : S} {s : Sc} : ∀ {es : List E} {st : St} {l : List V} {st' : St}, allF rec_ fn s es st = .ok l st' → ∀ v ∈ l, Fit v
 | [], st, l, st', h, v, hv => by rw [allF] at h; cases h; cases hv
 | e :: es, st, l, st', h, v, hv => by
  rw [allF] at h
  cases h1 : rec_ fn s e st with
  | stop c st1 => rw [h1] at h; cases h
  | ok x st1 =>
   rw [h1] at h
   simp only at h
   cases h2 : allF rec_ fn s es st1 with
   | stop c st2 => rw [h2] at h; cases h
   | ok r st2 =>
    rw [h2] at h
    cases h
    rcases List.mem_cons.1 hv with rfl | hv
    ·exact (G _ _ _ _ _ _ h1).f
    ·exact allF_fit G h2 v hv
section
variable {C : Cfg} (S : Std C) {rb : Key} {dc : AV} {L : Lim} {rec_ : Rec} {c0 : Int} (HE : RvOKz C rb dc L rec_ c0) (G : GoodR L rec_) {ds : List Dl} {M : Md} (HM : RMod dc ds M)
include S HE G HM
theorem rcall_ok {fn : Go.Sx.S} {s : Sc} {e : E} {st : St} {ec : AV} {le : List AV} {h : T Blk} {nx : Key} (hc : c0 ≤ st.cf) (k0 : 0 ≤ st.calls) (k1 : st.calls ≤ 256) (hr : RR rb dc L st 0 h nx) (hs : REnv ec s.reverse) (he : IsE le e) (hm : ∀ x ∈ e.kids, Sm x) (hnm : arityF e.name = none ∨ e.name = (4, 1752397168)) :
  CallA C n_ycj [.ptr rb 0, ec, .agg le, SA fn, I st.calls] h nx (REnds rb dc L h nx (applyF rec_ M fn s e st)) := by
 have hs' : ∀ n h, frzA n ec h = (ec, h) := hs.stb
 have hd' : ∀ n h, frzA n dc h = (dc, h) := HM.row.stb
 have low := hr.low
 have s1 := Key.toNat_succ nx
 have s2 := Key.toNat_succ nx.succ
 obtain ⟨cn, cb, ck, rfl, hn, hb, hk, hq⟩ := he.cells
 have g3 : ∀ n h, frzA n ck h = (ck, h) := hk.stb
 have c1 : cn.isCell = true := by rcases hn with ⟨rfl, _⟩ | rfl <;> rfl
 have c2 : cb.isCell = true := by rcases hb with ⟨rfl, _⟩ | ⟨_, rfl, _⟩ <;> rfl
 have c3 : ck.isCell = true := by rcases hk with ⟨rfl, _⟩ | ⟨_, rfl, _⟩ <;> rfl
 have hn0 : nx ≠ rb := fun e => by rw [e] at s1 low; omega
 have hn1 : nx.succ ≠ rb := fun e => by rw [← e] at low; omega
 have e1 := (E0 h nx (.cells [I e.k, SA e.name, I e.n, cn, cb, ck, I e.at_] .fix)).trans (E0 _ nx.succ (.cells z4 .fix))
 have q0 : T.get nx (T.set nx.succ (some (.cells z4 .fix)) (T.set nx (some (.cells [I e.k, SA e.name, I e.n, cn, cb, ck, I e.at_] .fix)) h)) = some (.cells [I e.k, SA e.name, I e.n, cn, cb, ck, I e.at_] .fix) := by rw [get_lt (by omega)]; exact T.get_set_same _ _ _
 refine S.c_ycj.call ?_
 simp [ycj]
 simp [ycj_r0, c1, c2, c3]
 simp [ycj_r1, q0, S.raw]
 refine (rarity_ok S e.name _ _).mono ?_
 rintro o h1 nx1 ⟨rfl, e2⟩
 have E1 := e1.trans e2
 have t1 := e2.n
 have R1 := hr.ext E1
 have F1 := Fb.ext low E1
 have low1 : rb.toNat < nx1.toNat := by omega
 have q01 := (e2.g nx (by omega)).trans q0
 have q11 : T.get nx.succ h1 = some (.cells z4 .fix) := (e2.g nx.succ (by omega)).trans (T.get_set_same _ _ _)
 obtain ⟨br1, hb1, ha1⟩ := R1.blk
 have u1 := Key.toNat_succ nx1
 have e3 := E0 h1 nx1 (.cells zD .fix)
 simp
 simp [ycj_r2, hb1, q01, hd', S.raw, List.filter_cons]
 refine (rdecl_ok S HM.row 1 e.name _ _).mono ?_
 rintro o h3 nx3 ⟨hD, e4⟩
 obtain ⟨ldd, okb, rfl, hlen, hcel, htrue, hfalse⟩ : ∃ (ldd : List AV) (okb : Bool), o = .ret (.tuple [.agg ldd, .bool okb]) ∧ ldd.length = 45 ∧ ldd.all AV.isCell = true ∧ (okb = true → ∃ d, findD 1 e.name ds = some d ∧ IsDl ldd d) ∧ (okb = false → findD 1 e.name ds = none) := by
  cases hf : findD 1 e.name ds with
  | none => rw [hf] at hD; exact ⟨zD, false, hD, rfl, rfl, by simp, by simp⟩
  | some d =>
   rw [hf] at hD
   obtain ⟨l, hl, rfl⟩ := hD
   exact ⟨l, true, rfl, hl.len, List.all_eq_true.2 hl.cel, fun _ => ⟨d, rfl, hl⟩, by simp⟩
 have tk : List.take 45 ldd = ldd := List.take_of_length_le (by omega)
 simp [-List.all_eq_true, List.filter_cons, hlen, hcel, tk]
 have e5 : Ext h1 nx1 (T.set nx1 (some (.cells ldd .fix)) h3) nx3 := ⟨by have := e4.n; omega, fun b hb => by rw [get_lt hb, e4.g b (by omega)]⟩
 have t3 := e4.n
 have E5 := E1.trans e5
 have R5 := hr.ext E5
 have F5 := Fb.ext low E5
 have q05 := (e5.g nx (by omega)).trans q01
 have q15 := (e5.g nx.succ (by omega)).trans q11
 have q25 : T.get nx1 (T.set nx1 (some (.cells ldd .fix)) h3) = some (.cells ldd .fix) := T.get_set_same _ _ _
 have hn2 : nx1 ≠ rb := fun e => by rw [e] at low1; omega
 generalize hH : T.set nx1 (some (.cells ldd .fix)) h3 = h5 at *
 have t5 := E5.n
 obtain ⟨br5, hb5, ha5⟩ := R5.blk
 have hlenK : ∀ (n : Int), (e.kids.length : Int) = n ∨ (e.kids.length : Int) ≠ n := fun n => Classical.em _
 -- all arguments are evaluated, then something is done
 rcases hnm with har | hpu
 ·have hai : arI e.name = -1 := by simp [arI, har]
  rw [hai]
  cases okb with
  | false =>
   have hfd := hfalse rfl
   simp [ycj_r3]
   simp [ycj_r4, S.raw]
   refine (rendb_ok S 6 R5).mono ?_
   rintro o h6 nx6 ⟨rfl, f6, R6⟩
   simp at R6
   have q16 := f6.fix R5 q15 (by omega) hn1
   simp [tupled]
   simp [ycj_r5, q16]
   refine ⟨(F5.trans f6).put (by omega) low, _, rfl, ?_⟩
   have hfa : findA e.name M.funs = none := by rw [HM.fn, hfd]; rfl
   simp [applyF, har, hfa]
   exact ⟨⟨_, .leaf 0 0 0 0⟩, R6.set q16 hn1⟩
  | true =>
   obtain ⟨d, hfd, hdl⟩ := htrue rfl
   have hfa : findA e.name M.funs = some d.f := by rw [HM.fn, hfd]; rfl
   obtain ⟨cp, hp4, hps⟩ := hdl.ps
   have hcpl : ∀ tm, T.get (K 0) tm = some (.ptr rb 0) → T.get (K 1) tm = some ec → T.get (K 3) tm = some (SA fn) → T.get (K 4) tm = some (I st.calls) → T.get (K 7) tm = some (.ptr nx 0) → T.get (K 10) tm = some (.ptr nx.succ 0) → T.get (K 11) tm = some (I d.f.params.length) → T.get (K 12) tm = some (.ptr nx1 0) → T.get (K 14) tm = some (.bool false) →
     wpC C (.seq (.seq (.ops ycj_r9) (.cond (.t (K 49)) (.seq (.ops ycj_r10) (.seq (.ops ycj_r11) .ret)) .skip)) (.seq (.ops ycj_r12) (.seq (.seq (.ops ycj_r13) (.cond (.t (K 64)) (.seq (.ops ycj_r14) .ret) .skip)) (.seq (.seq (.ops ycj_r15) (.cond (.t (K 66)) (.seq (.ops ycj_r16) .ret) .skip)) (.seq (.ops ycj_r17) .ret)))))
      (BodyP [.cell (K 10) true 4] (REnds rb dc L h nx (applyF rec_ M fn s e st))) tm h5 nx3 := by
    intro tm f0 f1 f3 f4 f7 f10 f11 f12 f14
    by_cases hkl : e.kids.length = d.f.params.length
    ·have hkl' : (e.kids.length : Int) = d.f.params.length := by omega
     have go : ∀ tm, T.get (K 0) tm = some (.ptr rb 0) → T.get (K 1) tm = some ec → T.get (K 3) tm = some (SA fn) → T.get (K 4) tm = some (I st.calls) → T.get (K 7) tm = some (.ptr nx 0) → T.get (K 10) tm = some (.ptr nx.succ 0) → T.get (K 12) tm = some (.ptr nx1 0) → T.get (K 14) tm = some (.bool false) →
       wpC C (.seq (.ops ycj_r12) (.seq (.seq (.ops ycj_r13) (.cond (.t (K 64)) (.seq (.ops ycj_r14) .ret) .skip)) (.seq (.seq (.ops ycj_r15) (.cond (.t (K 66)) (.seq (.ops ycj_r16) .ret) .skip)) (.seq (.ops ycj_r17) .ret))))
       (BodyP [.cell (K 10) true 4] (REnds rb dc L h nx (applyF rec_ M fn s e st))) tm h5 nx3 := by
      intro tm f0 f1 f3 f4 f7 f10 f12 f14
      simp [ycj_r12, f0, f1, f3, f4, f7, q05, S.raw, hs', g3]
      refine (rvall_ok S HE.weak G hc k0 k1 R5 hs hk hm).mono ?_
      rintro o h6 nx6 ⟨f6, cv, vs, rfl, hKv, hR⟩
      have hcfv : ∀ n h, frzA n cv h = (cv, h) := IsK.stb hKv
      have t6 := f6.n
      have F6 := F5.trans f6
      have q06 := f6.fix R5 q05 (by omega) hn0
      have q16 := f6.fix R5 q15 (by omega) hn1
      have q26 := f6.fix R5 q25 (by omega) hn2
      cases hall : allF rec_ fn s e.kids st with
      | stop x st2 =>
       rw [hall] at hR
       obtain ⟨hx, R6⟩ := hR
       obtain ⟨br, hb6, ha6⟩ := R6.blk
       have hx' : (x == 0) = false := by simpa using hx
       simp [ycj_r13, f0, hb6, hx, hx']
       simp [ycj_r14, f10, q16]
       refine ⟨F6.put (by omega) low, _, rfl, ?_⟩
       simp [applyF, har, hfa, hkl, hall]
       exact ⟨hx, ⟨_, .leaf 0 0 0 0⟩, R6.set q16 hn1⟩
      | ok l st2 =>
       rw [hall] at hR
       obtain ⟨rfl, hll, R6⟩ := hR
       obtain ⟨br, hb6, ha6⟩ := R6.blk
       have hmono := allF_mono G hall
       have hmc := hmono.c
       have hmk := hmono.k
       have tk : List.take 45 ldd = ldd := List.take_of_length_le (by omega)
       have fz : ∀ n H, frzLA (frzA n) ldd H = (ldd, H) := fun n H => frzLA_stb hdl.stb
       simp [ycj_r13, f0, hb6]
       simp [ycj_r15, f14]
       simp [ycj_r17, f0, f4, f12, q26, hlen, tk, S.raw, hcfv, fz]
       rw [← hmk]
       refine (renter_ok S HE (d := d) (st := st2) (by omega) (by omega) (by omega) R6 hdl hKv (by omega) (HM.sm d (findD_mem hfd)) (fun v hv => by have := (allF_fit G hall v hv).z; omega)).mono ?_
       rintro o h7 nx7 hE
       replace hE := hE.weak
       obtain ⟨v, c, rfl, hcc, hcf, q17, fin⟩ := hE.fin F6 R6 low (k := nx.succ) (by omega) (by omega) q16
       simp [f10, q17, hcc, hcf]
       have : applyF rec_ M fn s e st = callF rec_ d.f vs st2 := by
        simp [applyF, har, hfa, hkl, hall]
       rw [this]
       exact fin
     rcases id hk with ⟨rfl, hz⟩ | ⟨cs, rfl, hel, hcs⟩
     ·have hz' : d.f.params.length = 0 := by rw [← hkl, hz]; rfl
      simp [ycj_r9, f7, f11, q05, hz']
      refine go _ ?_ ?_ ?_ ?_ ?_ ?_ ?_ ?_ <;> simp [f0, f1, f3, f4, f7, f10, f12, f14]
     ·simp [ycj_r9, f7, f11, q05, hkl']
      refine go _ ?_ ?_ ?_ ?_ ?_ ?_ ?_ ?_ <;> simp [f0, f1, f3, f4, f7, f10, f12, f14]
    ·have hkl' : ¬ (e.kids.length : Int) = d.f.params.length := by omega
     have hap : applyF rec_ M fn s e st = .stop 9 st := by simp [applyF, har, hfa, hkl]
     rw [hap]
     have fin : ∀ o h6 nx6, (o = Out.ret (.tuple []) ∧ Fb rb h5 nx3 h6 nx6 ∧ RR rb dc L st (if (0 : Int) = 0 then 9 else 0) h6 nx6) → T.get nx.succ h6 = some (.cells z4 .fix) ∧ REnds rb dc L h nx (.stop 9 st) (.ret (.agg z4)) (T.set nx.succ (some (.cells z4 .fix)) h6) nx6 := by
      rintro o h6 nx6 ⟨rfl, f6, R6⟩
      simp at R6
      have q16 := f6.fix R5 q15 (by omega) hn1
      exact ⟨q16, (F5.trans f6).put (by omega) low, _, rfl, by simp, ⟨_, .leaf 0 0 0 0⟩, R6.set q16 hn1⟩
     rcases id hk with ⟨rfl, hz⟩ | ⟨cs, rfl, hel, hcs⟩
     ·have hz' : ¬ d.f.params.length = 0 := by intro hh; apply hkl; rw [hz, hh]; rfl
      have hz2 : ¬ (0 : Int) = d.f.params.length := by omega
      simp [ycj_r9, f7, f11, q05, hz', hz2]
      simp [ycj_r10, f0, S.raw]
      refine (rendb_ok S 9 R5).mono ?_
      rintro o h6 nx6 hh
      have hf := fin o h6 nx6 hh
      obtain ⟨rfl, _, _⟩ := hh
      simp [tupled]
      simp [ycj_r11, f10, hf.1]
      exact hf.2
     ·simp [ycj_r9, f7, f11, q05, hkl']
      simp [ycj_r10, f0, S.raw]
      refine (rendb_ok S 9 R5).mono ?_
      rintro o h6 nx6 hh
      have hf := fin o h6 nx6 hh
      obtain ⟨rfl, _, _⟩ := hh
      simp [tupled]
      simp [ycj_r11, f10, hf.1]
      exact hf.2
   simp only [wpC_seq, wpC_ops] at hcpl
   simp [ycj_r3]
   simp [ycj_r6]
   simp [ycj_r7]
   rcases id hps with ⟨rfl, hz⟩ | ⟨cs, rfl, hpl, hcs⟩
   ·simp [ycj_r8, q25, hp4]
    refine hcpl _ ?_ ?_ ?_ ?_ ?_ ?_ ?_ ?_ ?_ <;> simp [hz]
   ·simp [ycj_r8, q25, hp4]
    refine hcpl _ ?_ ?_ ?_ ?_ ?_ ?_ ?_ ?_ ?_ <;> simp
 ·have har : arityF e.name = some 2 := by rw [hpu]; decide
  have hai : arI e.name = 2 := by simp [arI, har]
  rw [hai]
  simp [ycj_r3]
  simp [ycj_r6]
  simp [ycj_r7]
  by_cases hkl : e.kids.length = 2
  ·have hkl' : (e.kids.length : Int) = 2 := by omega
   rcases id hk with ⟨rfl, hz⟩ | ⟨cs, rfl, hel, hcs⟩
   ·rw [hz] at hkl; cases hkl
   simp [ycj_r9, q05, hkl']
   simp [ycj_r12, q05, S.raw, hs', g3]
   refine (rvall_ok S HE.weak G hc k0 k1 R5 hs hk hm).mono ?_
   rintro o h6 nx6 ⟨f6, cv, vs, rfl, hKv, hR⟩
   have hcfv : ∀ n h, frzA n cv h = (cv, h) := IsK.stb hKv
   have t6 := f6.n
   have F6 := F5.trans f6
   have q06 := f6.fix R5 q05 (by omega) hn0
   have q16 := f6.fix R5 q15 (by omega) hn1
   cases hall : allF rec_ fn s e.kids st with
   | stop x st2 =>
    rw [hall] at hR
    obtain ⟨hx, R6⟩ := hR
    obtain ⟨br, hb6, ha6⟩ := R6.blk
    have hx' : (x == 0) = false := by simpa using hx
    simp [ycj_r13, hb6, hx, hx']
    simp [ycj_r14, q16]
    refine ⟨F6.put (by omega) low, _, rfl, ?_⟩
    simp [applyF, har, hkl, hall]
    exact ⟨hx, ⟨_, .leaf 0 0 0 0⟩, R6.set q16 hn1⟩
   | ok l st2 =>
    rw [hall] at hR
    obtain ⟨rfl, hll, R6⟩ := hR
    obtain ⟨br, hb6, ha6⟩ := R6.blk
    obtain ⟨x, y, rfl⟩ := len2 (hll.trans hkl)
    have hfit : Fit x := allF_fit G hall x (by simp)
    simp [ycj_r13, hb6]
    simp [ycj_r15]
    simp [ycj_r16, q06, hpu, S.raw, hcfv]
    refine (rpush_ok S R6 hKv (fun hx => by have := hfit.l hx; omega)).mono ?_
    rintro o h7 nx7 hE
    obtain ⟨v, c, rfl, hcc, hcf, q17, fin⟩ := hE.fin F6 R6 low (k := nx.succ) (by omega) (by omega) q16
    simp [q17, hcc, hcf]
    have : applyF rec_ M fn s e st = builtF (4, 1752397168) [x, y] st2 := by
     have har2 : arityF (4, 1752397168) = some 2 := by decide
     simp [applyF, har2, hkl, hall, hpu]
    rw [this]
    exact fin
  ·have hkl' : ¬ (e.kids.length : Int) = 2 := by omega
   have hap : applyF rec_ M fn s e st = .stop 9 st := by simp [applyF, har, hkl]
   rw [hap]
   have hkl2 : (e.kids.length : Int) = 2 → False := hkl'
   have fin : ∀ o h6 nx6, (o = Out.ret (.tuple []) ∧ Fb rb h5 nx3 h6 nx6 ∧ RR rb dc L st (if (0 : Int) = 0 then 9 else 0) h6 nx6) → T.get nx.succ h6 = some (.cells z4 .fix) ∧ REnds rb dc L h nx (.stop 9 st) (.ret (.agg z4)) (T.set nx.succ (some (.cells z4 .fix)) h6) nx6 := by
    rintro o h6 nx6 ⟨rfl, f6, R6⟩
    simp at R6
    have q16 := f6.fix R5 q15 (by omega) hn1
    exact ⟨q16, (F5.trans f6).put (by omega) low, _, rfl, by simp, ⟨_, .leaf 0 0 0 0⟩, R6.set q16 hn1⟩
   rcases id hk with ⟨rfl, hz⟩ | ⟨cs, rfl, hel, hcs⟩
   ·simp [ycj_r9, q05]
    simp [ycj_r10, S.raw]
    refine (rendb_ok S 9 R5).mono ?_
    rintro o h6 nx6 hh
    have hf := fin o h6 nx6 hh
    obtain ⟨rfl, _, _⟩ := hh
    simp [tupled]
    simp [ycj_r11, hf.1]
    exact hf.2
   ·simp [ycj_r9, q05, hkl']
    simp [ycj_r10, S.raw]
    refine (rendb_ok S 9 R5).mono ?_
    rintro o h6 nx6 hh
    have hf := fin o h6 nx6 hh
    obtain ⟨rfl, _, _⟩ := hh
    simp [tupled]
    simp [ycj_r11, hf.1]
    exact hf.2
end
end Tz
