/-
 SV: a machine that has the evaluator's functions. No condition.
-/
import Derived.Test.YthhjnogfljegnaaGreatDoorFns
import Derived.Test.YthhjnogfljegnaaGreatDoorVBase
set_option linter.unusedSimpArgs false
set_option linter.unusedVariables false
set_option linter.unusedSectionVars false
namespace Tz
open Go.Sx Go
structure Fn (C : Cfg) (f : Nat) (p : PFn) : Prop where
 get : getFn C f = some p
 off : ∀ l h nx, C.sum f l h nx = none
 rawR : C.rawR f = false
theorem Fn.call {C : Cfg} {f : Nat} {p : PFn} (S : Fn C f p) {l : List AV} {h : T Blk} {nx : Key} {R : Out → T Blk → Key → Prop} (hw : wpC C p.body (BodyP p.res R) (paramsT l (K 0) .nil) h nx) : CallA C f l h nx R :=
 CallA.of (S.off _ _ _) S.get S.rawR hw
structure Std (C : Cfg) : Prop where
 orc : C.orc = []
 raw : ∀ f, C.raw f = false
 c_yaa : Fn C n_yaa yaa
 c_yab : Fn C n_yab yab
 c_yac : Fn C n_yac yac
 c_yad : Fn C n_yad yad
 c_yae : Fn C n_yae yae
 c_yaf : Fn C n_yaf yaf
 c_yag : Fn C n_yag yag
 c_yah : Fn C n_yah yah
 c_yai : Fn C n_yai yai
 c_yaj : Fn C n_yaj yaj
 c_yak : Fn C n_yak yak
 c_yal : Fn C n_yal yal
 c_yam : Fn C n_yam yam
 c_yan : Fn C n_yan yan
 c_yao : Fn C n_yao yao
 c_yap : Fn C n_yap yap
 c_yaq : Fn C n_yaq yaq
 c_yar : Fn C n_yar yar
 c_yas : Fn C n_yas yas
 c_yat : Fn C n_yat yat
 c_yau : Fn C n_yau yau
 c_yav : Fn C n_yav yav
 c_yaw : Fn C n_yaw yaw
 c_yax : Fn C n_yax yax
 c_yay : Fn C n_yay yay
 c_yaz : Fn C n_yaz yaz
 c_yba : Fn C n_yba yba
 c_ybb : Fn C n_ybb ybb
 c_ybc : Fn C n_ybc ybc
 c_ybd : Fn C n_ybd ybd
 c_ybe : Fn C n_ybe ybe
 c_ybf : Fn C n_ybf ybf
 c_ybg : Fn C n_ybg ybg
 c_ybh : Fn C n_ybh ybh
 c_ybi : Fn C n_ybi ybi
 c_ybj : Fn C n_ybj ybj
 c_ybk : Fn C n_ybk ybk
 c_ybl : Fn C n_ybl ybl
 c_ybm : Fn C n_ybm ybm
 c_ybn : Fn C n_ybn ybn
 c_ybo : Fn C n_ybo ybo
 c_ybp : Fn C n_ybp ybp
 c_ybq : Fn C n_ybq ybq
 c_ybr : Fn C n_ybr ybr
 c_ybs : Fn C n_ybs ybs
 c_ybt : Fn C n_ybt ybt
 c_ybu : Fn C n_ybu ybu
 c_ybv : Fn C n_ybv ybv
 c_ybw : Fn C n_ybw ybw
 c_ybx : Fn C n_ybx ybx
 c_yby : Fn C n_yby yby
 c_ybz : Fn C n_ybz ybz
 c_yca : Fn C n_yca yca
 c_ycb : Fn C n_ycb ycb
 c_ycc : Fn C n_ycc ycc
 c_ycd : Fn C n_ycd ycd
 c_yce : Fn C n_yce yce
 c_ycf : Fn C n_ycf ycf
 c_ycg : Fn C n_ycg ycg
 c_ych : Fn C n_ych ych
 c_yci : Fn C n_yci yci
 c_ycj : Fn C n_ycj ycj
 c_yck : Fn C n_yck yck
 c_ycl : Fn C n_ycl ycl
 c_ycm : Fn C n_ycm ycm
 c_ycn : Fn C n_ycn ycn
 c_yco : Fn C n_yco yco
 c_ycp : Fn C n_ycp ycp
 c_ycq : Fn C n_ycq ycq
 c_ycr : Fn C n_ycr ycr
 c_ycs : Fn C n_ycs ycs
 c_yct : Fn C n_yct yct
 c_ycu : Fn C n_ycu ycu
 c_ycv : Fn C n_ycv ycv
 c_ycw : Fn C n_ycw ycw
 c_ycx : Fn C n_ycx ycx
 c_ycy : Fn C n_ycy ycy
 c_ycz : Fn C n_ycz ycz
 c_yda : Fn C n_yda yda
 c_ydb : Fn C n_ydb ydb
 c_ydc : Fn C n_ydc ydc
 c_ydd : Fn C n_ydd ydd
 c_yde : Fn C n_yde yde
end Tz
/-
 SV: the evaluator's small functions. No condition.
-/
namespace Tz
open Go.Sx Go
def Stb (c : AV) : Prop := ∀ n h, frzA n c h = (c, h)
theorem stb_sl (l : List AV) (n z : Nat) : Stb (.sl l n z .any) := fun k h => by cases k <;> rfl
theorem stb_nils : Stb .nils := fun k h => by cases k <;> rfl
theorem IsK.stb {c : AV} {vs : List V} (h : IsK c vs) : Stb c := by
 rcases h with ⟨rfl, rfl⟩ | ⟨cs, rfl, _, _⟩
 ·exact stb_nils
 ·exact stb_sl _ _ _
theorem IsK.cell {c : AV} {vs : List V} (h : IsK c vs) : c.isCell = true := by
 rcases h with ⟨rfl, rfl⟩ | ⟨cs, rfl, _, _⟩ <;> rfl
theorem IsK.cells {c : AV} {vs : List V} (h : IsK c vs) : c.cells = [c] := by
 rcases h with ⟨rfl, rfl⟩ | ⟨cs, rfl, _, _⟩ <;> rfl
theorem IsV.stbs {l : List AV} {v : V} (h : IsV l v) : ∀ x ∈ l, Stb x := by
 obtain ⟨c, rfl, hK⟩ := h.cells
 intro x hx
 have i1 : ∀ n : Int, Stb (I n) := fun n k h => by cases k <;> rfl
 have i2 : ∀ a b : Nat, Stb (.str a b) := fun a b k h => by cases k <;> rfl
 simp at hx
 rcases hx with rfl | rfl | rfl | rfl
 ·exact i1 _
 ·exact i1 _
 ·exact i2 _ _
 ·exact IsK.stb hK
theorem IsV.iscells {l : List AV} {v : V} (h : IsV l v) : ∀ x ∈ l, AV.isCell x = true := by
 obtain ⟨c, rfl, hK⟩ := h.cells
 intro x hx
 simp at hx
 rcases hx with rfl | rfl | rfl | rfl
 ·rfl
 ·rfl
 ·rfl
 ·exact IsK.cell hK
theorem IsVs.stbs {cs : List AV} {vs : List V} (h : IsVs cs vs) : ∀ x ∈ cs, Stb x := h.all fun _ _ h => IsV.stbs h
theorem IsVs.iscells {cs : List AV} {vs : List V} (h : IsVs cs vs) : cs.all AV.isCell = true := List.all_eq_true.2 (h.all fun _ _ h => IsV.iscells h)
theorem frzLA_stb {n : Nat} : ∀ {l : List AV} {H : T Blk}, (∀ x ∈ l, Stb x) → frzLA (frzA n) l H = (l, H)
 | [], H, _ => rfl
 | v :: l, H, h => by
  have h1 := h v (by simp) n H
  rw [frzLA_cons, h1]
  have h2 := frzLA_stb (n := n) (l := l) (H := H) (fun x hx => h x (by simp [hx]))
  simp [h2]
theorem frz_part {n : Nat} {b : Key} {len sz : Nat} {l : List AV} {H : T Blk} (hg : T.get b H = some (.cells l .part)) (hl : l.length = len * sz) (hs : ∀ x ∈ l, Stb x) : frzA (n + 1) (.slice b 0 len sz) H = (.sl l len sz .any, T.set b none H) := by
 simp only [frzA, frzSA, hg, List.drop_zero, hl, Nat.le_refl, if_true]
 rw [List.take_of_length_le (by omega), frzLA_stb hs]
theorem frz_fix {n : Nat} {b : Key} {len sz : Nat} {l : List AV} {H : T Blk} (hg : T.get b H = some (.cells l .fix)) (hl : l.length = len * sz) (hs : ∀ x ∈ l, Stb x) : frzA (n + 1) (.slice b 0 len sz) H = (.sl l len sz .any, T.set b (some (.cells l .ro)) H) := by
 simp only [frzA, frzSA, hg, List.drop_zero, hl, Nat.le_refl, if_true]
 rw [List.take_of_length_le (by omega), frzLA_stb hs]
def Pur (C : Cfg) (f : Nat) (l : List AV) (P : Out → Prop) : Prop := ∀ h nx, CallA C f l h nx (fun o h' nx' => P o ∧ Ext h nx h' nx')
def stopO (c : Int) : Out := .pan (.iface ty_eval_stop (.agg [I c]))
def OkV (v : V) (o : Out) : Prop := ∃ c, IsK c v.kids ∧ o = .ret (.agg [I v.k, I v.n, .str v.a v.b, c, I v.size])
variable {C : Cfg} (S : Std C)
include S
theorem end_ok (c : Int) : Pur C n_yau [I c] (· = stopO c) := by
 intro h nx
 refine S.c_yau.call ?_
 simp [yau]
 simp [yau_r0]
 exact ⟨rfl, Ext.refl _ _⟩
theorem need_ok (b : Bool) : Pur C n_yaz [.bool b] (· = bif b then .ret (.tuple []) else stopO 9) := by
 intro h nx
 refine S.c_yaz.call ?_
 simp [yaz]
 simp [yaz_r0]
 cases b
 ·simp [yaz_r1, S.raw]
  refine (end_ok S 9 _ _).mono ?_
  rintro o h1 nx1 ⟨rfl, e1⟩
  simp [stopO]
  exact e1
 ·simp [tupled]
  exact Ext.refl _ _
theorem number_ok (n : Int) : Pur C n_ybb [I n] (OkV (numV n)) := by
 intro h nx
 refine S.c_ybb.call ?_
 simp [ybb]
 simp [ybb_r0]
 simp [ybb_r1]
 refine ⟨⟨.nils, .inl ⟨rfl, rfl⟩, rfl⟩, by simp, fun b hb => by simp (disch := omega) [get_lt]⟩
theorem truth_ok (b : Bool) : Pur C n_ybo [.bool b] (OkV (boolV b)) := by
 intro h nx
 refine S.c_ybo.call ?_
 have s1 := Key.toNat_succ nx
 simp [ybo]
 simp [ybo_r0]
 simp [ybo_r1]
 simp [ybo_r2]
 cases b
 ·simp (disch := omega) [ybo_r4, get_lt (α := Blk), get_gt (α := Blk)]
  refine ⟨⟨.nils, .inl ⟨rfl, rfl⟩, rfl⟩, by simp; omega, fun b hb => by simp (disch := omega) [get_lt]⟩
 ·simp (disch := omega) [ybo_r3, ybo_r4, get_lt (α := Blk), get_gt (α := Blk)]
  refine ⟨⟨.nils, .inl ⟨rfl, rfl⟩, rfl⟩, by simp; omega, fun b hb => by simp (disch := omega) [get_lt]⟩
theorem list_ok (k n : Int) (a b : Nat) {c : AV} (z : AV) (hc : Stb c) (hz : z.isCell = true) : Pur C n_yax [.agg [I k, I n, .str a b, c, z]] (· = if k = 2 then .ret c else stopO 9) := by
 intro h nx
 refine S.c_yax.call ?_
 have hc' : ∀ n h, frzA n c h = (c, h) := hc
 simp [yax]
 simp [yax_r0]
 simp [yax_r1, S.raw]
 refine (need_ok S _ _ _).mono ?_
 rintro o h1 nx1 ⟨rfl, e1⟩
 have t1 := e1.n
 have q0 := e1.g nx (by simp)
 simp at q0 t1
 have hE : Ext h nx h1 nx1 := ⟨by omega, fun b hb => by rw [e1.g b (by simp; omega)]; simp (disch := omega) [get_lt (α := Blk)]⟩
 by_cases hk : k = 2
 ·simp [hk]
  simp [yax_r2, q0, hc']
  exact hE
 ·have hk' : (k == 2) = false := by simpa using hk
  simp [hk, hk', stopO]
  exact hE
theorem integer_ok (k n : Int) (a b : Nat) (c : AV) (z : AV) : Pur C n_yav [.agg [I k, I n, .str a b, c, z]] (· = if k = 0 then .ret (I n) else stopO 9) := by
 intro h nx
 refine S.c_yav.call ?_
 simp [yav]
 simp [yav_r0]
 simp [yav_r1, S.raw]
 refine (need_ok S _ _ _).mono ?_
 rintro o h1 nx1 ⟨rfl, e1⟩
 have t1 := e1.n
 have q0 := e1.g nx (by simp)
 simp at q0 t1
 have hE : Ext h nx h1 nx1 := ⟨by omega, fun b hb => by rw [e1.g b (by simp; omega)]; simp (disch := omega) [get_lt (α := Blk)]⟩
 by_cases hk : k = 0
 ·simp [hk]
  simp [yav_r2, q0]
  exact hE
 ·have hk' : (k == 0) = false := by simpa using hk
  simp [hk, hk', stopO]
  exact hE
end Tz
/-
 SV: the walk over a value's parts, and sizes. No condition.
-/
namespace Tz
open Go.Sx Go
section
variable {σ : Type} (see : V → σ → Bool × σ)
mutual
def walkF : V → σ → Bool × σ
 | .mk k n a b l, s => if (see (.mk k n a b l) s).1 then walksF l (see (.mk k n a b l) s).2 else (false, (see (.mk k n a b l) s).2)
def walksF : List V → σ → Bool × σ
 | [], s => (true, s)
 | v :: l, s => if (walkF v s).1 then walksF l (walkF v s).2 else (false, (walkF v s).2)
end
theorem walkF_eq (v : V) (s : σ) : walkF see v s = if (see v s).1 then walksF see v.kids (see v s).2 else (false, (see v s).2) := by
 cases v; rw [walkF]; rfl
end
structure Fo (own : Key → Prop) (h : T Blk) (nx : Key) (h' : T Blk) (nx' : Key) : Prop where
 n : nx.toNat ≤ nx'.toNat
 g : ∀ b : Key, b.toNat < nx.toNat → ¬ own b → T.get b h' = T.get b h
theorem Fo.trans {own : Key → Prop} {h1 h2 h3 : T Blk} {n1 n2 n3 : Key} (a : Fo own h1 n1 h2 n2) (b : Fo own h2 n2 h3 n3) : Fo own h1 n1 h3 n3 :=
 ⟨Nat.le_trans a.n b.n, fun k hk ho => (b.g k (Nat.lt_of_lt_of_le hk a.n) ho).trans (a.g k hk ho)⟩
theorem Fo.ext {own : Key → Prop} {h1 h2 : T Blk} {n1 n2 : Key} (a : Ext h1 n1 h2 n2) : Fo own h1 n1 h2 n2 := ⟨a.n, fun b hb _ => a.g b hb⟩
structure SeeOK {σ : Type} (C : Cfg) (fs : Nat) (cap : List AV) (own : Key → Prop) (n0 : Nat) (P : σ → T Blk → Prop) (see : V → σ → Bool × σ) (Pv : V → Prop) : Prop where
 kid : ∀ v, Pv v → ∀ u ∈ v.kids, Pv u
 call : ∀ cells v d s h nx, n0 ≤ nx.toNat → IsV cells v → Pv v → P s h → CallA C fs ([.agg cells, I d] ++ cap) h nx (fun o h' nx' => o = .ret (.bool (see v s).1) ∧ P (see v s).2 h' ∧ Fo own h nx h' nx')
 keep : ∀ s h h', P s h → (∀ b, own b → T.get b h' = T.get b h) → P s h'
 low : ∀ b, own b → b.toNat < n0
 frz : ∀ h, frzLA (frzA 8) cap h = (cap, h)
variable {C : Cfg} (S : Std C)
include S
theorem walk_ok {σ : Type} {fs : Nat} {cap : List AV} {own : Key → Prop} {n0 : Nat} {P : σ → T Blk → Prop} {see : V → σ → Bool × σ} {Pv : V → Prop} (hs : SeeOK C fs cap own n0 P see Pv) {bs bw : Key} (ob : ¬ own bs) (ow : ¬ own bw)
  {cells : List AV} {v : V} (hv : IsV cells v) : Pv v → ∀ (d : Int) (s : σ) (h : T Blk) (nx : Key), n0 ≤ nx.toNat → bs.toNat < nx.toNat → bw.toNat < nx.toNat → P s h → T.get bs h = some (.cells [.fn fs [] cap] .fix) →
   T.get bw h = some (.cells [.fn n_yde [] [.ptr bs 0, .ptr bw 0]] .fix) →
   CallA C n_yde [.agg cells, I d, .ptr bs 0, .ptr bw 0] h nx (fun o h' nx' => o = .ret (.bool (walkF see v s).1) ∧ P (walkF see v s).2 h' ∧ Fo own h nx h' nx') := by
 have common : ∀ (k n : Int) (a b : Nat) (c : AV) (vs : List V), Pv (.mk k n a b vs) → IsK c vs →
   (∀ (d : Int) (s : σ) (h : T Blk) (nx : Key) (tm : T AV) (Q : Post), n0 ≤ nx.toNat → bs.toNat < nx.toNat → bw.toNat < nx.toNat → P s h → T.get bs h = some (.cells [.fn fs [] cap] .fix) → T.get bw h = some (.cells [.fn n_yde [] [.ptr bs 0, .ptr bw 0]] .fix) →
    T.get (K 15) tm = some c → T.get (K 16) tm = some (I vs.length) → T.get (K 17) tm = some (I 0) → T.get (K 1) tm = some (I d) → T.get (K 3) tm = some (.ptr bw 0) →
    (∀ h' nx' tm', P (walksF see vs s).2 h' → Fo own h nx h' nx' → (walksF see vs s).1 = true → Q (.exit 0) tm' h' nx') →
    (∀ h' nx' tm', P (walksF see vs s).2 h' → Fo own h nx h' nx' → (walksF see vs s).1 = false → T.get (K 6) tm' = some (.bool false) → Q .ret tm' h' nx') →
    W C (.loop yde_l0) Q tm h nx) →
   ∀ (d : Int) (s : σ) (h : T Blk) (nx : Key), n0 ≤ nx.toNat → bs.toNat < nx.toNat → bw.toNat < nx.toNat → P s h → T.get bs h = some (.cells [.fn fs [] cap] .fix) →
   T.get bw h = some (.cells [.fn n_yde [] [.ptr bs 0, .ptr bw 0]] .fix) →
   CallA C n_yde [.agg [I k, I n, .str a b, c], I d, .ptr bs 0, .ptr bw 0] h nx (fun o h' nx' => o = .ret (.bool (walkF see (.mk k n a b vs) s).1) ∧ P (walkF see (.mk k n a b vs) s).2 h' ∧ Fo own h nx h' nx') := by
  intro k n a b c vs hPv hK hl d s h nx h0 hb1 hb2 hP hbs hbw
  have hc' : ∀ n h, frzA n c h = (c, h) := IsK.stb hK
  refine S.c_yde.call ?_
  simp [yde]
  simp [yde_r0]
  have q9 : T.get bs (T.set nx (some (Blk.cells [I k, I n, AV.str a b, c] .fix)) h) = some (.cells [.fn fs [] cap] .fix) := by rw [get_lt (by omega)]; exact hbs
  simp [yde_r1, S.raw, q9, hc', hs.frz]
  have s1 := Key.toNat_succ nx
  refine (hs.call _ _ _ _ _ _ (by omega) (IsV.of (k := k) (n := n) (a := a) (b := b) hK) hPv (hs.keep s h _ hP fun b hb => ?_)).mono ?_
  ·have := hs.low b hb
   simp (disch := omega) [get_lt (α := Blk)]
  rintro o h1 nx1 ⟨rfl, p1, f1⟩
  have t1 := f1.n
  have on : ¬ own nx := fun ho => by have := hs.low nx ho; omega
  have q0 := f1.g nx (by simp) on
  have q1 := f1.g bs (by simp; omega) ob
  have q2 := f1.g bw (by simp; omega) ow
  simp (disch := omega) [get_lt (α := Blk), hbs, hbw] at q0 q1 q2 t1
  have hF : Fo own h nx h1 nx1 := ⟨by omega, fun b hb ho => by rw [f1.g b (by simp; omega) ho]; simp (disch := omega) [get_lt (α := Blk)]⟩
  rw [walkF_eq]
  cases hsee : (see (.mk k n a b vs) s).1 with
  | false =>
   simp [yde_r2]
   exact ⟨p1, hF⟩
  | true =>
   have fin : ∀ (tm : T AV), T.get (K 15) tm = some c → T.get (K 16) tm = some (I vs.length) → T.get (K 17) tm = some (I 0) → T.get (K 1) tm = some (I d) → T.get (K 3) tm = some (.ptr bw 0) →
     W C (.loop yde_l0) (blockPost 0 (seqPost (wpC C (.seq (.ops yde_r9) .ret) (BodyP [.tmp (K 6)] fun o h' nx' => o = .ret (.bool (walksF see vs (see (.mk k n a b vs) s).2).1) ∧ P (walksF see vs (see (.mk k n a b vs) s).2).2 h' ∧ Fo own h nx h' nx'))
      (BodyP [.tmp (K 6)] fun o h' nx' => o = .ret (.bool (walksF see vs (see (.mk k n a b vs) s).2).1) ∧ P (walksF see vs (see (.mk k n a b vs) s).2).2 h' ∧ Fo own h nx h' nx'))) tm h1 nx1 := by
    intro tm e15 e16 e17 e1 e3
    refine hl d _ _ _ _ _ (by omega) (by omega) (by omega) p1 q1 q2 e15 e16 e17 e1 e3 ?_ ?_
    ·intro h' nx' tm' p' f' hw
     simp [yde_r9, hw]
     exact ⟨p', hF.trans f'⟩
    ·intro h' nx' tm' p' f' hw e6
     simp [hw, e6]
     exact ⟨p', hF.trans f'⟩
   rcases hK with ⟨rfl, rfl⟩ | ⟨cs, rfl, hvl, hcs⟩
   ·simp [V.kids]
    simp [yde_r3, q0]
    refine fin _ ?_ ?_ ?_ ?_ ?_ <;> simp
   ·simp [V.kids]
    simp [yde_r3, q0]
    refine fin _ ?_ ?_ ?_ ?_ ?_ <;> simp
 induction hv with
 | leaf k n a b =>
  intro hPv
  refine common k n a b .nils [] hPv (.inl ⟨rfl, rfl⟩) ?_
  intro d s h nx tm Q h0 hb1 hb2 hP hbs hbw e15 e16 e17 e1 e3 hq1 hq2
  refine W.unroll (W.of ?_)
  simp [yde_l0]
  simp [yde_r4, e16, e17]
  exact hq1 _ _ _ hP ⟨Nat.le_refl _, fun _ _ _ => rfl⟩ rfl
 | node k n a b cs vs hl hc hk ih =>
  intro hPv
  refine common k n a b _ vs hPv (.inr ⟨cs, rfl, hl, hc, hk⟩) ?_
  intro d s h nx tm Q h0 hb1 hb2 hP hbs hbw e15 e16 e17 e1 e3 hq1 hq2
  refine W.loopM (n := vs.length) (fun m tm' h' nx' => ∃ (j : Nat) (s' : σ), m = vs.length - j ∧ j ≤ vs.length ∧ T.get (K 15) tm' = some (.sl cs vs.length 4 .any) ∧ T.get (K 16) tm' = some (I vs.length) ∧ T.get (K 17) tm' = some (I j) ∧
    T.get (K 1) tm' = some (I d) ∧ T.get (K 3) tm' = some (.ptr bw 0) ∧ P s' h' ∧ Fo own h nx h' nx' ∧ walksF see (vs.drop j) s' = walksF see vs s) ?_ ?_
  ·exact ⟨0, s, by simp, by omega, e15, e16, by simpa using e17, e1, e3, hP, ⟨Nat.le_refl _, fun _ _ _ => rfl⟩, by simp⟩
  ·rintro m tm1 h1 nx1 ⟨j, s1, rfl, hj, f15, f16, f17, f1, f3, p1, g1, hw⟩
   have t1 := g1.n
   refine W.of ?_
   simp [yde_l0]
   simp [yde_r4, f16, f17]
   refine ⟨fun hlt => ?_, fun hge => ?_⟩
   ·have hjl : j < vs.length := by omega
    obtain ⟨c, ec, hKc⟩ := (hk j hjl).cells
    have hc' : ∀ n h, frzA n c h = (c, h) := IsK.stb hKc
    have hcc := IsK.cell hKc
    have h4 : 4 ≤ cs.length - j * 4 := by omega
    have qs := (g1.g bs hb1 ob).trans hbs
    have qw := (g1.g bw hb2 ow).trans hbw
    simp [yde_r5, f15, f17, hjl, h4, ec, hcc]
    have qw' : T.get bw (T.set nx1 (some (Blk.cells [I vs[j].k, I vs[j].n, AV.str vs[j].a vs[j].b, c] .fix)) h1) = some (.cells [.fn n_yde [] [.ptr bs 0, .ptr bw 0]] .fix) := by rw [get_lt (by omega)]; exact qw
    have qs' : T.get bs (T.set nx1 (some (Blk.cells [I vs[j].k, I vs[j].n, AV.str vs[j].a vs[j].b, c] .fix)) h1) = some (.cells [.fn fs [] cap] .fix) := by rw [get_lt (by omega)]; exact qs
    simp [yde_r6, f1, f3, qw', S.raw, hc']
    have s1' := Key.toNat_succ nx1
    have p1' : P s1 (T.set nx1 (some (Blk.cells [I vs[j].k, I vs[j].n, AV.str vs[j].a vs[j].b, c] .fix)) h1) := hs.keep s1 h1 _ p1 fun b hb => by
     have := hs.low b hb
     rw [get_lt (by omega)]
    have key := ih j hjl (hs.kid _ hPv _ (List.getElem_mem hjl)) (wrapF .i64 (d + 1)) s1 _ nx1.succ (by omega) (by omega) (by omega) p1' qs' qw'
    rw [ec] at key
    refine key.mono ?_
    rintro o h2 nx2 ⟨rfl, p2, g2⟩
    have t2 := g2.n
    have gF : Fo own h nx h2 nx2 := ⟨by omega, fun b hb ho => by rw [g2.g b (by omega) ho, get_lt (by omega)]; exact g1.g b hb ho⟩
    have hd : vs.drop j = vs[j] :: vs.drop (j + 1) := List.drop_eq_getElem_cons hjl
    rw [hd, walksF] at hw
    cases hwv : (walkF see vs[j] s1).1 with
    | false =>
     rw [hwv] at hw
     simp at hw
     simp [yde_r7]
     refine hq2 _ _ _ ?_ gF ?_ (by simp)
     ·rw [← hw]; exact p2
     ·rw [← hw]
    | true =>
     rw [hwv] at hw
     simp at hw
     simp [yde_r8, f17]
     refine ⟨vs.length - (j + 1), by omega, j + 1, rfl, by omega, ?_, ?_, ?_, ?_, ?_, _, p2, gF, hw⟩ <;> simp [f15, f16, f1, f3]
     rw [wrap_id (by omega) (by omega)]
   ·have hjl : j = vs.length := by omega
    subst hjl
    simp [walksF] at hw
    refine hq1 _ _ _ ?_ g1 ?_
    ·rw [← hw]; exact p1
    ·rw [← hw]
end Tz
/-
 SV: sizes of values. No condition.
-/
namespace Tz
open Go.Sx Go
def seeSize (_ : V) (s : Int) : Bool × Int := (true, wrapF .i64 (s + 1))
mutual
theorem walk_size : ∀ (v : V) (s : Nat), s + v.size < 2 ^ 62 → walkF seeSize v (s : Int) = (true, ((s + v.size : Nat) : Int))
 | .mk k n a b l, s, h => by
  rw [V.size] at h
  rw [walkF, V.size]
  simp only [seeSize, if_true]
  have e : wrapF .i64 ((s : Int) + 1) = ((s + 1 : Nat) : Int) := by rw [wrap_id (by omega) (by omega)]; rfl
  rw [e, walks_size l (s + 1) (by omega)]
  congr 2; omega
theorem walks_size : ∀ (l : List V) (s : Nat), s + V.sizes l < 2 ^ 62 → walksF seeSize l (s : Int) = (true, ((s + V.sizes l : Nat) : Int))
 | [], s, h => by rw [walksF, V.sizes]; rfl
 | v :: l, s, h => by
  rw [V.sizes] at h
  rw [walksF, V.sizes, walk_size v s (by omega)]
  simp only [if_true]
  rw [walks_size l (s + v.size) (by omega)]
  congr 2; omega
end
theorem V.size_eq (v : V) : v.size = 1 + V.sizes v.kids := by cases v; rw [V.size]; rfl
variable {C : Cfg} (S : Std C)
include S
theorem seeSize_ok (bn : Key) : SeeOK C n_ydc [.ptr bn 0] (· = bn) (bn.toNat + 1) (fun (s : Int) h => T.get bn h = some (.cells [I s] .fix)) seeSize (fun _ => True) := by
 refine ⟨fun _ _ _ _ => trivial, ?_, ?_, ?_, ?_⟩
 ·intro cells v d s h nx h0 hv _ hP
  obtain ⟨c, rfl, hK⟩ := hv.cells
  refine S.c_ydc.call ?_
  simp [ydc]
  simp [ydc_r0]
  have q : T.get bn (T.set nx (some (Blk.cells [I v.k, I v.n, .str v.a v.b, c] .fix)) h) = some (.cells [I s] .fix) := by rw [get_lt (by omega)]; exact hP
  simp [ydc_r1, q]
  simp [ydc_r2]
  refine ⟨rfl, rfl, by simp, fun b hb ho => ?_⟩
  rw [T.get_set_ne _ _ _ _ ho, get_lt (by omega)]
 ·intro s h h' hP hk
  show _ = _
  rw [hk bn rfl]; exact hP
 ·intro b hb; subst hb; omega
 ·intro h; simp
theorem visit_ok {σ : Type} {fs : Nat} {cap : List AV} {own : Key → Prop} {n0 : Nat} {P : σ → T Blk → Prop} {see : V → σ → Bool × σ} {Pv : V → Prop} (hs : SeeOK C fs cap own n0 P see Pv) {cells : List AV} {v : V} (hv : IsV cells v) (hPv : Pv v) (s : σ) (h : T Blk) (nx : Key)
  (h0 : n0 ≤ nx.toNat) (hP : P s h) : CallA C n_ydd [.agg cells, .fn fs [] cap] h nx (fun o h' nx' => o = .ret (.tuple []) ∧ P (walkF see v s).2 h' ∧ Fo own h nx h' nx') := by
 obtain ⟨c, rfl, hK⟩ := hv.cells
 have hc' : ∀ n h, frzA n c h = (c, h) := IsK.stb hK
 have s1 := Key.toNat_succ nx
 have s2 := Key.toNat_succ nx.succ
 have s3 := Key.toNat_succ nx.succ.succ
 have ev : V.mk v.k v.n v.a v.b v.kids = v := by cases v; rfl
 refine S.c_ydd.call ?_
 simp [ydd]
 simp [ydd_r0]
 simp [ydd_r1]
 simp [ydd_r2]
 simp [ydd_r3, S.raw, hc']
 have hlow : ∀ b, own b → b.toNat < nx.toNat := fun b hb => by have := hs.low b hb; omega
 have o1 : ¬ own nx := fun ho => by have := hlow _ ho; omega
 have o2 : ¬ own nx.succ := fun ho => by have := hlow _ ho; omega
 have o3 : ¬ own nx.succ.succ := fun ho => by have := hlow _ ho; omega
 refine (walk_ok S hs (bs := nx.succ) (bw := nx.succ.succ) o2 o3 (IsV.of (k := v.k) (n := v.n) (a := v.a) (b := v.b) hK) (by rw [ev]; exact hPv) _ s _ _ (by omega) (by omega) (by omega) (hs.keep s h _ hP fun b hb => ?_) (by simp (disch := omega) [get_lt (α := Blk)]) (by simp)).mono ?_
 ·have := hlow b hb
  simp (disch := omega) [get_lt (α := Blk)]
 rintro o h1 nx1 ⟨rfl, p1, f1⟩
 have t1 := f1.n
 simp [tupled]
 rw [ev] at p1
 exact ⟨p1, by omega, fun b hb ho => by rw [f1.g b (by omega) ho]; simp (disch := omega) [get_lt (α := Blk)]⟩
theorem size_ok {cells : List AV} {v : V} (hv : IsV cells v) (hz : v.size < 2 ^ 62) : Pur C n_ydb [.agg cells] (· = .ret (I v.size)) := by
 intro h nx
 obtain ⟨c, rfl, hK⟩ := hv.cells
 have hc' : ∀ n h, frzA n c h = (c, h) := IsK.stb hK
 have s1 := Key.toNat_succ nx
 have s2 := Key.toNat_succ nx.succ
 refine S.c_ydb.call ?_
 simp [ydb]
 simp [ydb_r0]
 simp [ydb_r1]
 simp [ydb_r2, S.raw, hc']
 refine (visit_ok S (seeSize_ok S nx.succ) (IsV.of (k := v.k) (n := v.n) (a := v.a) (b := v.b) hK) trivial 0 _ _ (by omega) (by simp)).mono ?_
 rintro o h1 nx1 ⟨rfl, p1, f1⟩
 have t1 := f1.n
 have ev : V.mk v.k v.n v.a v.b v.kids = v := by cases v; rfl
 rw [ev] at p1
 have hw := walk_size v 0 (by omega)
 simp at hw
 rw [hw] at p1
 simp [ydb_r3, p1]
 exact ⟨by omega, fun b hb => by
  rw [f1.g b (by omega) (fun e => by subst e; omega)]
  simp (disch := omega) [get_lt (α := Blk)]⟩
theorem measured_ok {cells : List AV} {v : V} (hv : IsV cells v) (hz : v.size < 2 ^ 62) : Pur C n_yay [.agg cells] (OkV v) := by
 intro h nx
 obtain ⟨c, rfl, hK⟩ := hv.cells
 have hc' : ∀ n h, frzA n c h = (c, h) := IsK.stb hK
 have hcc := IsK.cell hK
 have hcs := IsK.cells hK
 have s1 := Key.toNat_succ nx
 have s2 := Key.toNat_succ nx.succ
 refine S.c_yay.call ?_
 simp [yay]
 simp [yay_r0]
 simp [yay_r1, S.raw, hc']
 refine (size_ok S hv hz _ _).mono ?_
 rintro o h1 nx1 ⟨rfl, f1⟩
 have t1 := f1.n
 have q0 := f1.g nx (by omega)
 have q1 := f1.g nx.succ (by omega)
 simp at q0 q1
 have hb := IsK.beq hK
 simp [q0, q1, AV.beq, AV.beqs, SI.beq, hb, hcc, hc', hcs]
 refine ⟨⟨c, hK, rfl⟩, by omega, fun b hb => by
  rw [get_lt (by omega), f1.g b (by omega), get_lt (by omega), get_lt (by omega)]⟩
end Tz
