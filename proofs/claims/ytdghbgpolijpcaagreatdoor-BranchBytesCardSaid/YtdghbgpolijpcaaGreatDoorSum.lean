/-
  SB: the machine with its known calls: the sort and the examples. No condition.
-/
import Derived.Test.YtdghbgpolijpcaaGreatDoorGSort
import Derived.Test.YtdghbgpolijpcaaGreatDoorBL
import Derived.Test.YtdghbgpolijpcaaGreatDoorRunB
import Derived.Test.YtdghbgpolijpcaaGreatDoorLay
import Derived.Test.YtdghbgpolijpcaaGreatDoorYE
set_option linter.unusedSimpArgs false
set_option linter.unusedVariables false
set_option linter.unusedSectionVars false
namespace Tb
open Go.Sx Go Go.Proofs Go.RowKit Go.Sort
/- branches as the model's values -/
def dig : Nat → Nat → List UInt8
  | 0, _ => []
  | n + 1, c => UInt8.ofNat (c % 256) :: dig n (c / 256)
theorem dig_len : ∀ n c, (dig n c).length = n
  | 0, _ => rfl
  | n + 1, c => by rw [dig, List.length_cons, dig_len]
theorem dig_enc : ∀ n c, c < 256 ^ n → Go.Sx.enc (dig n c) = c
  | 0, c, h => by simp at h; subst h; rfl
  | n + 1, c, h => by
    have ih := dig_enc n (c / 256) (by rw [Nat.pow_succ] at h; omega)
    rw [dig]
    simp only [Go.Sx.enc, ih]
    have : (UInt8.ofNat (c % 256)).toNat = c % 256 := by simp
    rw [this]; omega
abbrev OB := {x : Br // OkB x}
instance : Inhabited OB := ⟨⟨⟨0, 0, 0, 0⟩, by unfold OkB; decide⟩⟩
def eA (x : OB) : List AV := eB x.1
def eV (x : OB) : List Value := [.string ⟨(dig x.1.a x.1.b).toArray⟩, .int .i64 x.1.n, .int .i64 x.1.m]
theorem two : Two 3 eA eV where
  flat := ⟨fun x => rfl, fun x => flatB.stb x.1, fun x => flatB.cell x.1, fun x => rfl⟩
  len _ := rfl
  one x v hv := by
    simp [eV] at hv
    rcases hv with rfl | rfl | rfl <;> rfl
  rel ρ μ x := .cons _ _ _ _ (.str _ _ _ (by simp [dig_len]) (by simpa using dig_enc _ _ x.2)) (.cons _ _ _ _ (.int _ _ _ rfl) (.cons _ _ _ _ (.int _ _ _ rfl) .nil))
  det ρ μ x i a v ha hr := by
    rcases i with _ | _ | _ | i
    · simp [eA, eB] at ha; subst ha
      cases hr with
      | str _ _ s h1 h2 =>
        have : s = ⟨(dig x.1.a x.1.b).toArray⟩ := by
          have e := enc_inj (a := s.data.toList) (b := dig x.1.a x.1.b) (by rw [h1, dig_len]) (by rw [h2, dig_enc _ _ x.2])
          cases s with
          | mk d =>
            have : d = (dig x.1.a x.1.b).toArray := by
              rw [← e]
            rw [this]
        subst this; rfl
    · simp [eA, eB] at ha; subst ha
      cases hr with
      | int _ _ n h => rw [← h]; rfl
    · simp [eA, eB] at ha; subst ha
      cases hr with
      | int _ _ n h => rw [← h]; rfl
    · simp [eA, eB] at ha
def cf (x y : OB) : Int := cmpB x.1 y.1
theorem cf_lt (x y : OB) : ltOf cf x y = true ↔ lt x.1 y.1 := by unfold ltOf cf lt; exact decide_eq_true_iff
theorem cf_nlt (x y : OB) : ltOf cf x y = false ↔ ¬ lt x.1 y.1 := by rw [← cf_lt]; simp
theorem cf_swo : SWO (ltOf cf) where
  irrefl x := (cf_nlt x x).2 (lt_irrefl x.2)
  trans x y z h1 h2 := (cf_lt x z).2 (lt_trans x.2 y.2 z.2 ((cf_lt x y).1 h1) ((cf_lt y z).1 h2))
  ntrans x y z h1 h2 := by
    rw [cf_nlt] at *
    intro h3
    by_cases h4 : lt y.1 x.1
    · exact h2 (lt_trans y.2 x.2 z.2 h4 h3)
    · have e := lt_tri x.2 y.2 h1 h4
      rw [e] at h3; exact h2 h3
theorem cf_tri (x y : OB) (h1 : ltOf cf x y = false) (h2 : ltOf cf y x = false) : x = y :=
  Subtype.ext (lt_tri x.2 y.2 ((cf_nlt x y).1 h1) ((cf_nlt y x).1 h2))

/- cells as branches -/
def parseB : List AV → List Br
  | .str a b :: .int .i64 (.lit n) :: .int .i64 (.lit m) :: r => ⟨a, b, n, m⟩ :: parseB r
  | _ => []
theorem parse_rows : ∀ us : List Br, parseB (rowsA eB us) = us
  | [] => rfl
  | x :: us => by rw [rowsA_cons]; simp [eB, parseB, parse_rows us]
open Classical in
noncomputable def sumB (f : Nat) (l : List AV) (h : T Blk) (nx : Key) : Option (AV × T Blk × Key) :=
  if f = 18 ∧ l = [] then some (.bool true, h, nx) else
  if f = 51 then match l with
    | [.slice b off len sz, .fn g a c] => if off = 0 ∧ sz = 3 ∧ g = 16 ∧ a = [] ∧ c = [] then (match T.get b h with
      | some (.cells L .fix) => if L = rowsA eB (parseB L) ∧ len = (parseB L).length ∧ len ≤ 4000 ∧ ∀ x ∈ parseB L, OkB x then some (.tuple [], T.set b (some (.cells (rowsA eB (sortB (parseB L))) .fix)) h, nx) else none
      | _ => none) else none
    | _ => none
  else none
noncomputable def CB : Cfg := ⟨[], fnsX, sumB, fun f => Nat.beq f 51 || Nat.beq f 22 || Nat.beq f 24 || Nat.beq f 26, fun f => Nat.beq f 63 || Nat.beq f 44 || Nat.beq f 45 || Nat.beq f 28 || Nat.beq f 49⟩
noncomputable def C0 : Cfg := mkCfg fnsX []
theorem fn0 {f : Nat} {p : PFn} (hg : getFn C0 f = some p) : Fn C0 f p := ⟨hg, fun l h nx => rfl, rfl⟩
theorem sumB_off {f : Nat} (h1 : f ≠ 18) (h2 : f ≠ 51) (l : List AV) (h : T Blk) (nx : Key) : sumB f l h nx = none := by
  unfold sumB; rw [if_neg (fun h => h1 h.1), if_neg h2]
theorem fnB {f : Nat} {p : PFn} (hg : getFn CB f = some p) (h1 : f ≠ 18) (h2 : f ≠ 51) (h3 : CB.rawR f = false) : Fn CB f p := ⟨hg, fun l h nx => sumB_off h1 h2 l h nx, h3⟩
theorem std0 : Std0 C0 := ⟨rfl, fun _ _ => rfl, fn0 (by kernel_rfl), fn0 (by kernel_rfl), fn0 (by kernel_rfl), fn0 (by kernel_rfl), fn0 (by kernel_rfl), fn0 (by kernel_rfl), fn0 (by kernel_rfl), fn0 (by kernel_rfl), fn0 (by kernel_rfl), fn0 (by kernel_rfl), fn0 (by kernel_rfl), fn0 (by kernel_rfl), fn0 (by kernel_rfl), fn0 (by kernel_rfl), fn0 (by kernel_rfl), fn0 (by kernel_rfl), fn0 (by kernel_rfl), fn0 (by kernel_rfl), fn0 (by kernel_rfl), fn0 (by kernel_rfl), fn0 (by kernel_rfl), fn0 (by kernel_rfl), fn0 (by kernel_rfl), fn0 (by kernel_rfl), fn0 (by kernel_rfl), fn0 (by kernel_rfl), fn0 (by kernel_rfl)⟩
theorem rawB : ∀ f, (f ≠ 51 ∧ f ≠ 22 ∧ f ≠ 24 ∧ f ≠ 26) → CB.raw f = false := by
  intro f hf
  have h : ∀ n, f ≠ n → Nat.beq f n = false := fun n hn => by
    cases hb : Nat.beq f n with
    | false => rfl
    | true => exact absurd (Nat.eq_of_beq_eq_true hb) hn
  show (Nat.beq f 51 || Nat.beq f 22 || Nat.beq f 24 || Nat.beq f 26) = false
  rw [h _ hf.1, h _ hf.2.1, h _ hf.2.2.1, h _ hf.2.2.2]; rfl
theorem stdB0 : Std0 CB := ⟨rfl, rawB, fnB (by kernel_rfl) (by decide) (by decide) rfl, fnB (by kernel_rfl) (by decide) (by decide) rfl, fnB (by kernel_rfl) (by decide) (by decide) rfl, fnB (by kernel_rfl) (by decide) (by decide) rfl, fnB (by kernel_rfl) (by decide) (by decide) rfl, fnB (by kernel_rfl) (by decide) (by decide) rfl, fnB (by kernel_rfl) (by decide) (by decide) rfl, fnB (by kernel_rfl) (by decide) (by decide) rfl, fnB (by kernel_rfl) (by decide) (by decide) rfl, fnB (by kernel_rfl) (by decide) (by decide) rfl, fnB (by kernel_rfl) (by decide) (by decide) rfl, fnB (by kernel_rfl) (by decide) (by decide) rfl, fnB (by kernel_rfl) (by decide) (by decide) rfl, fnB (by kernel_rfl) (by decide) (by decide) rfl, fnB (by kernel_rfl) (by decide) (by decide) rfl, fnB (by kernel_rfl) (by decide) (by decide) rfl, fnB (by kernel_rfl) (by decide) (by decide) rfl, fnB (by kernel_rfl) (by decide) (by decide) rfl, fnB (by kernel_rfl) (by decide) (by decide) rfl, fnB (by kernel_rfl) (by decide) (by decide) rfl, fnB (by kernel_rfl) (by decide) (by decide) rfl, fnB (by kernel_rfl) (by decide) (by decide) rfl, fnB (by kernel_rfl) (by decide) (by decide) rfl, fnB (by kernel_rfl) (by decide) (by decide) rfl, fnB (by kernel_rfl) (by decide) (by decide) rfl, fnB (by kernel_rfl) (by decide) (by decide) rfl, fnB (by kernel_rfl) (by decide) (by decide) rfl⟩
theorem aE30 : ∀ w, (isAgg (Tryz.laysS_ren.t 24)).run Tryz.prog w = .ok true w := fun w => by kernel_rfl
theorem zE30 : ∀ w, (Go.sizeOf (Tryz.laysS_ren.t 24)).run Tryz.prog w = .ok 3 w := fun w => by kernel_rfl
theorem sortSum {ρ : Nat → Int} {w0 : W0} (hL : LaidW Tryz.prog heap0 w0) {us : List Br} (hu : ∀ x ∈ us, OkB x) (hlen : us.length ≤ 4000) {b : Key} {H : T Blk} {nx : Key} (hb : T.get b H = some (.cells (rowsA eB us) .fix)) :
    SumOk Tryz.prog ρ w0 51 [.slice b 0 us.length 3, .fn 16 [] []] H nx (.tuple []) (T.set b (some (.cells (rowsA eB (sortB us)) .fix)) H) nx := by
  have hmap : (us.attachWith OkB hu).map Subtype.val = us := List.attachWith_map_subtype_val hu
  have hrows : ∀ l : List OB, rowsA eA l = rowsA eB (l.map Subtype.val) := fun l => by simp [rowsA, List.flatMap_map, eA]
  have hl : (us.attachWith OkB hu).length = us.length := List.length_attachWith
  have hb' : T.get b H = some (.cells (rowsA eA (us.attachWith OkB hu)) .fix) := by rw [hrows, hmap]; exact hb
  obtain ⟨fn, c, g1, g2, g3, _⟩ := pFn_spec (P := Tryz.prog) (f := 16) ok_branch_Compare
  have key := sort_sum (P := Tryz.prog) (ρ := ρ) (heap0 := heap0) (C := C0) (fun w0 hL => ctx_of fns_build fns_ok mix (show TabOk _ _ _ [] from trivial) w0 hL) Tryz.laysS (k := 3) aE30 zE30 two (cf := cf) cf_swo cf_tri (g := 16)
    (fun args w => run_callFunc g1 (by rw [g2]; rfl) g3 args) (nx0 := k40) few (fun x y => (cmpB_ok std0 x.1 y.1 heap0 k40).mono fun o _ _ h => h.1) (us := us.attachWith OkB hu) (by omega) hL hb' (nx := nx)
  have hs : rowsA eA ((us.attachWith OkB hu).mergeSort fun x y => !(ltOf cf) y x) = rowsA eB (sortB us) := by
    have e := List.map_mergeSort (r := fun x y : OB => !(ltOf cf) y x) (s := fun x y : Br => !(decide (cmpB y x < 0))) (f := Subtype.val) (l := us.attachWith OkB hu) (fun a _ b _ => rfl)
    rw [hrows, e, hmap]; rfl
  rw [hs, hl] at key
  exact key
theorem ctxB {ρ : Nat → Int} (w0 : W0) (hL : LaidW Tryz.prog heap0 w0) : Ctx Tryz.prog ρ w0 CB := by
  have X := ctx_of (ρ := ρ) fns_build fns_ok mix (show TabOk Tryz.prog ρ heap0 [] from trivial) w0 hL
  refine ⟨?_, ?_, X.orc, X.fns, X.mix⟩
  · intro f l H nx a H' nx' hs0
    have hs : sumB f l H nx = some (a, H', nx') := hs0
    clear hs0
    unfold sumB at hs
    split at hs
    · rename_i h
      obtain ⟨rfl, rfl⟩ := h
      cases hs
      exact sumL ρ w0 hL H nx
    · split at hs
      · rename_i hf
        subst hf
        split at hs
        · split at hs
          · rename_i h
            obtain ⟨rfl, rfl, rfl, rfl, rfl⟩ := h
            split at hs
            · rename_i L hg
              split at hs
              · rename_i h
                obtain ⟨h1, rfl, h3, h4⟩ := h
                cases hs
                refine sortSum hL h4 h3 ?_
                rw [← h1]; exact hg
              · cases hs
            · cases hs
          · cases hs
        · cases hs
      · cases hs
  · intro f l H nx r hs
    have hs : sumB f l H nx = some r := hs
    have hf : f = 18 ∨ f = 51 := by
      by_cases h1 : f = 18
      · exact .inl h1
      · by_cases h2 : f = 51
        · exact .inr h2
        · rw [sumB_off h1 h2] at hs; cases hs
    rcases hf with rfl | rfl
    · obtain ⟨fn, c, f1, f2, f3, _⟩ := pFn_spec (okx (n := 18) (by kernel_rfl))
      exact ⟨fn, f1, by rw [f2]; rfl, f3⟩
    · obtain ⟨fn, c, f1, f2, f3, _⟩ := pFn_spec (okx (n := 51) (by kernel_rfl))
      exact ⟨fn, f1, by rw [f2]; rfl, f3⟩
theorem stdB : Std CB := by
  refine ⟨stdB0, rfl, ?_⟩
  intro us b h nx hu hl hg
  show sumB 51 [.slice b 0 us.length 3, .fn 16 [] []] h nx = _
  unfold sumB
  rw [if_neg (by simp), if_pos rfl]
  simp only [hg, parse_rows]
  simp [hl]
  rw [parse_rows]
  exact ⟨rfl, rfl, hu⟩
theorem liveB : Pur CB n_law13_lives [] (· = .ret (.bool true)) := fun h nx => .inl ⟨.bool true, h, nx, by show sumB 18 [] h nx = _; unfold sumB; simp, rfl, Ext.refl _ _⟩
theorem law_sets {c d : AV} {l m : List Int} (hc : IsR 1 eI c l) (hd : IsR 1 eI d m) (hl : inR l) (hm : inR m) : Pur CB n_law13_BranchSets [c, d] (· = .ret (.bool true)) := sets_ok stdB liveB hc hd hl hm
end Tb
/-
  SB: the machine runs the law of bytes. No condition.
-/
namespace Tb
open Go.Sx Go
theorem fnRB {f : Nat} {p : PFn} (hg : getFn CB f = some p) (h1 : f ≠ 18) (h2 : f ≠ 51) (h3 : CB.rawR f = true) : FnR CB f p := ⟨hg, fun l h nx => sumB_off h1 h2 l h nx, h3⟩
theorem stdW : StdW CB := ⟨stdB, fnB (by kernel_rfl) (by decide) (by decide) rfl, fnB (by kernel_rfl) (by decide) (by decide) rfl, fnB (by kernel_rfl) (by decide) (by decide) rfl, fnB (by kernel_rfl) (by decide) (by decide) rfl, fnB (by kernel_rfl) (by decide) (by decide) rfl, fnB (by kernel_rfl) (by decide) (by decide) rfl⟩
theorem stdR : StdR CB := ⟨stdW, fnB (by kernel_rfl) (by decide) (by decide) rfl, fnRB (by kernel_rfl) (by decide) (by decide) rfl, fnRB (by kernel_rfl) (by decide) (by decide) rfl, fnRB (by kernel_rfl) (by decide) (by decide) rfl, fnB (by kernel_rfl) (by decide) (by decide) rfl⟩
theorem stdX : StdX CB := ⟨stdR, fnB (by kernel_rfl) (by decide) (by decide) rfl, fnB (by kernel_rfl) (by decide) (by decide) rfl, fnB (by kernel_rfl) (by decide) (by decide) rfl, fnB (by kernel_rfl) (by decide) (by decide) rfl, fnB (by kernel_rfl) (by decide) (by decide) rfl, fnRB (by kernel_rfl) (by decide) (by decide) rfl, fnB (by kernel_rfl) (by decide) (by decide) rfl, fnB (by kernel_rfl) (by decide) (by decide) rfl, fnB (by kernel_rfl) (by decide) (by decide) rfl, fnB (by kernel_rfl) (by decide) (by decide) rfl, fnB (by kernel_rfl) (by decide) (by decide) rfl, fnRB (by kernel_rfl) (by decide) (by decide) rfl, fnB (by kernel_rfl) (by decide) (by decide) rfl, rfl, rfl, rfl⟩
theorem law_bytes {c d : AV} {l : List Int} {raw : List Nat} {a2 : Int} {by' : Nat} (hc : IsR 1 eI c l) (hl : inR l) (hd : IsR 1 eY d raw) (hrb : ∀ b ∈ raw, b < 256) (h1 : -9223372036854775808 ≤ a2) (h2 : a2 < 9223372036854775808) (hby : by' < 256) :
    Pur CB n_law13_BranchBytes [c, d, I a2, .int .u8 (.lit (by' : Int))] (· = .ret (.bool true)) := bytes_ok stdX liveB hc hl hd hrb h1 h2 hby
end Tb
