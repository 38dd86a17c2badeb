/-
  SB: lists as the keys of a map. No condition.
-/
import Derived.Test.YtdghbgpolijpcaaGreatDoorBD
set_option linter.unusedSimpArgs false
set_option linter.unusedVariables false
set_option linter.unusedSectionVars false
namespace Tb
open Go.Sx Go
@[simp] theorem eB_all (x : Br) : (eB x).all AV.isCell = true := rfl
def kv (x : Br) : AV × AV := (.agg (eB x), .bool true)
def mp (r : List Br) : List (AV × AV) := r.map kv
def add (r : List Br) (x : Br) : List Br := if x ∈ r then r else r ++ [x]
@[simp] theorem eqKP_B (x y : Br) : eqKP [] (.parts [(0, .str), (1, .int), (2, .int)]) (.agg (eB x)) (.agg (eB y)) = some (decide (x = y)) := by
  unfold eqKP
  rw [show eqV [] (.parts [(0, .str), (1, .int), (2, .int)]) (.agg (eB x)) (.agg (eB y)) = some (decide (x = y)) from eqB x y]
  by_cases h : x = y
  · subst h
    have : AV.beq (.agg (eB x)) (.agg (eB x)) = true := beq_refl _ rfl
    simp [this]
  · simp [h]
theorem setK_ok (x : Br) : ∀ r : List Br, setKP [] (.parts [(0, .str), (1, .int), (2, .int)]) (.agg (eB x)) (.bool true) (mp r) = some (mp (add r x))
  | [] => by simp [mp, setKP, add, kv]
  | y :: r => by
    have ih := setK_ok x r
    simp only [mp, List.map_cons, kv, setKP, eqKP_B] at ih ⊢
    by_cases h : x = y
    · subst h; simp [add, kv]
    · simp only [h, decide_false]
      rw [ih]
      by_cases hx : x ∈ r <;> simp [add, h, hx, kv]
@[simp] theorem keyIn_B (x : Br) : keyIn (.parts [(0, .str), (1, .int), (2, .int)]) (.agg (eB x)) = true := by
  simp [keyIn, eB, flatL, flatC, inAll]
theorem add_mem (r : List Br) (x y : Br) : y ∈ add r x ↔ y ∈ r ∨ y = x := by
  unfold add; split
  · exact ⟨.inl, fun h => h.elim id fun e => by subst e; assumption⟩
  · simp
theorem add_nodup {r : List Br} (hr : r.Nodup) (x : Br) : (add r x).Nodup := by
  unfold add; split
  · exact hr
  · rename_i h; exact List.nodup_append.2 ⟨hr, by simp, fun a ha b hb e => by simp at hb; subst hb; subst e; exact h ha⟩
theorem adds_mem : ∀ (l r : List Br) (y : Br), y ∈ l.foldl add r ↔ y ∈ r ∨ y ∈ l
  | [], r, y => by simp
  | x :: l, r, y => by rw [List.foldl_cons, adds_mem l, add_mem, List.mem_cons, or_assoc]
theorem adds_nodup : ∀ (l : List Br) {r : List Br}, r.Nodup → (l.foldl add r).Nodup
  | [], _, h => h
  | x :: l, _, h => by rw [List.foldl_cons]; exact adds_nodup l (add_nodup h x)
theorem adds_len : ∀ (l r : List Br), (l.foldl add r).length ≤ r.length + l.length
  | [], r => by simp
  | x :: l, r => by
    have := adds_len l (add r x)
    have h2 : (add r x).length ≤ r.length + 1 := by unfold add; split <;> simp
    rw [List.foldl_cons, List.length_cons]; omega
variable {C : Cfg} (S : Std C)
include S

def InInv (c : AV) (l r0 : List Br) (b : Key) (tm : T AV) (h0 : T Blk) (nx0 : Key) (k : Nat) (tm' : T AV) (h' : T Blk) (nx' : Key) : Prop :=
  ∃ j : Nat, k = l.length - j ∧ j ≤ l.length ∧ T.get (K 15) tm' = some c ∧ T.get (K 16) tm' = some (I l.length) ∧ T.get (K 17) tm' = some (I j) ∧ T.get (K 3) tm' = some (.map b) ∧
    T.get (K 9) tm' = T.get (K 9) tm ∧ T.get (K 10) tm' = T.get (K 10) tm ∧ T.get (K 11) tm' = T.get (K 11) tm ∧ T.get b h' = some (.map (mp ((l.take j).foldl add r0))) ∧ Ext h0 nx0 h' nx' ∧ b.toNat < nx'.toNat
theorem inner_ok {c : AV} {l r0 : List Br} (hc : IsL c l) (hl : l.length ≤ 1000) {b : Key} {h0 h : T Blk} {nx0 nx : Key} {tm : T AV} (f15 : T.get (K 15) tm = some c) (f16 : T.get (K 16) tm = some (I l.length)) (f17 : T.get (K 17) tm = some (I 0)) (f3 : T.get (K 3) tm = some (.map b))
    (hb : T.get b h = some (.map (mp r0))) (e : Ext h0 nx0 h nx) (h0b : nx0.toNat ≤ b.toNat) (hlt : b.toNat < nx.toNat) :
    W C (.loop branch_members_l1) (fun e tm' h' nx' => e = .exit 2 ∧ T.get (K 3) tm' = some (.map b) ∧ T.get (K 9) tm' = T.get (K 9) tm ∧ T.get (K 10) tm' = T.get (K 10) tm ∧ T.get (K 11) tm' = T.get (K 11) tm ∧
      T.get b h' = some (.map (mp (l.foldl add r0))) ∧ Ext h0 nx0 h' nx' ∧ b.toNat < nx'.toNat) tm h nx := by
  refine W.loopM (n := l.length) (InInv c l r0 b tm h0 nx0) ?_ ?_
  · exact ⟨0, by simp, by omega, f15, f16, f17, f3, rfl, rfl, rfl, hb, e, hlt⟩
  · rintro k tm1 h1 nx1 ⟨j, rfl, hj, f15, f16, f17, f3, g9, g10, g11, hb, e1, hlt⟩
    refine W.of ?_
    simp [branch_members_l1]
    simp [branch_members_r6, f16, f17]
    refine ⟨fun hjlt => ?_, fun hge => ?_⟩
    · have hjl : j < l.length := by omega
      have hcs : c = .sl (rowsA eB l) l.length 3 .any := by
        rcases hc with ⟨_, rfl⟩ | h
        · simp at hjl
        · exact h
      subst hcs
      have hr := flatB.rows l
      have h3 : 3 ≤ (rowsA eB l).length - j * 3 := by omega
      have ec := flatB.at hjl
      have t1 := Key.toNat_succ nx1
      have hbn : ∀ B, T.get b (T.set nx1 B h1) = some (.map (mp ((l.take j).foldl add r0))) := fun B => by rw [get_lt hlt]; exact hb
      simp [branch_members_r7, f15, f17, hjl, h3, ec]
      have hsk := setK_ok l[j] ((l.take j).foldl add r0)
      simp [branch_members_r8, f3, hbn, S.orc, hsk]
      simp [branch_members_r9, f17]
      refine ⟨l.length - (j + 1), by omega, ?_⟩
      unfold InInv
      refine ⟨j + 1, rfl, by omega, ?_, ?_, ?_, ?_, ?_, ?_, ?_, ?_, ((e1.trans (E0 h1 nx1 _)).put h0b), by omega⟩
      · simp [f15]
      · simp [f16]
      · simp; rw [wrap_id (by omega) (by omega)]
      · simp [f3]
      · simp [g9]
      · simp [g10]
      · simp [g11]
      · rw [T.get_set_same, List.take_succ_eq_append_getElem hjl, List.foldl_append]; rfl
    · have hjl : j = l.length := by omega
      subst hjl
      rw [List.take_length] at hb
      refine ⟨?_, ?_, ?_, ?_, hb, e1, hlt⟩ <;> simp [f3, g9, g10, g11]

/- what members hands back -/
def GiveMap (p : Br → Prop) (n : Nat) (h0 : T Blk) (nx0 : Key) (o : Out) (h' : T Blk) (nx' : Key) : Prop := ∃ (b : Key) (r : List Br), o = .ret (.map b) ∧ T.get b h' = some (.map (mp r)) ∧ r.Nodup ∧ (∀ y, y ∈ r ↔ p y) ∧ r.length ≤ n ∧ Ext h0 nx0 h' nx' ∧ nx0.toNat ≤ b.toNat ∧ b.toNat < nx'.toNat
def OutInv (cs : List AV) (ls : List (List Br)) (h0 : T Blk) (nx0 : Key) (k : Nat) (tm' : T AV) (h' : T Blk) (nx' : Key) : Prop :=
  ∃ j : Nat, k = cs.length - j ∧ j ≤ cs.length ∧ T.get (K 9) tm' = some (.sl cs cs.length 1 .any) ∧ T.get (K 10) tm' = some (I cs.length) ∧ T.get (K 11) tm' = some (I j) ∧ T.get (K 3) tm' = some (.map nx0) ∧
    T.get nx0 h' = some (.map (mp ((ls.take j).flatten.foldl add []))) ∧ Ext h0 nx0 h' nx' ∧ nx0.toNat < nx'.toNat
theorem members_ok {cs : List AV} {ls : List (List Br)} (hlen : cs.length = ls.length) (hcs : ∀ (i : Nat) (h1 : i < cs.length) (h2 : i < ls.length), IsL cs[i] ls[i]) (hls : ∀ l ∈ ls, l.length ≤ 1000) (hn : cs.length ≤ 1000) (h : T Blk) (nx : Key) :
    CallA C n_branch_members [.sl cs cs.length 1 .any] h nx (GiveMap (· ∈ ls.flatten) ls.flatten.length h nx) := by
  have s1 := Key.toNat_succ nx
  refine S.c_branch_members.call ?_
  simp [branch_members]
  simp [branch_members_r0]
  simp [branch_members_r1]
  simp [branch_members_r2]
  refine W.loopM (n := cs.length) (OutInv cs ls h nx) ?_ ?_
  · refine ⟨0, by simp, by omega, ?_, ?_, ?_, ?_, ?_, E0 h nx _, by omega⟩
    · simp
    · simp
    · simp
    · simp
    · rw [T.get_set_same]; rfl
  · rintro k tm1 h1 nx1 ⟨j, rfl, hj, f9, f10, f11, f3, hb, e1, hlt⟩
    refine W.of ?_
    simp [branch_members_l0]
    simp [branch_members_r3, f10, f11]
    refine ⟨fun hjlt => ?_, fun hge => ?_⟩
    · have hjl : j < cs.length := by omega
      have hjl2 : j < ls.length := by omega
      have hd : List.take 1 (List.drop j cs) = [cs[j]] := by rw [List.drop_eq_getElem_cons hjl]; rfl
      have h1' : 1 ≤ cs.length - j := by omega
      simp [branch_members_r4, f9, f11, hjl, hd, h1']
      have hc := hcs j hjl hjl2
      have hl := hls _ (List.getElem_mem hjl2)
      have fin : ∀ (tm : T AV), T.get (K 15) tm = some cs[j] → T.get (K 16) tm = some (I ls[j].length) → T.get (K 17) tm = some (I 0) → T.get (K 3) tm = some (.map nx) → T.get (K 9) tm = some (.sl cs cs.length 1 .any) → T.get (K 10) tm = some (I cs.length) → T.get (K 11) tm = some (I j) →
          ∀ R, (∀ tm' h' nx', T.get (K 3) tm' = some (.map nx) → T.get (K 9) tm' = some (.sl cs cs.length 1 .any) → T.get (K 10) tm' = some (I cs.length) → T.get (K 11) tm' = some (I j) → T.get nx h' = some (.map (mp ((ls.take (j + 1)).flatten.foldl add []))) → Ext h nx h' nx' → nx.toNat < nx'.toNat → R (.exit 2) tm' h' nx') →
          W C (.loop branch_members_l1) R tm h1 nx1 := by
        intro tm f15 f16 f17 f3 f9 f10 f11 R hR
        refine (inner_ok S hc hl (b := nx) (h0 := h) (nx0 := nx) f15 f16 f17 f3 hb e1 (Nat.le_refl _) hlt).mono ?_
        rintro e tm1 h1 nx1 ⟨rfl, g3, g9, g10, g11, hb, e1, hlt⟩
        refine hR tm1 h1 nx1 g3 (g9.trans f9) (g10.trans f10) (g11.trans f11) ?_ e1 hlt
        rw [hb, List.take_succ_eq_append_getElem hjl2, List.flatten_append, List.foldl_append]; simp
      have hx : ∀ tm : T AV, T.get (K 5) tm = some cs[j] → T.get (K 3) tm = some (.map nx) → T.get (K 9) tm = some (.sl cs cs.length 1 .any) → T.get (K 10) tm = some (I cs.length) → T.get (K 11) tm = some (I j) →
          ∀ R : Post, (∀ tm' h' nx', T.get (K 3) tm' = some (.map nx) → T.get (K 9) tm' = some (.sl cs cs.length 1 .any) → T.get (K 10) tm' = some (I cs.length) → T.get (K 11) tm' = some (I j) → T.get nx h' = some (.map (mp ((ls.take (j + 1)).flatten.foldl add []))) → Ext h nx h' nx' → nx.toNat < nx'.toNat → R .norm tm' h' nx') →
          wpC C ((PCode.ops branch_members_r5).seq (PCode.block 2 (.loop branch_members_l1))) R tm h1 nx1 := by
        intro tm f5 f3 f9 f10 f11 R hR
        simp
        have hc2 := hc
        rcases hc2 with ⟨e1, e2⟩ | e1
        · simp [branch_members_r5, f5, e1]
          refine fin _ ?_ ?_ ?_ ?_ ?_ ?_ ?_ _ ?_
          · simp [e1]
          · simp [e2]
          · simp
          · simp [f3]
          · simp [f9]
          · simp [f10]
          · simp [f11]
          · intro tm' h' nx' a1 a2 a3 a4 a5 a6 a7
            simpa using hR tm' h' nx' a1 a2 a3 a4 a5 a6 a7
        · simp [branch_members_r5, f5, e1]
          refine fin _ ?_ ?_ ?_ ?_ ?_ ?_ ?_ _ ?_
          · simp [e1]
          · simp
          · simp
          · simp [f3]
          · simp [f9]
          · simp [f10]
          · simp [f11]
          · intro tm' h' nx' a1 a2 a3 a4 a5 a6 a7
            simpa using hR tm' h' nx' a1 a2 a3 a4 a5 a6 a7
      have hx2 := hx (T.set (K 5) (some cs[j]) (T.set (K 14) (some cs[j]) (T.set (K 13) (some (.cref [cs[j]])) (T.set (K 12) (some (.bool true)) tm1)))) (by simp) (by simp [f3]) (by simp [f9]) (by simp [f10]) (by simp [f11])
        (blockPost 1 (seqPost (wpC C (.ops branch_members_r10) (seqPost (fun tm h_1 nx_1 => ∃ m, m < cs.length - j ∧ OutInv cs ls h nx m tm h_1 nx_1) (blockPost 0 (seqPost (wpC C ((PCode.ops branch_members_r11).seq PCode.ret) (BodyP [RV.tmp (K 2)] (GiveMap (· ∈ ls.flatten) ls.flatten.length h nx))) (BodyP [RV.tmp (K 2)] (GiveMap (· ∈ ls.flatten) ls.flatten.length h nx))))))
          (seqPost (fun tm h_1 nx_1 => ∃ m, m < cs.length - j ∧ OutInv cs ls h nx m tm h_1 nx_1) (blockPost 0 (seqPost (wpC C ((PCode.ops branch_members_r11).seq PCode.ret) (BodyP [RV.tmp (K 2)] (GiveMap (· ∈ ls.flatten) ls.flatten.length h nx))) (BodyP [RV.tmp (K 2)] (GiveMap (· ∈ ls.flatten) ls.flatten.length h nx))))))) ?_
      · simpa using hx2
      · intro tm' h' nx' g3 g9 g10 g11 hb' e' hlt'
        simp
        simp [branch_members_r10, g11]
        refine ⟨cs.length - (j + 1), by omega, ?_⟩
        unfold OutInv
        refine ⟨j + 1, rfl, by omega, ?_, ?_, ?_, ?_, hb', e', hlt'⟩
        · simp [g9]
        · simp [g10]
        · simp; rw [wrap_id (by omega) (by omega)]
        · simp [g3]
    · have hjl : j = cs.length := by omega
      rw [hjl, hlen, List.take_length] at hb
      simp [branch_members_r11, f3]
      refine ⟨nx, _, rfl, hb, adds_nodup _ (by simp), fun y => ?_, ?_, e1, Nat.le_refl _, hlt⟩
      · rw [adds_mem]; simp
      · simpa using adds_len ls.flatten []
end Tb
/-
  SB: the keys of a map in order. No condition.
-/
namespace Tb
open Go.Sx Go
abbrev En := Nat × Br
def encE (rs : List En) : List (Nat × AV × AV) := rs.map fun e => (e.1, .agg (eB e.2), .bool true)
def num : Nat → List Br → List En
  | _, [] => []
  | i, x :: r => (i, x) :: num (i + 1) r
theorem stamp_num : ∀ (r : List Br) (i : Nat), stampL i (mp r) = encE (num i r)
  | [], _ => rfl
  | x :: r, i => by
    show (i, AV.agg (eB x), AV.bool true) :: stampL (i + 1) (mp r) = _
    rw [stamp_num r]; rfl
theorem num_snd : ∀ (r : List Br) (i : Nat), (num i r).map Prod.snd = r
  | [], _ => rfl
  | x :: r, i => by rw [num, List.map_cons, num_snd r]
theorem num_lo : ∀ (r : List Br) (i : Nat), ∀ e ∈ num i r, i ≤ e.1 ∧ e.1 < i + r.length
  | [], _, e, h => by cases h
  | x :: r, i, e, h => by
    rcases List.mem_cons.1 h with rfl | h
    · simp
    · have := num_lo r (i + 1) e h
      rw [List.length_cons]; omega
theorem num_nd : ∀ (r : List Br) (i : Nat), ((num i r).map Prod.fst).Nodup
  | [], _ => by simp [num]
  | x :: r, i => by
    rw [num, List.map_cons, List.nodup_cons]
    refine ⟨fun h => ?_, num_nd r (i + 1)⟩
    obtain ⟨e, h1, h2⟩ := List.mem_map.1 h
    have h3 := (num_lo r (i + 1) e h1).1
    have h2 : e.1 = i := h2
    omega
theorem num_len (r : List Br) (i : Nat) : (num i r).length = r.length := by
  have := congrArg List.length (num_snd r i); simpa using this

/- a map of the machine's memory -/
structure MapIs (b : Key) (h : T Blk) (rs : List En) (c : Nat) : Prop where
  at_ : T.get b h = some (.map (mp (rs.map Prod.snd))) ∧ rs = num 0 (rs.map Prod.snd) ∧ c = rs.length ∨ T.get b h = some (.mapD (encE rs) c)
  nd : (rs.map Prod.fst).Nodup
  lt : ∀ e ∈ rs, e.1 < c
  nk : (rs.map Prod.snd).Nodup
theorem MapIs.st {b : Key} {h : T Blk} {rs : List En} {c : Nat} (M : MapIs b h rs c) : stamped b h = some (encE rs, c) := by
  rcases M.at_ with ⟨h1, h2, h3⟩ | h1
  · unfold stamped
    rw [h1]
    simp only
    rw [stamp_num, ← h2, lenL_eq, h3]
    simp [mp]
  · unfold stamped; rw [h1]
theorem MapIs.keep {b : Key} {h h' : T Blk} {rs : List En} {c : Nat} (M : MapIs b h rs c) (he : T.get b h' = T.get b h) : MapIs b h' rs c :=
  ⟨by rw [he]; exact M.at_, M.nd, M.lt, M.nk⟩
theorem MapIs.of {b : Key} {h : T Blk} {r : List Br} (hb : T.get b h = some (.map (mp r))) (hr : r.Nodup) : MapIs b h (num 0 r) r.length :=
  ⟨.inl ⟨by rw [num_snd]; exact hb, by rw [num_snd], by rw [num_len]⟩, num_nd r 0, fun e he => by have := (num_lo r 0 e he).2; omega, by rw [num_snd]; exact hr⟩
theorem MapIs.lenO {b : Key} {h : T Blk} {rs : List En} {c : Nat} (M : MapIs b h rs c) (orc : Orc) {tm : T AV} {k : Key} (hk : T.get k tm = some (.map b)) : lightOp orc (.lenM (.t k)) tm h = some (I rs.length) := by
  rcases M.at_ with ⟨h1, h2, h3⟩ | h1
  · simp [hk, h1, mp]
  · simp [hk, h1, encE]
theorem under_ok {c : Nat} : ∀ {rs : List En}, (∀ e ∈ rs, e.1 < c) → underL c (encE rs) = true
  | [], _ => rfl
  | e :: rs, h => by
    show (Nat.blt e.1 c && underL c (encE rs)) = true
    rw [under_ok fun e he => h e (by simp [he]), bltN_eq]
    simp [h e (by simp)]
theorem memS_iff (i : Nat) : ∀ l : List Nat, memS i l = true ↔ i ∈ l
  | [] => by simp [memS]
  | j :: l => by
    rw [memS]
    by_cases h : i = j
    · simp [h]
    · simp [h, memS_iff i l]
theorem left_ok (seen : List Nat) : ∀ rs : List En, leftL seen (encE rs) = encE (rs.filter fun e => !(memS e.1 seen))
  | [] => rfl
  | e :: rs => by
    show (bif memS e.1 seen then leftL seen (encE rs) else (e.1, .agg (eB e.2), .bool true) :: leftL seen (encE rs)) = _
    rw [left_ok seen rs]
    cases h : memS e.1 seen <;> simp [h, encE]
theorem alts_mem {b m : Key} {n : Nat} {seen : List Nat} {h : T Blk} : ∀ {L : List (Nat × AV × AV)} {v : AV} {h2 : T Blk}, (v, h2) ∈ altsL b m n seen h L → ∃ s k w, (s, k, w) ∈ L ∧ v = .tuple [.bool true, k, w] ∧ h2 = T.set b (some (.iter m n (seen ++ [s]))) h
  | [], _, _, hm => by simp [altsL] at hm
  | (s, k, w) :: L, v, h2, hm => by
    simp only [altsL, T.setC_eq, List.mem_cons] at hm
    rcases hm with hm | hm
    · cases hm; exact ⟨s, k, w, by simp, rfl, rfl⟩
    · obtain ⟨s', k', w', h1, h2', h3⟩ := alts_mem hm
      exact ⟨s', k', w', by simp [h1], h2', h3⟩
theorem lastS_app : ∀ (l : List Nat) (s : Nat), lastS (l ++ [s]) = some s
  | [], s => rfl
  | [a], s => rfl
  | a :: b :: l, s => by
    show lastS (b :: l ++ [s]) = some s
    exact lastS_app (b :: l) s
theorem find_ok : ∀ {rs : List En} {e : En}, (rs.map Prod.fst).Nodup → e ∈ rs → findS e.1 (encE rs) = some (.tuple [.agg (eB e.2), .bool true])
  | [], _, _, h => by cases h
  | d :: rs, e, hn, h => by
    rw [List.map_cons, List.nodup_cons] at hn
    show (bif Nat.beq d.1 e.1 then some (AV.tuple [.agg (eB d.2), .bool true]) else findS e.1 (encE rs)) = _
    rcases List.mem_cons.1 h with rfl | h
    · simp
    · have hne : d.1 ≠ e.1 := fun h2 => hn.1 (by rw [h2]; exact List.mem_map_of_mem h)
      simp [hne, find_ok hn.2 h]
theorem fst_inj {rs : List En} (hn : (rs.map Prod.fst).Nodup) : ∀ {e d : En}, e ∈ rs → d ∈ rs → e.1 = d.1 → e = d := by
  induction rs with
  | nil => intro e d h; cases h
  | cons a rs ih =>
    intro e d he hd heq
    rw [List.map_cons, List.nodup_cons] at hn
    rcases List.mem_cons.1 he with e1 | he2 <;> rcases List.mem_cons.1 hd with e2 | hd2
    · rw [e1, e2]
    · exact absurd (by rw [← e1, heq]; exact List.mem_map_of_mem hd2) hn.1
    · exact absurd (by rw [← e2, ← heq]; exact List.mem_map_of_mem he2) hn.1
    · exact ih hn.2 he2 hd2 heq
theorem snd_inj {rs : List En} (hn : (rs.map Prod.snd).Nodup) : ∀ {e d : En}, e ∈ rs → d ∈ rs → e.2 = d.2 → e = d := by
  induction rs with
  | nil => intro e d h; cases h
  | cons a rs ih =>
    intro e d he hd heq
    rw [List.map_cons, List.nodup_cons] at hn
    rcases List.mem_cons.1 he with e1 | he2 <;> rcases List.mem_cons.1 hd with e2 | hd2
    · rw [e1, e2]
    · exact absurd (by rw [← e1, heq]; exact List.mem_map_of_mem hd2) hn.1
    · exact absurd (by rw [← e2, ← heq]; exact List.mem_map_of_mem he2) hn.1
    · exact ih hn.2 he2 hd2 heq

/- the sort, in the plain -/
theorem sort_set {r us : List Br} (hu : us.Nodup) (hm : ∀ y, y ∈ us ↔ y ∈ r) (ho : AllOk r) : SetOf (· ∈ r) (sortB us) := by
  have hou : ∀ y ∈ us, OkB y := fun y hy => ho y ((hm y).1 hy)
  have hperm : (sortB us).Perm us := List.mergeSort_perm _ _
  have hmem : ∀ y, y ∈ sortB us ↔ y ∈ us := fun y => hperm.mem_iff
  have hnd : (sortB us).Nodup := hperm.nodup_iff.2 hu
  refine ⟨?_, fun y => (hmem y).trans (hm y)⟩
  have hsorted : (sortB us).Pairwise fun x y => OkB x ∧ OkB y ∧ ¬ lt y x := by
    let f : {x : Br // OkB x} → Br := Subtype.val
    let le : {x : Br // OkB x} → {x : Br // OkB x} → Bool := fun x y => !(decide (cmpB y.1 x.1 < 0))
    have hl : (us.attachWith OkB hou).map f = us := List.attachWith_map_subtype_val hou
    have hle : ∀ x y : {x : Br // OkB x}, le x y = true ↔ ¬ lt y.1 x.1 := fun x y => by simp [le, lt]
    have hs := List.pairwise_mergeSort (le := le)
      (fun x y z h1 h2 => by
        rw [hle] at h1 h2 ⊢
        intro h3
        by_cases h4 : lt y.1 z.1
        · exact h1 (lt_trans y.2 z.2 x.2 h4 h3)
        · have := lt_tri y.2 z.2 h4 h2
          rw [this] at h1; exact h1 h3)
      (fun x y => by
        rw [Bool.or_eq_true, hle, hle]
        by_cases h : lt y.1 x.1
        · exact .inr (lt_asymm y.2 x.2 h)
        · exact .inl h) (us.attachWith OkB hou)
    have hmap : ((us.attachWith OkB hou).mergeSort le).map f = sortB us := by
      rw [List.map_mergeSort (s := fun x y => !(decide (cmpB y x < 0))) (fun a _ b _ => rfl), hl]; rfl
    rw [← hmap, List.pairwise_map]
    exact hs.imp fun {x y} h => ⟨x.2, y.2, (hle x y).1 h⟩
  exact (List.Pairwise.and hsorted hnd).imp fun {x y} ⟨⟨ox, oy, h⟩, hne⟩ => by
    by_cases h2 : lt x y
    · exact h2
    · exact absurd (lt_tri ox oy h2 h) hne
end Tb
/-
  SB: the keys of a map in order: the walk. No condition.
-/
namespace Tb
open Go.Sx Go
@[simp] theorem eB_tk (x : Br) (l : List AV) : (eB x ++ l).take 3 = eB x := rfl
variable {C : Cfg} (S : Std C)
include S
def OrdInv (b : Key) (rs : List En) (c : Nat) (h : T Blk) (nx : Key) (k : Nat) (tm' : T AV) (h' : T Blk) (nx' : Key) : Prop :=
  ∃ (vs : List En) (pad : List AV), k = rs.length - vs.length ∧ (∀ e ∈ vs, e ∈ rs) ∧ (vs.map Prod.fst).Nodup ∧ T.get (K 3) tm' = some (.slice nx 0 vs.length 3) ∧ T.get (K 9) tm' = some (.ptr nx.succ 0) ∧
    T.get nx h' = some (.cells (rowsA eB (vs.map Prod.snd) ++ pad) .fix) ∧ vs.length * 3 + pad.length = rs.length * 3 ∧ T.get nx.succ h' = some (.iter b c (vs.map Prod.fst)) ∧ Ext h nx h' nx' ∧ nx.succ.toNat < nx'.toNat
theorem ord_rest {b : Key} {h h1 : T Blk} {nx : Key} {rs : List En} {c : Nat} (M : MapIs b h rs c) (hb : b.toNat < nx.toNat) (hl : rs.length ≤ 1000) (ho : AllOk (rs.map Prod.snd)) {tm : T AV} (f0 : T.get (K 0) tm = some (.map b)) (f3 : T.get (K 3) tm = some (.slice nx 0 0 3)) {pad : List AV}
    (hq : T.get nx h1 = some (.cells pad .fix)) (hpad : pad.length = rs.length * 3) (e : Ext h nx h1 nx.succ) :
    wpC C (.seq (.seq (.ops branch_ordered_r2) (.block 0 (.loop branch_ordered_l0))) (.seq (.ops branch_ordered_r6) (.seq (.ops branch_ordered_r7) .ret))) (BodyP [.tmp (K 2)] fun o h' nx' => GiveSet (· ∈ rs.map Prod.snd) rs.length o ∧ Ext h nx h' nx') tm h1 nx.succ := by
  have s1 := Key.toNat_succ nx
  have s2 := Key.toNat_succ nx.succ
  have hst1 : stamped b h1 = some (encE rs, c) := (M.keep (e.g b hb)).st
  simp
  simp [branch_ordered_r2, f0, hst1]
  refine W.loopM (n := rs.length) (OrdInv b rs c h nx) ?_ ?_
  · refine ⟨[], pad, by simp, by simp, by simp, ?_, ?_, ?_, by simpa using hpad, ?_, e.trans (E0 _ _ _), by omega⟩
    · simp [f3]
    · simp
    · rw [get_lt (by omega), hq]; simp
    · rw [T.get_set_same]; simp
  · rintro k tm1 h2 nx2 ⟨vs, pad, rfl, hsub, hnd, g3, g9, hq, hpl, hit, e1, hlt⟩
    have hst2 : stamped b h2 = some (encE rs, c) := (M.keep (e1.g b hb)).st
    have hund := under_ok M.lt
    have hleft := left_ok (vs.map Prod.fst) rs
    have husn : (vs.map Prod.snd).Nodup := by
      have : ∀ (ws : List En), (∀ e ∈ ws, e ∈ rs) → (ws.map Prod.fst).Nodup → (ws.map Prod.snd).Nodup := by
        intro ws
        induction ws with
        | nil => intro _ _; simp
        | cons a ws ih =>
          intro h1 h2
          rw [List.map_cons, List.nodup_cons] at h2 ⊢
          refine ⟨fun h3 => ?_, ih (fun e he => h1 e (by simp [he])) h2.2⟩
          obtain ⟨d, hd1, hd2⟩ := List.mem_map.1 h3
          have := snd_inj M.nk (h1 d (by simp [hd1])) (h1 a (by simp)) hd2
          subst this
          exact h2.1 (List.mem_map_of_mem hd1)
      exact this vs hsub hnd
    have hvl : vs.length ≤ rs.length := by
      have := List.Nodup.length_le_of_subset husn (l₂ := rs.map Prod.snd) (fun y hy => by
        obtain ⟨d, hd1, rfl⟩ := List.mem_map.1 hy
        exact List.mem_map_of_mem (hsub d hd1))
      simpa using this
    have hrows : (rowsA eB (vs.map Prod.snd)).length = vs.length * 3 := by rw [flatB.rows, List.length_map]
    refine W.of ?_
    simp [branch_ordered_l0]
    cases hf : rs.filter (fun e => !(memS e.1 (vs.map Prod.fst))) with
    | nil =>
      rw [hf] at hleft
      have hleft : leftL (vs.map Prod.fst) (encE rs) = [] := hleft
      have hall : ∀ e ∈ rs, e ∈ vs := by
        intro e he
        have h3 : memS e.1 (vs.map Prod.fst) = true := by
          cases h4 : memS e.1 (vs.map Prod.fst) with
          | true => rfl
          | false =>
            have : e ∈ rs.filter (fun e => !(memS e.1 (vs.map Prod.fst))) := List.mem_filter.2 ⟨he, by simp [h4]⟩
            rw [hf] at this; cases this
        rw [memS_iff] at h3
        obtain ⟨d, hd1, hd2⟩ := List.mem_map.1 h3
        have := fst_inj M.nd (hsub d hd1) he hd2
        subst this; exact hd1
      have hlen : vs.length = rs.length := by
        have := List.Nodup.length_le_of_subset M.nk (l₂ := vs.map Prod.snd) (fun y hy => by
          obtain ⟨d, hd1, rfl⟩ := List.mem_map.1 hy
          exact List.mem_map_of_mem (hall d hd1))
        simp at this; omega
      have hp0 : pad = [] := List.eq_nil_of_length_eq_zero (by omega)
      subst hp0
      rw [List.append_nil] at hq
      have hmem : ∀ y, y ∈ vs.map Prod.snd ↔ y ∈ rs.map Prod.snd := fun y =>
        ⟨fun hy => by obtain ⟨d, hd1, rfl⟩ := List.mem_map.1 hy; exact List.mem_map_of_mem (hsub d hd1), fun hy => by obtain ⟨d, hd1, rfl⟩ := List.mem_map.1 hy; exact List.mem_map_of_mem (hall d hd1)⟩
      have hou : ∀ y ∈ vs.map Prod.snd, OkB y := fun y hy => ho y ((hmem y).1 hy)
      have hset := sort_set husn hmem ho
      simp [branch_ordered_r3, g9, hit, hst2, hund, hleft]
      have hsum := S.c_sort (vs.map Prod.snd) nx h2 nx2 hou (by rw [List.length_map]; omega) hq
      rw [List.length_map] at hsum
      simp [branch_ordered_r6, g3, S.rawS]
      refine .inl ⟨_, _, _, hsum, ?_⟩
      simp
      have hsl : (sortB (vs.map Prod.snd)).length = vs.length := by rw [sortB, List.length_mergeSort, List.length_map]
      have hz := frz_fix (n := 7) (b := nx) (len := vs.length) (sz := 3) (l := rowsA eB (sortB (vs.map Prod.snd))) (H := T.set nx (some (.cells (rowsA eB (sortB (vs.map Prod.snd))) .fix)) h2) (by rw [T.get_set_same]) (by rw [flatB.rows, hsl]) (flatB.stbs _)
      simp [branch_ordered_r7, g3, hz]
      refine ⟨⟨_, rfl, _, .inr (by rw [hsl]), hset.congr (by simp), by omega⟩, ?_⟩
      first | exact e1.put (Nat.le_refl _) | exact (e1.put (Nat.le_refl _)).put (Nat.le_refl _)
    | cons d r =>
      rw [hf] at hleft
      have hleft : leftL (vs.map Prod.fst) (encE rs) = (d.1, .agg (eB d.2), .bool true) :: encE r := hleft
      simp [branch_ordered_r3, g9, hit, hst2, hund, hleft]
      intro v h2' hm
      obtain ⟨s, k, w, hin, rfl, rfl⟩ := alts_mem hm
      have hin : (s, k, w) ∈ encE (d :: r) := hin
      rw [← hf] at hin
      obtain ⟨e, he, hee⟩ := List.mem_map.1 hin
      cases hee
      obtain ⟨he, hes⟩ := List.mem_filter.1 he
      have hns : e.1 ∉ vs.map Prod.fst := fun h => by rw [(memS_iff e.1 _).2 h] at hes; cases hes
      have hnd' : ((vs ++ [e]).map Prod.fst).Nodup := by
        rw [List.map_append, List.nodup_append]
        refine ⟨hnd, by simp, fun a ha b hb hab => ?_⟩
        simp at hb
        subst hb; subst hab
        exact hns ha
      have hsub' : ∀ x ∈ vs ++ [e], x ∈ rs := fun x hx => by
        rcases List.mem_append.1 hx with hx | hx
        · exact hsub x hx
        · rw [List.mem_singleton.1 hx]; exact he
      have hvl' : vs.length + 1 ≤ rs.length := by
        have := List.Nodup.length_le_of_subset hnd' (l₂ := rs.map Prod.fst) (fun y hy => by
          obtain ⟨d, hd1, rfl⟩ := List.mem_map.1 hy
          exact List.mem_map_of_mem (hsub' d hd1))
        simpa using this
      have t2 := Key.toNat_succ nx2
      have t3 := Key.toNat_succ nx2.succ
      have hst3 : stamped b (T.set nx.succ (some (.iter b c (vs.map Prod.fst ++ [e.1]))) h2) = some (encE rs, c) := (M.keep (by rw [get_lt (by omega)]; exact e1.g b hb)).st
      have hlast := lastS_app (vs.map Prod.fst) e.1
      have hfind := find_ok M.nd he
      have hz : ∀ H, frzLA (frzA 8) (eB e.2) H = (eB e.2, H) := fun H => frzLA_stb (flatB.stb _)
      simp
      simp [branch_ordered_r4, g9, hst3, hlast, hfind]
      have hq2 : T.get nx (T.set nx2.succ (some (.cells (eB e.2) .fix)) (T.set nx2 (some (.cells (eB e.2) .fix)) (T.set nx.succ (some (.iter b c (vs.map Prod.fst ++ [e.1]))) h2))) = some (.cells (rowsA eB (vs.map Prod.snd) ++ pad) .fix) := by
        rw [get_lt (by omega), get_lt (by omega), get_lt (by omega)]; exact hq
      have hfit : (vs.length + 1) * 3 ≤ (rowsA eB (vs.map Prod.snd)).length + pad.length := by rw [hrows]; omega
      have hfit2 : vs.length * 3 + 3 ≤ (rowsA eB (vs.map Prod.snd)).length + pad.length := by rw [hrows]; omega
      have hbig : vs.length + 1 ≤ 1048576 := by omega
      have hcut : List.take (vs.length * 3) (rowsA eB (vs.map Prod.snd) ++ pad) ++ (eB e.2 ++ List.drop (vs.length * 3 + 3) (rowsA eB (vs.map Prod.snd) ++ pad)) = rowsA eB ((vs ++ [e]).map Prod.snd) ++ pad.drop 3 := by
        rw [List.take_append_of_le_length (by omega), List.take_of_length_le (by omega), List.drop_append, List.drop_eq_nil_of_le (by omega), hrows, List.map_append, rowsA_app]
        simp [rowsA_one, show vs.length * 3 + 3 - vs.length * 3 = 3 by omega]
      simp [branch_ordered_r5, g3, hz, hq2, hfit, hfit2, hbig, hcut]
      refine ⟨rs.length - (vs.length + 1), by omega, ?_⟩
      unfold OrdInv
      refine ⟨vs ++ [e], pad.drop 3, by simp, hsub', hnd', ?_, ?_, ?_, ?_, ?_, ?_, by omega⟩
      · simp
      · simp [g9]
      · rw [T.get_set_same]; simp
      · rw [List.length_append, List.length_drop, List.length_singleton]; omega
      · rw [T.get_set_ne _ _ _ _ (ne_nat (by omega)), get_lt (by omega), get_lt (by omega), T.get_set_same]; simp
      · exact ((((e1.put (k := nx.succ) (by omega)).trans (E0 _ nx2 _)).trans (E0 _ nx2.succ _)).put (Nat.le_refl _))
theorem ordered_ok {b : Key} {h : T Blk} {nx : Key} {rs : List En} {c : Nat} (M : MapIs b h rs c) (hb : b.toNat < nx.toNat) (hl : rs.length ≤ 1000) (ho : AllOk (rs.map Prod.snd)) :
    CallA C n_branch_ordered [.map b] h nx (fun o h' nx' => GiveSet (· ∈ rs.map Prod.snd) rs.length o ∧ Ext h nx h' nx') := by
  have s1 := Key.toNat_succ nx
  have s2 := Key.toNat_succ nx.succ
  refine S.c_branch_ordered.call ?_
  simp [branch_ordered]
  simp [branch_ordered_r0]
  have hp : ∀ n, (repL n [AV.str 0 0, AV.int .i64 (.lit 0), AV.int .i64 (.lit 0)] []).length = n * 3 := by
    intro n
    induction n with
    | zero => rfl
    | succ n ih => rw [repL_eq] at ih ⊢; simp [List.replicate_succ] at ih ⊢; omega
  rcases M.at_ with ⟨h1, h2, h3⟩ | h1
  · simp [-repL_eq, branch_ordered_r1, h1, mp, (show rs.length ≤ 65536 by omega)]
    simpa using ord_rest S M hb hl ho (tm := (T.set (K 3) (some (.slice nx 0 0 3)) (T.set (K 7) (some (.slice nx 0 0 3)) (T.set (K 6) (some (I rs.length)) (T.set (K 5) (some (.map b)) (T.set (K 2) (some .nils) (T.set (K 0) (some (.map b)) .nil))))))) (by simp) (by simp) (by simp) (hp rs.length) (E0 h nx _)
  · simp [-repL_eq, branch_ordered_r1, h1, encE, (show rs.length ≤ 65536 by omega)]
    simpa using ord_rest S M hb hl ho (tm := (T.set (K 3) (some (.slice nx 0 0 3)) (T.set (K 7) (some (.slice nx 0 0 3)) (T.set (K 6) (some (I rs.length)) (T.set (K 5) (some (.map b)) (T.set (K 2) (some .nils) (T.set (K 0) (some (.map b)) .nil))))))) (by simp) (by simp) (by simp) (hp rs.length) (E0 h nx _)
end Tb
/-
  SB: the program's sets. No condition.
-/
namespace Tb
open Go.Sx Go
variable {C : Cfg} (S : Std C)
include S
theorem ordered_map {b : Key} {h : T Blk} {nx : Key} {r : List Br} (hb : T.get b h = some (.map (mp r))) (hr : r.Nodup) (hlt : b.toNat < nx.toNat) (hl : r.length ≤ 1000) (ho : AllOk r) :
    CallA C n_branch_ordered [.map b] h nx (fun o h' nx' => GiveSet (· ∈ r) r.length o ∧ Ext h nx h' nx') := by
  have := ordered_ok S (MapIs.of hb hr) hlt (by rw [num_len]; exact hl) (by rw [num_snd]; exact ho)
  rw [num_snd, num_len] at this
  exact this

theorem setB_ok {c : AV} {l : List Br} (hc : IsL c l) (hl : l.length ≤ 1000) (ho : AllOk l) : Pur C n_branch_Set [c] (GiveSet (· ∈ l) l.length) := by
  intro h nx
  have s1 := Key.toNat_succ nx
  have r1 : C.raw n_branch_members = false := S.raw _ (by decide)
  have r2 : C.raw n_branch_ordered = false := S.raw _ (by decide)
  have hcc := IsR.cell hc
  have hst := IsR.stb hc
  refine S.c_branch_Set.call ?_
  simp [branch_Set]
  simp [branch_Set_r0]
  have hz := frz_fix (n := 7) (b := nx) (len := 1) (sz := 1) (l := [c]) (H := T.set nx (some (.cells [c] .fix)) h) (by simp) (by simp) (by intro x hx; simp at hx; subst hx; exact hst)
  simp [branch_Set_r1, hcc, r1, hz]
  have hm := members_ok S (cs := [c]) (ls := [l]) rfl (by intro i h1 h2; have : i = 0 := by simpa using h1
                                                          subst this; exact hc) (by simpa using hl) (by simp) (T.set nx (some (.cells [c] .ro)) h) nx.succ
  refine (by simpa using hm : CallA C n_branch_members [.sl [c] 1 1 .any] _ _ _).mono ?_
  rintro o h1 nx1 ⟨b, r, rfl, hb, hnd, hmem, hlen, e1, hlo, hlt⟩
  simp [r2]
  have hlen : r.length ≤ l.length := by simpa using hlen
  have hmem : ∀ y, y ∈ r ↔ y ∈ l := by simpa using hmem
  refine (ordered_map S hb hnd hlt (by omega) (fun y hy => ho y ((hmem y).1 hy))).mono ?_
  rintro o h2 nx2 ⟨⟨c', rfl, q, hq, hset, hql⟩, e2⟩
  have hqs : ∀ n h, frzA n c' h = (c', h) := IsR.stb hq
  simp [hqs]
  exact ⟨⟨c', rfl, q, hq, hset.congr hmem, by omega⟩, (E0 h nx _).trans (e1.trans e2)⟩
theorem unionB_ok {c d : AV} {l m : List Br} (hc : IsL c l) (hd : IsL d m) (hl : l.length ≤ 500) (hml : m.length ≤ 500) (ho : AllOk l) (hom : AllOk m) : Pur C n_branch_Union [c, d] (GiveSet (fun y => y ∈ l ∨ y ∈ m) (l.length + m.length)) := by
  intro h nx
  have s1 := Key.toNat_succ nx
  have r1 : C.raw n_branch_members = false := S.raw _ (by decide)
  have r2 : C.raw n_branch_ordered = false := S.raw _ (by decide)
  have hcc := IsR.cell hc
  have hst := IsR.stb hc
  have hdc := IsR.cell hd
  have hdt := IsR.stb hd
  refine S.c_branch_Union.call ?_
  simp [branch_Union]
  simp [branch_Union_r0]
  have hz := frz_fix (n := 7) (b := nx) (len := 2) (sz := 1) (l := [c, d]) (H := T.set nx (some (.cells [c, d] .fix)) h) (by simp) (by simp) (by intro x hx; simp at hx; rcases hx with e | e <;> (rw [e]; assumption))
  simp [branch_Union_r1, hcc, hdc, r1, hz]
  have hm := members_ok S (cs := [c, d]) (ls := [l, m]) rfl (by intro i h1 h2; have : i = 0 ∨ i = 1 := by simp at h1; omega
                                                                rcases this with rfl | rfl
                                                                · exact hc
                                                                · exact hd) (by simp; omega) (by simp) (T.set nx (some (.cells [c, d] .ro)) h) nx.succ
  refine (by simpa using hm : CallA C n_branch_members [.sl [c, d] 2 1 .any] _ _ _).mono ?_
  rintro o h1 nx1 ⟨b, r, rfl, hb, hnd, hmem, hlen, e1, hlo, hlt⟩
  simp [r2]
  have hlen : r.length ≤ l.length + m.length := by simpa using hlen
  have hmem : ∀ y, y ∈ r ↔ y ∈ l ∨ y ∈ m := by simpa using hmem
  refine (ordered_map S hb hnd hlt (by omega) (fun y hy => ((hmem y).1 hy).elim (ho y) (hom y))).mono ?_
  rintro o h2 nx2 ⟨⟨c', rfl, q, hq, hset, hql⟩, e2⟩
  have hqs : ∀ n h, frzA n c' h = (c', h) := IsR.stb hq
  simp [hqs]
  exact ⟨⟨c', rfl, q, hq, hset.congr hmem, by omega⟩, (E0 h nx _).trans (e1.trans e2)⟩
/- entries taken out -/
theorem delK_ok (x : Br) : ∀ rs : List En, (rs.map Prod.snd).Nodup → delKP [] (.parts [(0, .str), (1, .int), (2, .int)]) (.agg (eB x)) (encE rs) = some (encE (rs.filter fun e => !(decide (e.2 = x))))
  | [], _ => rfl
  | e :: rs, hn => by
    rw [List.map_cons, List.nodup_cons] at hn
    have ih := delK_ok x rs hn.2
    show delKP [] _ _ ((e.1, .agg (eB e.2), .bool true) :: encE rs) = _
    simp only [delKP, eqKP_B]
    by_cases h : x = e.2
    · subst h
      have : rs.filter (fun d => !(decide (d.2 = e.2))) = rs := List.filter_eq_self.2 fun d hd => by
        have : d.2 ≠ e.2 := fun h => hn.1 (by rw [← h]; exact List.mem_map_of_mem hd)
        simp [this]
      simp [this]
    · have h2 : ¬ e.2 = x := fun e => h e.symm
      simp only [h, decide_false, ih]
      simp [encE, h2]
def MinB (c : AV) (l m : List Br) (b : Key) (h : T Blk) (nx : Key) (k : Nat) (tm' : T AV) (h' : T Blk) (nx' : Key) : Prop :=
  ∃ (j : Nat) (rs : List En) (n : Nat), k = m.length - j ∧ j ≤ m.length ∧ T.get (K 11) tm' = some c ∧ T.get (K 12) tm' = some (I m.length) ∧ T.get (K 13) tm' = some (I j) ∧ T.get (K 5) tm' = some (.map b) ∧ MapIs b h' rs n ∧ rs.length ≤ l.length ∧
    (∀ y, y ∈ rs.map Prod.snd ↔ y ∈ l ∧ y ∉ m.take j) ∧ Ext h nx h' nx' ∧ nx.toNat ≤ b.toNat ∧ b.toNat < nx'.toNat
theorem minusB_ok {c d : AV} {l m : List Br} (hc : IsL c l) (hd : IsL d m) (hl : l.length ≤ 500) (hml : m.length ≤ 500) (ho : AllOk l) : Pur C n_branch_Minus [c, d] (GiveSet (fun y => y ∈ l ∧ y ∉ m) l.length) := by
  intro h nx
  have s1 := Key.toNat_succ nx
  have r1 : C.raw n_branch_members = false := S.raw _ (by decide)
  have r2 : C.raw n_branch_ordered = false := S.raw _ (by decide)
  have hcc := IsR.cell hc
  have hst := IsR.stb hc
  refine S.c_branch_Minus.call ?_
  simp [branch_Minus]
  simp [branch_Minus_r0]
  have hz := frz_fix (n := 7) (b := nx) (len := 1) (sz := 1) (l := [c]) (H := T.set nx (some (.cells [c] .fix)) h) (by simp) (by simp) (by intro x hx; simp at hx; subst hx; exact hst)
  simp [branch_Minus_r1, hcc, r1, hz]
  have hm := members_ok S (cs := [c]) (ls := [l]) rfl (by intro i h1 h2; have : i = 0 := by simpa using h1
                                                          subst this; exact hc) (by simp; omega) (by simp) (T.set nx (some (.cells [c] .ro)) h) nx.succ
  refine (by simpa using hm : CallA C n_branch_members [.sl [c] 1 1 .any] _ _ _).mono ?_
  rintro o h1 nx1 ⟨b, r, rfl, hb, hnd, hmem, hlen, e1, hlo, hlt⟩
  have hlen : r.length ≤ l.length := by simpa using hlen
  have hmem : ∀ y, y ∈ r ↔ y ∈ l := by simpa using hmem
  have eA := (E0 h nx _).trans e1
  simp
  have fin : ∀ (tm : T AV) (h2 : T Blk) (nx2 : Key) (rs : List En) (n : Nat), T.get (K 5) tm = some (.map b) → MapIs b h2 rs n → rs.length ≤ l.length → (∀ y, y ∈ rs.map Prod.snd ↔ y ∈ l ∧ y ∉ m) → Ext h nx h2 nx2 → b.toNat < nx2.toNat →
      wpC C ((PCode.ops branch_Minus_r7).seq PCode.ret) (BodyP [RV.tmp (K 4)] fun o h' nx' => GiveSet (fun y => y ∈ l ∧ y ∉ m) l.length o ∧ Ext h nx h' nx') tm h2 nx2 := by
    intro tm h2 nx2 rs n f5 M hrl hrm e hlt2
    simp
    simp [branch_Minus_r7, f5, r2]
    refine (ordered_ok S M hlt2 (by omega) (fun y hy => ho y ((hrm y).1 hy).1)).mono ?_
    rintro o h3 nx3 ⟨⟨c', rfl, q, hq, hset, hql⟩, e2⟩
    have hqs : ∀ n h, frzA n c' h = (c', h) := IsR.stb hq
    simp [hqs]
    exact ⟨⟨c', rfl, q, hq, hset.congr hrm, by omega⟩, e.trans e2⟩
  have loop : ∀ (tm : T AV), T.get (K 11) tm = some d → T.get (K 12) tm = some (I m.length) → T.get (K 13) tm = some (I 0) → T.get (K 5) tm = some (.map b) →
      W C (.loop branch_Minus_l0) (blockPost 0 (seqPost (wpC C ((PCode.ops branch_Minus_r7).seq PCode.ret) (BodyP [RV.tmp (K 4)] fun o h' nx' => GiveSet (fun y => y ∈ l ∧ y ∉ m) l.length o ∧ Ext h nx h' nx')) (BodyP [RV.tmp (K 4)] fun o h' nx' => GiveSet (fun y => y ∈ l ∧ y ∉ m) l.length o ∧ Ext h nx h' nx'))) tm h1 nx1 := by
    intro tm f11 f12 f13 f5
    refine W.loopM (n := m.length) (MinB d l m b h nx) ?_ ?_
    · exact ⟨0, num 0 r, r.length, by simp, by omega, f11, f12, by simpa using f13, f5, MapIs.of hb hnd, by rw [num_len]; exact hlen, fun y => by rw [num_snd, hmem y]; simp, eA, by omega, hlt⟩
    · rintro k tm1 h2 nx2 ⟨j, rs, n, rfl, hj, f11, f12, f13, f5, M, hrl, hrm, e2, hlo2, hlt2⟩
      refine W.of ?_
      simp [branch_Minus_l0]
      simp [branch_Minus_r3, f12, f13]
      refine ⟨fun hjlt => ?_, fun hge => ?_⟩
      · have hjl : j < m.length := by omega
        have hds : d = .sl (rowsA eB m) m.length 3 .any := by
          rcases hd with ⟨_, rfl⟩ | h
          · simp at hjl
          · exact h
        subst hds
        have hr := flatB.rows m
        have h3 : 3 ≤ (rowsA eB m).length - j * 3 := by omega
        have ec := flatB.at hjl
        have t2 := Key.toNat_succ nx2
        have hstp : stamped b (T.set nx2 (some (.cells (eB m[j]) .fix)) h2) = some (encE rs, n) := (M.keep (by rw [get_lt hlt2])).st
        have hdel := delK_ok S m[j] rs M.nk
        simp [branch_Minus_r4, f11, f13, hjl, h3, ec]
        simp [branch_Minus_r5, f5, hstp, S.orc, hdel]
        simp [branch_Minus_r6, f13]
        refine ⟨m.length - (j + 1), by omega, ?_⟩
        unfold MinB
        refine ⟨j + 1, rs.filter fun e => !(decide (e.2 = m[j])), n, rfl, by omega, ?_, ?_, ?_, ?_, ⟨.inr (by rw [T.get_set_same]), ?_, fun e he => M.lt e (List.mem_filter.1 he).1, ?_⟩, ?_, fun y => ?_, (e2.trans (E0 h2 nx2 _)).put hlo2, hlo2, by omega⟩
        · simp [f11]
        · simp [f12]
        · simp; rw [wrap_id (by omega) (by omega)]
        · simp [f5]
        · exact M.nd.sublist (List.filter_sublist.map _)
        · exact M.nk.sublist (List.filter_sublist.map _)
        · exact Nat.le_trans (List.length_filter_le _ _) hrl
        · rw [List.take_succ_eq_append_getElem hjl, List.mem_append, List.mem_singleton, not_or, ← and_assoc, ← hrm y]
          constructor
          · intro hy
            obtain ⟨e, he, rfl⟩ := List.mem_map.1 hy
            obtain ⟨h1, h2⟩ := List.mem_filter.1 he
            exact ⟨List.mem_map_of_mem h1, by simpa using h2⟩
          · rintro ⟨hy, hne⟩
            obtain ⟨e, he, rfl⟩ := List.mem_map.1 hy
            exact List.mem_map_of_mem (List.mem_filter.2 ⟨he, by simpa using hne⟩)
      · have hjl : j = m.length := by omega
        rw [hjl, List.take_length] at hrm
        simpa using fin (T.set (K 14) (some (.bool (decide (j < m.length)))) tm1) h2 nx2 rs n (by simp [f5]) M hrl hrm e2 hlt2
  have hd2 := hd
  rcases hd2 with ⟨q1, q2⟩ | q1
  · simp [branch_Minus_r2, q1]
    refine loop _ ?_ ?_ ?_ ?_
    · simp [q1]
    · simp [q2]
    · simp
    · simp
  · simp [branch_Minus_r2, q1]
    refine loop _ ?_ ?_ ?_ ?_
    · simp [q1]
    · simp
    · simp
    · simp
end Tb
