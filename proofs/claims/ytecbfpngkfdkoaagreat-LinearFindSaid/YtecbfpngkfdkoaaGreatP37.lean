/- A part of the proof. No condition. -/
import Derived.Test.YtecbfpngkfdkoaaGreatP36
set_option linter.unusedSimpArgs false
set_option linter.unusedVariables false
set_option linter.unusedSectionVars false
namespace Ln
open Go.Sx Go
theorem YJ{L:List (Cf St)}(x:Cf St):x∈mj L↔x∈L:=by unfold mj;exact List.mem_mergeSort
theorem ac4(s t:St):jA s t≤0∨jA t s≤0:=by
 by_cases h:jA s t≤0
 ·exact .inl h
 ·right;have:jA t s<0:=(CP _ _).2 (by show 0<jA s t;omega);omega
theorem atB{a b c:St}(h:jA a b≤0)(k:jA b c≤0):jA a c≤0:=by
 by_cases h0:jA a b=0
 ·rw[vE.1 h0];exact k
 ·by_cases k0:jA b c=0
  ·rw[←vE.1 k0];exact h
  ·have:=ER (l:=sL a) (m:=sL b) (n:=sL c) (by show jA a b<0;omega) (by show jA b c<0;omega);exact Int.le_of_lt this
theorem aqr{L:List (Cf St)}(hn:L.Nodup):(mj L).Pairwise NJ:=by
 have h1:(mj L).Pairwise fun a b=>decide (a.1<b.1∨a.1=b.1∧jA a.2 b.2≤0)=true:=by
  unfold mj;refine List.pairwise_mergeSort (fun a b c h k=>?_) (fun a b=>?_) L
  ·rw[decide_eq_true_eq]at h k ⊢;rcases h with h|⟨h,h2⟩<;>rcases k with k|⟨k,k2⟩
   ·exact .inl (by omega)
   ·exact .inl (by omega)
   ·exact .inl (by omega)
   ·exact .inr ⟨by omega,atB h2 k2⟩
  ·rw[Bool.or_eq_true,decide_eq_true_eq,decide_eq_true_eq];rcases Nat.lt_trichotomy a.1 b.1 with h|h|h
   ·exact .inl (.inl h)
   ·rcases ac4 a.2 b.2 with k|k
    ·exact .inl (.inr ⟨h,k⟩)
    ·exact .inr (.inr ⟨h.symm,k⟩)
   ·exact .inr (.inl h)
 have h2:(mj L).Nodup:=(List.mergeSort_perm L _).nodup_iff.2 hn;refine(h1.and h2).imp fun {a b} ⟨h,bX⟩=>?_;rw[decide_eq_true_eq]at h;rcases h with h|⟨h,k⟩
 ·exact .inl h
 ·refine .inr ⟨h,?_⟩;have:jA a.2 b.2≠0:=fun e=>bX (Prod.ext h (vE.1 e));omega
end Ln
