/-
  SB: closed runs. No condition.
-/
import Derived.Test.YtdghbgpolijpcaaGreatDoorRunA
import Derived.Test.YtdghbgpolijpcaaGreatDoorGAll
import Derived.KernelRfl
set_option linter.unusedSimpArgs false
set_option linter.unusedVariables false
set_option linter.unusedSectionVars false
namespace Tb
open Go.Sx Go Go.Proofs
noncomputable def CR : Cfg := ⟨[], fnsX, sumT tP, fun f => Nat.beq f 61 || Nat.beq f 76 || Nat.beq f 119, fun _ => false⟩
theorem ctxR {ρ : Nat → Int} (w0 : W0) (hL : LaidW Tryz.prog heap0 w0) : Ctx Tryz.prog ρ w0 CR :=
  have X := ctx_of fns_build fns_ok mix (okP ρ) w0 hL
  ⟨X.sum, X.has, X.orc, X.fns, X.mix⟩
theorem run_L : allA CR 18 (.bool true) 200000 6 ⟨enterFr 18 (fx 18) [], [], heap0, k40⟩ = true := by kernel_rfl
theorem sumL (ρ : Nat → Int) : ∀ w0 : W0, LaidW Tryz.prog heap0 w0 → ∀ H nx, SumOk Tryz.prog ρ w0 18 [] H nx (.bool true) H nx := sum_all (fun w0 hL => ctxR w0 hL) (okx (n := 18) (by kernel_rfl)) (by kernel_rfl) (by kernel_rfl) few run_L
end Tb
