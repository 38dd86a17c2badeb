/- A part of the proof. No condition. -/
import Derived.Test.YtmdpbiocakjlkaaGreatDoorP11
import Derived.Test.YtmdpbiocakjlkaaGreatDoorP12
import Derived.KernelRfl
set_option linter.unusedSimpArgs false
set_option linter.unusedVariables false
set_option linter.unusedSectionVars false
namespace Tb
open Go.Sx Go Go.Proofs
noncomputable def CR:cU:=⟨[],ajp,ah6 tP,fun f=>Nat.beq f 29||Nat.beq f 69||Nat.beq f 122,fun _=>false⟩
theorem aHY{ρ:Nat→Int}(w0:Go.Sx.W0)(hL:qE Tryz.prog heap0 w0):Ctx Tryz.prog ρ w0 CR:=
 have X:=abR Rj abS mix (okP ρ) w0 hL
 ⟨X.sum,X.has,X.orc,X.fns,X.mix⟩
theorem ay8:anl CR 12 (.bool true) 200000 6 ⟨mn 12 (fx 12) [],[],heap0,jv⟩=true:=by kernel_rfl
theorem aAs(ρ:Nat→Int):∀ w0:Go.Sx.W0,qE Tryz.prog heap0 w0→∀ H nx,Wp Tryz.prog ρ w0 12 [] H nx (.bool true) H nx:=anm (fun w0 hL=>aHY w0 hL) (okx (n:=12) (by kernel_rfl)) (by kernel_rfl) (by kernel_rfl) few ay8
end Tb
