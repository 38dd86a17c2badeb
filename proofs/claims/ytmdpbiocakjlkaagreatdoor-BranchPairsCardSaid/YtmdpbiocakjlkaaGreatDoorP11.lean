/- A part of the proof. No condition. -/
import Derived.Test.YtmdpbiocakjlkaaGreatDoorP10
import Derived.KernelRfl
set_option linter.unusedSimpArgs false
set_option linter.unusedVariables false
set_option linter.unusedSectionVars false
namespace Tb
open Go.Sx Go Go.Proofs
def txP:AV:=(.str 64 3115679824701129967522656243985967920475068053078997496831951264638921915014979884218804371557469111834343506050816234977305470709929625967351345837929830)
def vP:AV:=(.tuple [(.agg [(.sl [(I 1),(.str 1 102),(I 4),.nils,(.sl [(.str 1 120),(I 0),(.str 0 0),.nils] 1 4 .any),(I 0),(.str 0 0),.nils,(I 6),(.str 0 0),(I 0),.nils,.nils,(.sl [(I 9),(.str 1 60),(I 0),.nils,.nils,(.sl [(I 2),(.str 1 120),(I 0),.nils,.nils,.nils,(I 24),(I 0),(.str 0 0),(I 0),.nils,.nils,.nils,(I 28)] 2 7 .any),(I 24),(I 3),(.str 1 103),(I 0),.nils,.nils,(.sl [(I 2),(.str 1 120),(I 0),.nils,.nils,.nils,(I 37)] 1 7 .any),(I 35),(I 8),(.str 0 0),(I 0),(.sl [(.str 1 65)] 1 1 .any),(.sl [.nils] 1 1 .any),(.sl [(I 2),(.str 1 120),(I 0),.nils,.nils,.nils,(I 51),(I 0),(.str 0 0),(I 1),.nils,.nils,.nils,(I 60)] 2 7 .any),(I 45)] 3 7 .any),(I 21),(I 0),(I 0),(.str 0 0),.nils,.nils,.nils,(I 0),.nils,.nils,.nils,.nils,(I 0),(.str 0 0),.nils,(I 0),(.str 0 0),(I 0),.nils,.nils,.nils,(I 0),.nils,.nils,(I 0),(.str 0 0),(I 0),.nils,.nils,.nils,(I 0)] 1 45 .any)]),(I 0),(I 0)])
theorem av7:ana (Tt (ahe ajp []) 200000 ⟨mn 34 (fx 34) [txP],[],heap0,jv⟩)=some (34,vP):=by kernel_rfl
def tP:List (Nat×List AV×AV):=[(34,[txP],vP)]
theorem okP(ρ:Nat→Int):IT Tryz.prog ρ heap0 tP:=akK Rj abS mix (show IT _ _ _ [] from trivial) (show IT _ _ _ [] from trivial) (okx (n:=34) (by kernel_rfl)) (by kernel_rfl) (by kernel_rfl) few av7
end Tb
