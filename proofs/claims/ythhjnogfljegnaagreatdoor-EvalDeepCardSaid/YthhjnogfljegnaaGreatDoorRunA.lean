/-
 SV: closed runs. No condition.
-/
import Derived.Test.YthhjnogfljegnaaGreatDoorOk
import Derived.Test.YthhjnogfljegnaaGreatDoorVBase
import Derived.KernelRfl
set_option linter.unusedSimpArgs false
set_option linter.unusedVariables false
set_option linter.unusedSectionVars false
namespace Tz
open Go.Sx Go Go.Proofs
theorem run_res0 : outV (runA (mkCfg fnsX []) 200000 ⟨enterFr 246 (fx 246) [(.str 1 102)], [], heap0, k40⟩) = some (246, (.bool false)) := by kernel_rfl
theorem run_res1 : outV (runA (mkCfg fnsX []) 200000 ⟨enterFr 246 (fx 246) [(.str 1 120)], [], heap0, k40⟩) = some (246, (.bool false)) := by kernel_rfl
theorem run_res2 : outV (runA (mkCfg fnsX []) 200000 ⟨enterFr 246 (fx 246) [(.str 1 103)], [], heap0, k40⟩) = some (246, (.bool false)) := by kernel_rfl
theorem run_res3 : outV (runA (mkCfg fnsX []) 200000 ⟨enterFr 246 (fx 246) [(.str 1 118)], [], heap0, k40⟩) = some (246, (.bool false)) := by kernel_rfl
theorem run_res4 : outV (runA (mkCfg fnsX []) 200000 ⟨enterFr 246 (fx 246) [(.str 4 1752397168)], [], heap0, k40⟩) = some (246, (.bool false)) := by kernel_rfl
theorem run_res5 : outV (runA (mkCfg fnsX []) 200000 ⟨enterFr 246 (fx 246) [(.str 2 29793)], [], heap0, k40⟩) = some (246, (.bool false)) := by kernel_rfl
theorem run_res6 : outV (runA (mkCfg fnsX []) 200000 ⟨enterFr 246 (fx 246) [(.str 3 7889261)], [], heap0, k40⟩) = some (246, (.bool false)) := by kernel_rfl
def tRes0 : List (Nat × List AV × AV) := (246, [(.str 1 102)], .bool false) :: []
theorem okRes0 (ρ : Nat → Int) : TabOk Tryz.prog ρ heap0 tRes0 := tab_cons fns_build fns_ok mix (show TabOk _ _ _ [] from trivial) (show TabOk _ _ _ [] from trivial) (okx (n := 246) (by kernel_rfl)) (by kernel_rfl) (by kernel_rfl) few run_res0
def tRes1 : List (Nat × List AV × AV) := (246, [(.str 1 120)], .bool false) :: tRes0
theorem okRes1 (ρ : Nat → Int) : TabOk Tryz.prog ρ heap0 tRes1 := tab_cons fns_build fns_ok mix (show TabOk _ _ _ [] from trivial) (okRes0 ρ) (okx (n := 246) (by kernel_rfl)) (by kernel_rfl) (by kernel_rfl) few run_res1
def tRes2 : List (Nat × List AV × AV) := (246, [(.str 1 103)], .bool false) :: tRes1
theorem okRes2 (ρ : Nat → Int) : TabOk Tryz.prog ρ heap0 tRes2 := tab_cons fns_build fns_ok mix (show TabOk _ _ _ [] from trivial) (okRes1 ρ) (okx (n := 246) (by kernel_rfl)) (by kernel_rfl) (by kernel_rfl) few run_res2
def tRes3 : List (Nat × List AV × AV) := (246, [(.str 1 118)], .bool false) :: tRes2
theorem okRes3 (ρ : Nat → Int) : TabOk Tryz.prog ρ heap0 tRes3 := tab_cons fns_build fns_ok mix (show TabOk _ _ _ [] from trivial) (okRes2 ρ) (okx (n := 246) (by kernel_rfl)) (by kernel_rfl) (by kernel_rfl) few run_res3
def tRes4 : List (Nat × List AV × AV) := (246, [(.str 4 1752397168)], .bool false) :: tRes3
theorem okRes4 (ρ : Nat → Int) : TabOk Tryz.prog ρ heap0 tRes4 := tab_cons fns_build fns_ok mix (show TabOk _ _ _ [] from trivial) (okRes3 ρ) (okx (n := 246) (by kernel_rfl)) (by kernel_rfl) (by kernel_rfl) few run_res4
def tRes5 : List (Nat × List AV × AV) := (246, [(.str 2 29793)], .bool false) :: tRes4
theorem okRes5 (ρ : Nat → Int) : TabOk Tryz.prog ρ heap0 tRes5 := tab_cons fns_build fns_ok mix (show TabOk _ _ _ [] from trivial) (okRes4 ρ) (okx (n := 246) (by kernel_rfl)) (by kernel_rfl) (by kernel_rfl) few run_res5
def tRes6 : List (Nat × List AV × AV) := (246, [(.str 3 7889261)], .bool false) :: tRes5
theorem okRes6 (ρ : Nat → Int) : TabOk Tryz.prog ρ heap0 tRes6 := tab_cons fns_build fns_ok mix (show TabOk _ _ _ [] from trivial) (okRes5 ρ) (okx (n := 246) (by kernel_rfl)) (by kernel_rfl) (by kernel_rfl) few run_res6
abbrev tRes := tRes6
theorem okRes (ρ : Nat → Int) : TabOk Tryz.prog ρ heap0 tRes := okRes6 ρ
def tx0 : AV := (.str 131 696994655600711251863350603147181502049382055069877027011167759800228549011835644302093330968706677775704809904878582924592340509927923012903415777914475908224704194709199436454265250310816353445652669210089657972330238685439589420003411593357777065473607556445148464603720018095075709402804145787957372761307772262)
def vP0 : AV := (.tuple [(.agg [(.sl [(I 1), (.str 1 102), (I 4), .nils, (.sl [(.str 1 120), (I 0), (.str 0 0), .nils] 1 4 .any), (I 0), (.str 0 0), .nils, (I 6), (.str 0 0), (I 0), .nils, .nils, (.sl [(I 9), (.str 1 60), (I 0), .nils, .nils, (.sl [(I 2), (.str 1 120), (I 0), .nils, .nils, .nils, (I 24), (I 0), (.str 0 0), (I 1), .nils, .nils, .nils, (I 28)] 2 7 .any), (I 24), (I 0), (.str 0 0), (I 0), .nils, .nils, .nils, (I 35), (I 9), (.str 1 43), (I 0), .nils, .nils, (.sl [(I 0), (.str 0 0), (I 1), .nils, .nils, .nils, (I 42), (I 3), (.str 1 102), (I 0), .nils, .nils, (.sl [(I 9), (.str 1 45), (I 0), .nils, .nils, (.sl [(I 2), (.str 1 120), (I 0), .nils, .nils, .nils, (I 48), (I 0), (.str 0 0), (I 1), .nils, .nils, .nils, (I 52)] 2 7 .any), (I 48)] 1 7 .any), (I 46)] 2 7 .any), (I 42)] 3 7 .any), (I 21), (I 0), (I 0), (.str 0 0), .nils, .nils, .nils, (I 0), .nils, .nils, .nils, .nils, (I 0), (.str 0 0), .nils, (I 0), (.str 0 0), (I 0), .nils, .nils, .nils, (I 0), .nils, .nils, (I 0), (.str 0 0), (I 0), .nils, .nils, .nils, (I 0), (I 1), (.str 1 103), (I 60), .nils, (.sl [(.str 1 120), (I 0), (.str 0 0), .nils, (.str 1 118), (I 2), (.str 0 0), (.sl [(I 0), (.str 0 0), .nils] 1 3 .any)] 2 4 .any), (I 2), (.str 0 0), (.sl [(I 0), (.str 0 0), .nils] 1 3 .any), (I 6), (.str 0 0), (I 0), .nils, .nils, (.sl [(I 9), (.str 1 60), (I 0), .nils, .nils, (.sl [(I 2), (.str 1 120), (I 0), .nils, .nils, .nils, (I 92), (I 0), (.str 0 0), (I 1), .nils, .nils, .nils, (I 96)] 2 7 .any), (I 92), (I 2), (.str 1 118), (I 0), .nils, .nils, .nils, (I 103), (I 3), (.str 1 103), (I 0), .nils, .nils, (.sl [(I 9), (.str 1 45), (I 0), .nils, .nils, (.sl [(I 2), (.str 1 120), (I 0), .nils, .nils, .nils, (I 112), (I 0), (.str 0 0), (I 1), .nils, .nils, .nils, (I 116)] 2 7 .any), (I 112), (I 3), (.str 4 1752397168), (I 0), .nils, .nils, (.sl [(I 2), (.str 1 118), (I 0), .nils, .nils, .nils, (I 124), (I 2), (.str 1 120), (I 0), .nils, .nils, .nils, (I 127)] 2 7 .any), (I 119)] 2 7 .any), (I 110)] 3 7 .any), (I 89), (I 0), (I 0), (.str 0 0), .nils, .nils, .nils, (I 0), .nils, .nils, .nils, .nils, (I 0), (.str 0 0), .nils, (I 0), (.str 0 0), (I 0), .nils, .nils, .nils, (I 0), .nils, .nils, (I 0), (.str 0 0), (I 0), .nils, .nils, .nils, (I 0)] 2 45 .any)]), (I 0), (I 0)])
def tx1 : AV := (.str 10 194523234615091333920112)
def vP1 : AV := (.tuple [(.agg [(I 3), (.str 4 1752397168), (I 0), .nils, .nils, (.sl [(I 2), (.str 1 118), (I 0), .nils, .nils, .nils, (I 5), (I 0), (.str 0 0), (I 1), .nils, .nils, .nils, (I 8)] 2 7 .any), (I 0)]), (I 0), (I 0)])
def tx2 : AV := (.str 34 1426604426936969834043278272389942903431154044779787788643790660628100077697656425)
def vP2 : AV := (.tuple [(.agg [(I 6), (.str 0 0), (I 0), .nils, .nils, (.sl [(I 9), (.str 1 60), (I 0), .nils, .nils, (.sl [(I 0), (.str 0 0), (I 1), .nils, .nils, .nils, (I 3), (I 0), (.str 0 0), (I 2), .nils, .nils, .nils, (I 7)] 2 7 .any), (I 3), (I 3), (.str 2 29793), (I 0), .nils, .nils, (.sl [(I 5), (.str 0 0), (I 0), .nils, .nils, (.sl [(I 0), (.str 0 0), (I 5), .nils, .nils, .nils, (I 18), (I 0), (.str 0 0), (I 6), .nils, .nils, .nils, (I 21)] 2 7 .any), (I 17), (I 0), (.str 0 0), (I 1), .nils, .nils, .nils, (I 25)] 2 7 .any), (I 14), (I 0), (.str 0 0), (I 0), .nils, .nils, .nils, (I 33)] 3 7 .any), (I 0)]), (I 0), (I 0)])
def tx3 : AV := (.str 10 194523234587659154781281)
def vP3 : AV := (.tuple [(.agg [(I 3), (.str 2 29793), (I 0), .nils, .nils, (.sl [(I 5), (.str 0 0), (I 0), .nils, .nils, (.sl [(I 0), (.str 0 0), (I 5), .nils, .nils, .nils, (I 4)] 1 7 .any), (I 3), (I 0), (.str 0 0), (I 1), .nils, .nils, .nils, (I 8)] 2 7 .any), (I 0)]), (I 0), (I 0)])
def tx4 : AV := (.str 8 7310875413187338289)
def vP4 : AV := (.tuple [(.agg [(I 9), (.str 1 43), (I 0), .nils, .nils, (.sl [(I 0), (.str 0 0), (I 1), .nils, .nils, .nils, (I 0), (I 1), (.str 0 0), (I 1), .nils, .nils, .nils, (I 4)] 2 7 .any), (I 0)]), (I 0), (I 0)])
def tx5 : AV := (.str 9 759928442512886751597)
def vP5 : AV := (.tuple [(.agg [(I 3), (.str 3 7889261), (I 0), .nils, .nils, (.sl [(I 0), (.str 0 0), (I 1), .nils, .nils, .nils, (I 4), (I 0), (.str 0 0), (I 2), .nils, .nils, .nils, (I 7)] 2 7 .any), (I 0)]), (I 0), (I 0)])
end Tz
