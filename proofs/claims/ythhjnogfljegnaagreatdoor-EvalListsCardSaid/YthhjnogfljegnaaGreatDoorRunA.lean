/-
  SV: closed runs. No condition.
-/
import Derived.Test.YthhjnogfljegnaaGreatDoorOk
import Derived.Test.YthhjnogfljegnaaGreatDoorVBase
import Derived.KernelRfl
set_option linter.unusedSimpArgs false
set_option linter.unusedVariables false
set_option linter.unusedSectionVars false
namespace Tz
open Go.Sx Go Go.Proofs
theorem run_res0 : outV (runA (mkCfg fns []) 200000 ⟨enterFr n_parser_isReserved parser_isReserved [(.str 4 1702521203)], [], heap0, k40⟩) = some (n_parser_isReserved, (.bool false)) := by kernel_rfl
theorem run_res1 : outV (runA (mkCfg fns []) 200000 ⟨enterFr n_parser_isReserved parser_isReserved [(.str 2 29793)], [], heap0, k40⟩) = some (n_parser_isReserved, (.bool false)) := by kernel_rfl
theorem run_res2 : outV (runA (mkCfg fns []) 200000 ⟨enterFr n_parser_isReserved parser_isReserved [(.str 4 1752397168)], [], heap0, k40⟩) = some (n_parser_isReserved, (.bool false)) := by kernel_rfl
theorem run_res3 : outV (runA (mkCfg fns []) 200000 ⟨enterFr n_parser_isReserved parser_isReserved [(.str 4 1701536116)], [], heap0, k40⟩) = some (n_parser_isReserved, (.bool false)) := by kernel_rfl
theorem run_res4 : outV (runA (mkCfg fns []) 200000 ⟨enterFr n_parser_isReserved parser_isReserved [(.str 4 1886351972)], [], heap0, k40⟩) = some (n_parser_isReserved, (.bool false)) := by kernel_rfl
theorem run_res5 : outV (runA (mkCfg fns []) 200000 ⟨enterFr n_parser_isReserved parser_isReserved [(.str 3 7628147)], [], heap0, k40⟩) = some (n_parser_isReserved, (.bool false)) := by kernel_rfl
theorem run_res6 : outV (runA (mkCfg fns []) 200000 ⟨enterFr n_parser_isReserved parser_isReserved [(.str 3 7889261)], [], heap0, k40⟩) = some (n_parser_isReserved, (.bool false)) := by kernel_rfl
theorem run_res7 : outV (runA (mkCfg fns []) 200000 ⟨enterFr n_parser_isReserved parser_isReserved [(.str 3 7235949)], [], heap0, k40⟩) = some (n_parser_isReserved, (.bool false)) := by kernel_rfl
theorem run_res8 : outV (runA (mkCfg fns []) 200000 ⟨enterFr n_parser_isReserved parser_isReserved [(.str 1 118)], [], heap0, k40⟩) = some (n_parser_isReserved, (.bool false)) := by kernel_rfl
theorem run_res9 : outV (runA (mkCfg fns []) 200000 ⟨enterFr n_parser_isReserved parser_isReserved [(.str 1 105)], [], heap0, k40⟩) = some (n_parser_isReserved, (.bool false)) := by kernel_rfl
theorem run_res10 : outV (runA (mkCfg fns []) 200000 ⟨enterFr n_parser_isReserved parser_isReserved [(.str 1 120)], [], heap0, k40⟩) = some (n_parser_isReserved, (.bool false)) := by kernel_rfl
def tRes0 : List (Nat × List AV × AV) := (n_parser_isReserved, [(.str 4 1702521203)], .bool false) :: []
theorem okRes0 (ρ : Nat → Int) : TabOk Tryz.prog ρ heap0 tRes0 := tab_cons fns_build fns_ok mix (show TabOk _ _ _ [] from trivial) (show TabOk _ _ _ [] from trivial) ok_parser_isReserved (by kernel_rfl) (by kernel_rfl) few run_res0
def tRes1 : List (Nat × List AV × AV) := (n_parser_isReserved, [(.str 2 29793)], .bool false) :: tRes0
theorem okRes1 (ρ : Nat → Int) : TabOk Tryz.prog ρ heap0 tRes1 := tab_cons fns_build fns_ok mix (show TabOk _ _ _ [] from trivial) (okRes0 ρ) ok_parser_isReserved (by kernel_rfl) (by kernel_rfl) few run_res1
def tRes2 : List (Nat × List AV × AV) := (n_parser_isReserved, [(.str 4 1752397168)], .bool false) :: tRes1
theorem okRes2 (ρ : Nat → Int) : TabOk Tryz.prog ρ heap0 tRes2 := tab_cons fns_build fns_ok mix (show TabOk _ _ _ [] from trivial) (okRes1 ρ) ok_parser_isReserved (by kernel_rfl) (by kernel_rfl) few run_res2
def tRes3 : List (Nat × List AV × AV) := (n_parser_isReserved, [(.str 4 1701536116)], .bool false) :: tRes2
theorem okRes3 (ρ : Nat → Int) : TabOk Tryz.prog ρ heap0 tRes3 := tab_cons fns_build fns_ok mix (show TabOk _ _ _ [] from trivial) (okRes2 ρ) ok_parser_isReserved (by kernel_rfl) (by kernel_rfl) few run_res3
def tRes4 : List (Nat × List AV × AV) := (n_parser_isReserved, [(.str 4 1886351972)], .bool false) :: tRes3
theorem okRes4 (ρ : Nat → Int) : TabOk Tryz.prog ρ heap0 tRes4 := tab_cons fns_build fns_ok mix (show TabOk _ _ _ [] from trivial) (okRes3 ρ) ok_parser_isReserved (by kernel_rfl) (by kernel_rfl) few run_res4
def tRes5 : List (Nat × List AV × AV) := (n_parser_isReserved, [(.str 3 7628147)], .bool false) :: tRes4
theorem okRes5 (ρ : Nat → Int) : TabOk Tryz.prog ρ heap0 tRes5 := tab_cons fns_build fns_ok mix (show TabOk _ _ _ [] from trivial) (okRes4 ρ) ok_parser_isReserved (by kernel_rfl) (by kernel_rfl) few run_res5
def tRes6 : List (Nat × List AV × AV) := (n_parser_isReserved, [(.str 3 7889261)], .bool false) :: tRes5
theorem okRes6 (ρ : Nat → Int) : TabOk Tryz.prog ρ heap0 tRes6 := tab_cons fns_build fns_ok mix (show TabOk _ _ _ [] from trivial) (okRes5 ρ) ok_parser_isReserved (by kernel_rfl) (by kernel_rfl) few run_res6
def tRes7 : List (Nat × List AV × AV) := (n_parser_isReserved, [(.str 3 7235949)], .bool false) :: tRes6
theorem okRes7 (ρ : Nat → Int) : TabOk Tryz.prog ρ heap0 tRes7 := tab_cons fns_build fns_ok mix (show TabOk _ _ _ [] from trivial) (okRes6 ρ) ok_parser_isReserved (by kernel_rfl) (by kernel_rfl) few run_res7
def tRes8 : List (Nat × List AV × AV) := (n_parser_isReserved, [(.str 1 118)], .bool false) :: tRes7
theorem okRes8 (ρ : Nat → Int) : TabOk Tryz.prog ρ heap0 tRes8 := tab_cons fns_build fns_ok mix (show TabOk _ _ _ [] from trivial) (okRes7 ρ) ok_parser_isReserved (by kernel_rfl) (by kernel_rfl) few run_res8
def tRes9 : List (Nat × List AV × AV) := (n_parser_isReserved, [(.str 1 105)], .bool false) :: tRes8
theorem okRes9 (ρ : Nat → Int) : TabOk Tryz.prog ρ heap0 tRes9 := tab_cons fns_build fns_ok mix (show TabOk _ _ _ [] from trivial) (okRes8 ρ) ok_parser_isReserved (by kernel_rfl) (by kernel_rfl) few run_res9
def tRes10 : List (Nat × List AV × AV) := (n_parser_isReserved, [(.str 1 120)], .bool false) :: tRes9
theorem okRes10 (ρ : Nat → Int) : TabOk Tryz.prog ρ heap0 tRes10 := tab_cons fns_build fns_ok mix (show TabOk _ _ _ [] from trivial) (okRes9 ρ) ok_parser_isReserved (by kernel_rfl) (by kernel_rfl) few run_res10
abbrev tRes := tRes10
theorem okRes (ρ : Nat → Int) : TabOk Tryz.prog ρ heap0 tRes := okRes10 ρ
def tx0 : AV := (.str 46 97374224882434541209871718424413977988937811362023151289937728038869551708649305276866461130573144515654871411)
def vE0 : List AV := [(I 9), (.str 2 15677), (I 0), .nils, .nils, (.sl [(I 9), (.str 1 43), (I 0), .nils, .nils, (.sl [(I 3), (.str 4 1702521203), (I 0), .nils, .nils, (.sl [(I 3), (.str 4 1701536116), (I 0), .nils, .nils, (.sl [(I 2), (.str 1 118), (I 0), .nils, .nils, .nils, (I 10), (I 2), (.str 1 105), (I 0), .nils, .nils, .nils, (I 13)] 2 7 .any), (I 5)] 1 7 .any), (I 0), (I 3), (.str 4 1702521203), (I 0), .nils, .nils, (.sl [(I 3), (.str 4 1886351972), (I 0), .nils, .nils, (.sl [(I 2), (.str 1 118), (I 0), .nils, .nils, .nils, (I 29), (I 2), (.str 1 105), (I 0), .nils, .nils, .nils, (I 32)] 2 7 .any), (I 24)] 1 7 .any), (I 19)] 2 7 .any), (I 0), (I 3), (.str 4 1702521203), (I 0), .nils, .nils, (.sl [(I 2), (.str 1 118), (I 0), .nils, .nils, .nils, (I 44)] 1 7 .any), (I 39)] 2 7 .any), (I 0)]
def vP0 : AV := .tuple [.agg vE0, .int .i64 (.lit 0), .int .i64 (.lit 0)]
def tx1 : AV := (.str 28 12650737443597917958437542964733854709044067166363511835652700796001)
def vE1 : List AV := [(I 9), (.str 2 15677), (I 0), .nils, .nils, (.sl [(I 3), (.str 2 29793), (I 0), .nils, .nils, (.sl [(I 3), (.str 4 1752397168), (I 0), .nils, .nils, (.sl [(I 2), (.str 1 118), (I 0), .nils, .nils, .nils, (I 8), (I 2), (.str 1 120), (I 0), .nils, .nils, .nils, (I 11)] 2 7 .any), (I 3), (I 3), (.str 4 1702521203), (I 0), .nils, .nils, (.sl [(I 2), (.str 1 118), (I 0), .nils, .nils, .nils, (I 20)] 1 7 .any), (I 15)] 2 7 .any), (I 0), (I 2), (.str 1 120), (I 0), .nils, .nils, .nils, (I 27)] 2 7 .any), (I 0)]
def vP1 : AV := .tuple [.agg vE1, .int .i64 (.lit 0), .int .i64 (.lit 0)]
def tx2 : AV := (.str 30 815275236410052023749293304012243851307009767870458338551010350668145012)
def vE2 : List AV := [(I 9), (.str 2 15677), (I 0), .nils, .nils, (.sl [(I 3), (.str 4 1701536116), (I 0), .nils, .nils, (.sl [(I 3), (.str 4 1752397168), (I 0), .nils, .nils, (.sl [(I 2), (.str 1 118), (I 0), .nils, .nils, .nils, (I 10), (I 2), (.str 1 120), (I 0), .nils, .nils, .nils, (I 13)] 2 7 .any), (I 5), (I 3), (.str 4 1702521203), (I 0), .nils, .nils, (.sl [(I 2), (.str 1 118), (I 0), .nils, .nils, .nils, (I 22)] 1 7 .any), (I 17)] 2 7 .any), (I 0), (I 2), (.str 1 118), (I 0), .nils, .nils, .nils, (I 29)] 2 7 .any), (I 0)]
def vP2 : AV := .tuple [.agg vE2, .int .i64 (.lit 0), .int .i64 (.lit 0)]
def tx3 : AV := (.str 43 5761853783101268981629528510573905213495612020429567053855428642936162916887273489864787307962528590195)
def vE3 : List AV := [(I 9), (.str 2 15677), (I 0), .nils, .nils, (.sl [(I 3), (.str 4 1702521203), (I 0), .nils, .nils, (.sl [(I 3), (.str 4 1701536116), (I 0), .nils, .nils, (.sl [(I 2), (.str 1 118), (I 0), .nils, .nils, .nils, (I 10), (I 2), (.str 1 105), (I 0), .nils, .nils, .nils, (I 13)] 2 7 .any), (I 5)] 1 7 .any), (I 0), (I 3), (.str 3 7889261), (I 0), .nils, .nils, (.sl [(I 0), (.str 0 0), (I 0), .nils, .nils, .nils, (I 24), (I 3), (.str 3 7235949), (I 0), .nils, .nils, (.sl [(I 2), (.str 1 105), (I 0), .nils, .nils, .nils, (I 31), (I 3), (.str 4 1702521203), (I 0), .nils, .nils, (.sl [(I 2), (.str 1 118), (I 0), .nils, .nils, .nils, (I 39)] 1 7 .any), (I 34)] 2 7 .any), (I 27)] 2 7 .any), (I 20)] 2 7 .any), (I 0)]
def vP3 : AV := .tuple [.agg vE3, .int .i64 (.lit 0), .int .i64 (.lit 0)]
def tx4 : AV := (.str 8 2983951603442676833)
def vE4 : List AV := [(I 3), (.str 2 29793), (I 0), .nils, .nils, (.sl [(I 2), (.str 1 118), (I 0), .nils, .nils, .nils, (I 3), (I 2), (.str 1 105), (I 0), .nils, .nils, .nils, (I 6)] 2 7 .any), (I 0)]
def vP4 : AV := .tuple [.agg vE4, .int .i64 (.lit 0), .int .i64 (.lit 0)]
def tx5 : AV := (.str 12 12834108435988197849781527923)
def vE5 : List AV := [(I 3), (.str 3 7628147), (I 0), .nils, .nils, (.sl [(I 2), (.str 1 118), (I 0), .nils, .nils, .nils, (I 4), (I 2), (.str 1 105), (I 0), .nils, .nils, .nils, (I 7), (I 2), (.str 1 120), (I 0), .nils, .nils, .nils, (I 10)] 3 7 .any), (I 0)]
def vP5 : AV := .tuple [.agg vE5, .int .i64 (.lit 0), .int .i64 (.lit 0)]
def tx6 : AV := (.str 96 251135855324026553786943197803031369555728717746727849884543827682078597527890753702453034858574133352000825322746478679651985939152296460612328973252739040804344430667255411660017350724895373413152407300171315505426857631731446881)
def vE6 : List AV := [(I 9), (.str 3 6581857), (I 0), .nils, .nils, (.sl [(I 9), (.str 3 6581857), (I 0), .nils, .nils, (.sl [(I 9), (.str 2 15677), (I 0), .nils, .nils, (.sl [(I 3), (.str 2 29793), (I 0), .nils, .nils, (.sl [(I 3), (.str 3 7628147), (I 0), .nils, .nils, (.sl [(I 2), (.str 1 118), (I 0), .nils, .nils, .nils, (I 7), (I 2), (.str 1 105), (I 0), .nils, .nils, .nils, (I 10), (I 2), (.str 1 120), (I 0), .nils, .nils, .nils, (I 13)] 3 7 .any), (I 3), (I 2), (.str 1 105), (I 0), .nils, .nils, .nils, (I 17)] 2 7 .any), (I 0), (I 2), (.str 1 120), (I 0), .nils, .nils, .nils, (I 23)] 2 7 .any), (I 0), (I 9), (.str 2 15677), (I 0), .nils, .nils, (.sl [(I 3), (.str 2 29793), (I 0), .nils, .nils, (.sl [(I 3), (.str 4 1701536116), (I 0), .nils, .nils, (.sl [(I 2), (.str 1 118), (I 0), .nils, .nils, .nils, (I 37), (I 9), (.str 1 43), (I 0), .nils, .nils, (.sl [(I 2), (.str 1 105), (I 0), .nils, .nils, .nils, (I 40), (I 0), (.str 0 0), (I 1), .nils, .nils, .nils, (I 44)] 2 7 .any), (I 40)] 2 7 .any), (I 32), (I 2), (.str 1 105), (I 0), .nils, .nils, .nils, (I 48)] 2 7 .any), (I 29), (I 3), (.str 2 29793), (I 0), .nils, .nils, (.sl [(I 2), (.str 1 118), (I 0), .nils, .nils, .nils, (I 57), (I 2), (.str 1 105), (I 0), .nils, .nils, .nils, (I 60)] 2 7 .any), (I 54)] 2 7 .any), (I 29)] 2 7 .any), (I 0), (I 9), (.str 2 15677), (I 0), .nils, .nils, (.sl [(I 3), (.str 2 29793), (I 0), .nils, .nils, (.sl [(I 3), (.str 4 1886351972), (I 0), .nils, .nils, (.sl [(I 2), (.str 1 118), (I 0), .nils, .nils, .nils, (I 75), (I 2), (.str 1 105), (I 0), .nils, .nils, .nils, (I 78)] 2 7 .any), (I 70), (I 0), (.str 0 0), (I 0), .nils, .nils, .nils, (I 82)] 2 7 .any), (I 67), (I 3), (.str 2 29793), (I 0), .nils, .nils, (.sl [(I 2), (.str 1 118), (I 0), .nils, .nils, .nils, (I 91), (I 2), (.str 1 105), (I 0), .nils, .nils, .nils, (I 94)] 2 7 .any), (I 88)] 2 7 .any), (I 67)] 2 7 .any), (I 0)]
def vP6 : AV := .tuple [.agg vE6, .int .i64 (.lit 0), .int .i64 (.lit 0)]
def tx7 : AV := (.str 19 918522890601573934607127800886173105222349921)
def vE7 : List AV := [(I 3), (.str 2 29793), (I 0), .nils, .nils, (.sl [(I 3), (.str 3 7628147), (I 0), .nils, .nils, (.sl [(I 2), (.str 1 118), (I 0), .nils, .nils, .nils, (I 7), (I 2), (.str 1 105), (I 0), .nils, .nils, .nils, (I 10), (I 2), (.str 1 120), (I 0), .nils, .nils, .nils, (I 13)] 3 7 .any), (I 3), (I 0), (.str 0 0), (I 0), .nils, .nils, .nils, (I 17)] 2 7 .any), (I 0)]
def vP7 : AV := .tuple [.agg vE7, .int .i64 (.lit 0), .int .i64 (.lit 0)]
def tx8 : AV := (.str 19 918610002887505694853774424785675637884482657)
def vE8 : List AV := [(I 3), (.str 2 29793), (I 0), .nils, .nils, (.sl [(I 3), (.str 3 7628147), (I 0), .nils, .nils, (.sl [(I 2), (.str 1 118), (I 0), .nils, .nils, .nils, (I 7), (I 2), (.str 1 105), (I 0), .nils, .nils, .nils, (I 10), (I 2), (.str 1 120), (I 0), .nils, .nils, .nils, (I 13)] 3 7 .any), (I 3), (I 0), (.str 0 0), (I 1), .nils, .nils, .nils, (I 17)] 2 7 .any), (I 0)]
def vP8 : AV := .tuple [.agg vE8, .int .i64 (.lit 0), .int .i64 (.lit 0)]
def tx9 : AV := (.str 19 918697115173437455100421048685178170546615393)
def vE9 : List AV := [(I 3), (.str 2 29793), (I 0), .nils, .nils, (.sl [(I 3), (.str 3 7628147), (I 0), .nils, .nils, (.sl [(I 2), (.str 1 118), (I 0), .nils, .nils, .nils, (I 7), (I 2), (.str 1 105), (I 0), .nils, .nils, .nils, (I 10), (I 2), (.str 1 120), (I 0), .nils, .nils, .nils, (I 13)] 3 7 .any), (I 3), (I 0), (.str 0 0), (I 2), .nils, .nils, .nils, (I 17)] 2 7 .any), (I 0)]
def vP9 : AV := .tuple [.agg vE9, .int .i64 (.lit 0), .int .i64 (.lit 0)]
def tx10 : AV := (.str 19 918784227459369215347067672584680703208748129)
def vE10 : List AV := [(I 3), (.str 2 29793), (I 0), .nils, .nils, (.sl [(I 3), (.str 3 7628147), (I 0), .nils, .nils, (.sl [(I 2), (.str 1 118), (I 0), .nils, .nils, .nils, (I 7), (I 2), (.str 1 105), (I 0), .nils, .nils, .nils, (I 10), (I 2), (.str 1 120), (I 0), .nils, .nils, .nils, (I 13)] 3 7 .any), (I 3), (I 0), (.str 0 0), (I 3), .nils, .nils, .nils, (I 17)] 2 7 .any), (I 0)]
def vP10 : AV := .tuple [.agg vE10, .int .i64 (.lit 0), .int .i64 (.lit 0)]
def tx11 : AV := (.str 19 918871339745300975593714296484183235870880865)
def vE11 : List AV := [(I 3), (.str 2 29793), (I 0), .nils, .nils, (.sl [(I 3), (.str 3 7628147), (I 0), .nils, .nils, (.sl [(I 2), (.str 1 118), (I 0), .nils, .nils, .nils, (I 7), (I 2), (.str 1 105), (I 0), .nils, .nils, .nils, (I 10), (I 2), (.str 1 120), (I 0), .nils, .nils, .nils, (I 13)] 3 7 .any), (I 3), (I 0), (.str 0 0), (I 4), .nils, .nils, .nils, (I 17)] 2 7 .any), (I 0)]
def vP11 : AV := .tuple [.agg vE11, .int .i64 (.lit 0), .int .i64 (.lit 0)]
def tx12 : AV := (.str 34 1426604426936969834043278272389942903431154044779787788643790660628100077697656425)
def vE12 : List AV := [(I 6), (.str 0 0), (I 0), .nils, .nils, (.sl [(I 9), (.str 1 60), (I 0), .nils, .nils, (.sl [(I 0), (.str 0 0), (I 1), .nils, .nils, .nils, (I 3), (I 0), (.str 0 0), (I 2), .nils, .nils, .nils, (I 7)] 2 7 .any), (I 3), (I 3), (.str 2 29793), (I 0), .nils, .nils, (.sl [(I 5), (.str 0 0), (I 0), .nils, .nils, (.sl [(I 0), (.str 0 0), (I 5), .nils, .nils, .nils, (I 18), (I 0), (.str 0 0), (I 6), .nils, .nils, .nils, (I 21)] 2 7 .any), (I 17), (I 0), (.str 0 0), (I 1), .nils, .nils, .nils, (I 25)] 2 7 .any), (I 14), (I 0), (.str 0 0), (I 0), .nils, .nils, .nils, (I 33)] 3 7 .any), (I 0)]
def vP12 : AV := .tuple [.agg vE12, .int .i64 (.lit 0), .int .i64 (.lit 0)]
def tx13 : AV := (.str 10 194523234587659154781281)
def vE13 : List AV := [(I 3), (.str 2 29793), (I 0), .nils, .nils, (.sl [(I 5), (.str 0 0), (I 0), .nils, .nils, (.sl [(I 0), (.str 0 0), (I 5), .nils, .nils, .nils, (I 4)] 1 7 .any), (I 3), (I 0), (.str 0 0), (I 1), .nils, .nils, .nils, (I 8)] 2 7 .any), (I 0)]
def vP13 : AV := .tuple [.agg vE13, .int .i64 (.lit 0), .int .i64 (.lit 0)]
def tx14 : AV := (.str 8 7310875413187338289)
def vE14 : List AV := [(I 9), (.str 1 43), (I 0), .nils, .nils, (.sl [(I 0), (.str 0 0), (I 1), .nils, .nils, .nils, (I 0), (I 1), (.str 0 0), (I 1), .nils, .nils, .nils, (I 4)] 2 7 .any), (I 0)]
def vP14 : AV := .tuple [.agg vE14, .int .i64 (.lit 0), .int .i64 (.lit 0)]
def tx15 : AV := (.str 9 759928442512886751597)
def vE15 : List AV := [(I 3), (.str 3 7889261), (I 0), .nils, .nils, (.sl [(I 0), (.str 0 0), (I 1), .nils, .nils, .nils, (I 4), (I 0), (.str 0 0), (I 2), .nils, .nils, .nils, (I 7)] 2 7 .any), (I 0)]
def vP15 : AV := .tuple [.agg vE15, .int .i64 (.lit 0), .int .i64 (.lit 0)]
end Tz
