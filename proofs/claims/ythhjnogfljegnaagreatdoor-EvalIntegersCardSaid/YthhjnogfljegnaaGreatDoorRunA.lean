/-
  SV: closed runs. No condition.
-/
import Derived.Test.YthhjnogfljegnaaGreatDoorOk
import Derived.Test.YthhjnogfljegnaaGreatDoorVBase
import Derived.KernelRfl
set_option linter.unusedSimpArgs false
set_option linter.unusedVariables false
set_option linter.unusedSectionVars false
namespace Tz
open Go.Sx Go Go.Proofs
theorem run_res0 : outV (runA (mkCfg fns []) 200000 ⟨enterFr n_parser_isReserved parser_isReserved [(.str 2 29793)], [], heap0, k40⟩) = some (n_parser_isReserved, (.bool false)) := by kernel_rfl
theorem run_res1 : outV (runA (mkCfg fns []) 200000 ⟨enterFr n_parser_isReserved parser_isReserved [(.str 3 7889261)], [], heap0, k40⟩) = some (n_parser_isReserved, (.bool false)) := by kernel_rfl
theorem run_res2 : outV (runA (mkCfg fns []) 200000 ⟨enterFr n_parser_isReserved parser_isReserved [(.str 3 7235949)], [], heap0, k40⟩) = some (n_parser_isReserved, (.bool false)) := by kernel_rfl
theorem run_res3 : outV (runA (mkCfg fns []) 200000 ⟨enterFr n_parser_isReserved parser_isReserved [(.str 1 105)], [], heap0, k40⟩) = some (n_parser_isReserved, (.bool false)) := by kernel_rfl
theorem run_res4 : outV (runA (mkCfg fns []) 200000 ⟨enterFr n_parser_isReserved parser_isReserved [(.str 1 120)], [], heap0, k40⟩) = some (n_parser_isReserved, (.bool false)) := by kernel_rfl
theorem run_res5 : outV (runA (mkCfg fns []) 200000 ⟨enterFr n_parser_isReserved parser_isReserved [(.str 1 97)], [], heap0, k40⟩) = some (n_parser_isReserved, (.bool false)) := by kernel_rfl
theorem run_res6 : outV (runA (mkCfg fns []) 200000 ⟨enterFr n_parser_isReserved parser_isReserved [(.str 1 98)], [], heap0, k40⟩) = some (n_parser_isReserved, (.bool false)) := by kernel_rfl
def tRes0 : List (Nat × List AV × AV) := (n_parser_isReserved, [(.str 2 29793)], .bool false) :: []
theorem okRes0 (ρ : Nat → Int) : TabOk Tryz.prog ρ heap0 tRes0 := tab_cons fns_build fns_ok mix (show TabOk _ _ _ [] from trivial) (show TabOk _ _ _ [] from trivial) ok_parser_isReserved (by kernel_rfl) (by kernel_rfl) few run_res0
def tRes1 : List (Nat × List AV × AV) := (n_parser_isReserved, [(.str 3 7889261)], .bool false) :: tRes0
theorem okRes1 (ρ : Nat → Int) : TabOk Tryz.prog ρ heap0 tRes1 := tab_cons fns_build fns_ok mix (show TabOk _ _ _ [] from trivial) (okRes0 ρ) ok_parser_isReserved (by kernel_rfl) (by kernel_rfl) few run_res1
def tRes2 : List (Nat × List AV × AV) := (n_parser_isReserved, [(.str 3 7235949)], .bool false) :: tRes1
theorem okRes2 (ρ : Nat → Int) : TabOk Tryz.prog ρ heap0 tRes2 := tab_cons fns_build fns_ok mix (show TabOk _ _ _ [] from trivial) (okRes1 ρ) ok_parser_isReserved (by kernel_rfl) (by kernel_rfl) few run_res2
def tRes3 : List (Nat × List AV × AV) := (n_parser_isReserved, [(.str 1 105)], .bool false) :: tRes2
theorem okRes3 (ρ : Nat → Int) : TabOk Tryz.prog ρ heap0 tRes3 := tab_cons fns_build fns_ok mix (show TabOk _ _ _ [] from trivial) (okRes2 ρ) ok_parser_isReserved (by kernel_rfl) (by kernel_rfl) few run_res3
def tRes4 : List (Nat × List AV × AV) := (n_parser_isReserved, [(.str 1 120)], .bool false) :: tRes3
theorem okRes4 (ρ : Nat → Int) : TabOk Tryz.prog ρ heap0 tRes4 := tab_cons fns_build fns_ok mix (show TabOk _ _ _ [] from trivial) (okRes3 ρ) ok_parser_isReserved (by kernel_rfl) (by kernel_rfl) few run_res4
def tRes5 : List (Nat × List AV × AV) := (n_parser_isReserved, [(.str 1 97)], .bool false) :: tRes4
theorem okRes5 (ρ : Nat → Int) : TabOk Tryz.prog ρ heap0 tRes5 := tab_cons fns_build fns_ok mix (show TabOk _ _ _ [] from trivial) (okRes4 ρ) ok_parser_isReserved (by kernel_rfl) (by kernel_rfl) few run_res5
def tRes6 : List (Nat × List AV × AV) := (n_parser_isReserved, [(.str 1 98)], .bool false) :: tRes5
theorem okRes6 (ρ : Nat → Int) : TabOk Tryz.prog ρ heap0 tRes6 := tab_cons fns_build fns_ok mix (show TabOk _ _ _ [] from trivial) (okRes5 ρ) ok_parser_isReserved (by kernel_rfl) (by kernel_rfl) few run_res6
abbrev tRes := tRes6
theorem okRes (ρ : Nat → Int) : TabOk Tryz.prog ρ heap0 tRes := okRes6 ρ
def tx0 : AV := (.str 5 515935772777)
def vE0 : List AV := [(I 9), (.str 1 43), (I 0), .nils, .nils, (.sl [(I 2), (.str 1 105), (I 0), .nils, .nils, .nils, (I 0), (I 2), (.str 1 120), (I 0), .nils, .nils, .nils, (I 4)] 2 7 .any), (I 0)]
def vP0 : AV := .tuple [.agg vE0, .int .i64 (.lit 0), .int .i64 (.lit 0)]
def tx1 : AV := (.str 5 515935903849)
def vE1 : List AV := [(I 9), (.str 1 45), (I 0), .nils, .nils, (.sl [(I 2), (.str 1 105), (I 0), .nils, .nils, .nils, (I 0), (I 2), (.str 1 120), (I 0), .nils, .nils, .nils, (I 4)] 2 7 .any), (I 0)]
def vP1 : AV := .tuple [.agg vE1, .int .i64 (.lit 0), .int .i64 (.lit 0)]
def tx2 : AV := (.str 5 515935707241)
def vE2 : List AV := [(I 9), (.str 1 42), (I 0), .nils, .nils, (.sl [(I 2), (.str 1 105), (I 0), .nils, .nils, .nils, (I 0), (I 2), (.str 1 120), (I 0), .nils, .nils, .nils, (I 4)] 2 7 .any), (I 0)]
def vP2 : AV := .tuple [.agg vE2, .int .i64 (.lit 0), .int .i64 (.lit 0)]
def tx3 : AV := (.str 44 1483988504541869075371492497200635540824052132543967341476122812250333502174227251841087240893548357249320)
def vE3 : List AV := [(I 9), (.str 3 6581857), (I 0), .nils, .nils, (.sl [(I 9), (.str 2 29295), (I 0), .nils, .nils, (.sl [(I 9), (.str 1 60), (I 0), .nils, .nils, (.sl [(I 2), (.str 1 105), (I 0), .nils, .nils, .nils, (I 1), (I 2), (.str 1 120), (I 0), .nils, .nils, .nils, (I 5)] 2 7 .any), (I 1), (I 9), (.str 2 15676), (I 0), .nils, .nils, (.sl [(I 2), (.str 1 120), (I 0), .nils, .nils, .nils, (I 10), (I 2), (.str 1 105), (I 0), .nils, .nils, .nils, (I 15)] 2 7 .any), (I 10)] 2 7 .any), (I 1), (I 9), (.str 3 7630702), (I 0), .nils, .nils, (.sl [(I 9), (.str 3 6581857), (I 0), .nils, .nils, (.sl [(I 9), (.str 1 60), (I 0), .nils, .nils, (.sl [(I 2), (.str 1 105), (I 0), .nils, .nils, .nils, (I 27), (I 2), (.str 1 120), (I 0), .nils, .nils, .nils, (I 31)] 2 7 .any), (I 27), (I 9), (.str 2 15676), (I 0), .nils, .nils, (.sl [(I 2), (.str 1 120), (I 0), .nils, .nils, .nils, (I 37), (I 2), (.str 1 105), (I 0), .nils, .nils, .nils, (I 42)] 2 7 .any), (I 37)] 2 7 .any), (I 27)] 1 7 .any), (I 22)] 2 7 .any), (I 0)]
def vP3 : AV := .tuple [.agg vE3, .int .i64 (.lit 0), .int .i64 (.lit 0)]
def tx4 : AV := (.str 29 1118008550796780276149206645522419713543998169686675246966910937491752)
def vE4 : List AV := [(I 9), (.str 2 15677), (I 0), .nils, .nils, (.sl [(I 9), (.str 2 15676), (I 0), .nils, .nils, (.sl [(I 2), (.str 1 105), (I 0), .nils, .nils, .nils, (I 1), (I 2), (.str 1 120), (I 0), .nils, .nils, .nils, (I 6)] 2 7 .any), (I 1), (I 9), (.str 2 29295), (I 0), .nils, .nils, (.sl [(I 9), (.str 1 60), (I 0), .nils, .nils, (.sl [(I 2), (.str 1 105), (I 0), .nils, .nils, .nils, (I 13), (I 2), (.str 1 120), (I 0), .nils, .nils, .nils, (I 17)] 2 7 .any), (I 13), (I 9), (.str 2 15677), (I 0), .nils, .nils, (.sl [(I 2), (.str 1 105), (I 0), .nils, .nils, .nils, (I 22), (I 2), (.str 1 120), (I 0), .nils, .nils, .nils, (I 27)] 2 7 .any), (I 22)] 2 7 .any), (I 13)] 2 7 .any), (I 0)]
def vP4 : AV := .tuple [.agg vE4, .int .i64 (.lit 0), .int .i64 (.lit 0)]
def tx5 : AV := (.str 30 829076821669725544967323111822577728869573195729916422996041996724363629)
def vE5 : List AV := [(I 9), (.str 2 15677), (I 0), .nils, .nils, (.sl [(I 9), (.str 1 43), (I 0), .nils, .nils, (.sl [(I 3), (.str 3 7889261), (I 0), .nils, .nils, (.sl [(I 2), (.str 1 105), (I 0), .nils, .nils, .nils, (I 4), (I 2), (.str 1 120), (I 0), .nils, .nils, .nils, (I 7)] 2 7 .any), (I 0), (I 3), (.str 3 7235949), (I 0), .nils, .nils, (.sl [(I 2), (.str 1 105), (I 0), .nils, .nils, .nils, (I 16), (I 2), (.str 1 120), (I 0), .nils, .nils, .nils, (I 19)] 2 7 .any), (I 12)] 2 7 .any), (I 0), (I 9), (.str 1 43), (I 0), .nils, .nils, (.sl [(I 2), (.str 1 105), (I 0), .nils, .nils, .nils, (I 25), (I 2), (.str 1 120), (I 0), .nils, .nils, .nils, (I 29)] 2 7 .any), (I 25)] 2 7 .any), (I 0)]
def vP5 : AV := .tuple [.agg vE5, .int .i64 (.lit 0), .int .i64 (.lit 0)]
def tx6 : AV := (.str 6 107890605891681)
def vE6 : List AV := [(I 9), (.str 2 15677), (I 0), .nils, .nils, (.sl [(I 2), (.str 1 97), (I 0), .nils, .nils, .nils, (I 0), (I 2), (.str 1 98), (I 0), .nils, .nils, .nils, (I 5)] 2 7 .any), (I 0)]
def vP6 : AV := .tuple [.agg vE6, .int .i64 (.lit 0), .int .i64 (.lit 0)]
def tx7 : AV := (.str 34 1426604426936969834043278272389942903431154044779787788643790660628100077697656425)
def vE7 : List AV := [(I 6), (.str 0 0), (I 0), .nils, .nils, (.sl [(I 9), (.str 1 60), (I 0), .nils, .nils, (.sl [(I 0), (.str 0 0), (I 1), .nils, .nils, .nils, (I 3), (I 0), (.str 0 0), (I 2), .nils, .nils, .nils, (I 7)] 2 7 .any), (I 3), (I 3), (.str 2 29793), (I 0), .nils, .nils, (.sl [(I 5), (.str 0 0), (I 0), .nils, .nils, (.sl [(I 0), (.str 0 0), (I 5), .nils, .nils, .nils, (I 18), (I 0), (.str 0 0), (I 6), .nils, .nils, .nils, (I 21)] 2 7 .any), (I 17), (I 0), (.str 0 0), (I 1), .nils, .nils, .nils, (I 25)] 2 7 .any), (I 14), (I 0), (.str 0 0), (I 0), .nils, .nils, .nils, (I 33)] 3 7 .any), (I 0)]
def vP7 : AV := .tuple [.agg vE7, .int .i64 (.lit 0), .int .i64 (.lit 0)]
def tx8 : AV := (.str 10 194523234587659154781281)
def vE8 : List AV := [(I 3), (.str 2 29793), (I 0), .nils, .nils, (.sl [(I 5), (.str 0 0), (I 0), .nils, .nils, (.sl [(I 0), (.str 0 0), (I 5), .nils, .nils, .nils, (I 4)] 1 7 .any), (I 3), (I 0), (.str 0 0), (I 1), .nils, .nils, .nils, (I 8)] 2 7 .any), (I 0)]
def vP8 : AV := .tuple [.agg vE8, .int .i64 (.lit 0), .int .i64 (.lit 0)]
def tx9 : AV := (.str 8 7310875413187338289)
def vE9 : List AV := [(I 9), (.str 1 43), (I 0), .nils, .nils, (.sl [(I 0), (.str 0 0), (I 1), .nils, .nils, .nils, (I 0), (I 1), (.str 0 0), (I 1), .nils, .nils, .nils, (I 4)] 2 7 .any), (I 0)]
def vP9 : AV := .tuple [.agg vE9, .int .i64 (.lit 0), .int .i64 (.lit 0)]
def tx10 : AV := (.str 9 759928442512886751597)
def vE10 : List AV := [(I 3), (.str 3 7889261), (I 0), .nils, .nils, (.sl [(I 0), (.str 0 0), (I 1), .nils, .nils, .nils, (I 4), (I 0), (.str 0 0), (I 2), .nils, .nils, .nils, (I 7)] 2 7 .any), (I 0)]
def vP10 : AV := .tuple [.agg vE10, .int .i64 (.lit 0), .int .i64 (.lit 0)]
end Tz
