/- A part of the proof: SxTc. No condition. -/
import Derived.Test.YtdghbgpolijpcaaGreatDoorFns
set_option linter.unusedSimpArgs false
set_option linter.unusedVariables false
set_option linter.unusedSectionVars false
namespace Tb
open Go.Sx
def n_law13_BranchBytes : Nat := 5
/- refuter/refuterlaw13.BranchBytes -/
def law13_BranchBytes_r0 : List POper := [⟨some k8, .mov (.v (.bool false)), none⟩]
def law13_BranchBytes_r1 : List POper := [⟨some k20, .mov (.t k0), none⟩,
 ⟨some k21, .callF n_ref13_List [(.t k20)], none⟩,
 ⟨some k9, .mov (.t k21), none⟩]
def law13_BranchBytes_r2 : List POper := [⟨some k22, .mov (.t k9), none⟩,
 ⟨some k23, .callF n_branch_Encode [(.t k22)], none⟩,
 ⟨some k10, .mov (.t k23), none⟩]
def law13_BranchBytes_r3 : List POper := [⟨some k11, .new [.nils], none⟩]
def law13_BranchBytes_r4 : List POper := [⟨some k24, .mov (.t k10), none⟩,
 ⟨some k25, .callF n_wire_Writer_Raw [(.t k11), (.t k24)], none⟩]
def law13_BranchBytes_r5 : List POper := [⟨some k26, .callF n_wire_Writer_Done [(.t k11)], none⟩,
 ⟨some k27, .callF n_wire_Read [(.t k26)], none⟩,
 ⟨some k12, .mov (.t k27), none⟩]
def law13_BranchBytes_r6 : List POper := [⟨some k28, .mov (.t k12), none⟩,
 ⟨some k29, .eq false .ptr (.t k28) (.v .nilp), none⟩,
 ⟨some k30, .mov (.t k29), none⟩,
 ⟨some k31, .mov (.t k10), some (k30, false)⟩,
 ⟨some k32, .mov (.t k9), some (k30, false)⟩,
 ⟨some k33, .callF n_ref13_Encode [(.t k32)], some (k30, false)⟩,
 ⟨some k34, .callF n_ref01_SameBytes [(.t k31), (.t k33)], some (k30, false)⟩,
 ⟨some k35, .un .not (.t k34), some (k30, false)⟩,
 ⟨some k36, .pick (.t k30) (.v (.bool true)) (.t k35), none⟩,
 ⟨some k37, .mov (.t k36), none⟩,
 ⟨some k38, .mov (.t k10), some (k37, false)⟩,
 ⟨some k39, .lenL (.t k38), some (k37, false)⟩,
 ⟨some k40, .bin .eql (.t k39) (.v (.int .i64 (.lit 0))), some (k37, false)⟩,
 ⟨some k41, .pick (.t k37) (.v (.bool true)) (.t k40), none⟩]
def law13_BranchBytes_r7 : List POper := [⟨some k8, .mov (.v (.bool false)), none⟩]
def law13_BranchBytes_r8 : List POper := [⟨some k43, .mov (.t k12), none⟩,
 ⟨some k44, .callF n_wire_Reader_Raw [(.t k43)], none⟩,
 ⟨some k45, .callF n_branch_Decode [(.t k44)], none⟩,
 ⟨some k42, .mov (.t k45), none⟩,
 ⟨some k46, .extract (.t k42) 0, none⟩,
 ⟨some k47, .extract (.t k42) 1, none⟩,
 ⟨some k13, .mov (.t k46), none⟩,
 ⟨some k14, .mov (.t k47), none⟩]
def law13_BranchBytes_r9 : List POper := [⟨some k48, .mov (.t k14), none⟩,
 ⟨some k49, .bin .neq (.t k48) (.v (.int .i64 (.lit 0))), none⟩,
 ⟨some k50, .mov (.t k49), none⟩,
 ⟨some k51, .mov (.t k9), some (k50, false)⟩,
 ⟨some k52, .mov (.t k13), some (k50, false)⟩,
 ⟨some k53, .callF n_ref13_Same [(.t k51), (.t k52)], some (k50, false)⟩,
 ⟨some k54, .un .not (.t k53), some (k50, false)⟩,
 ⟨some k55, .pick (.t k50) (.v (.bool true)) (.t k54), none⟩]
def law13_BranchBytes_r10 : List POper := [⟨some k8, .mov (.v (.bool false)), none⟩]
def law13_BranchBytes_r11 : List POper := [⟨some k56, .mov (.t k10), none⟩,
 ⟨some k57, .mov (.t k10), none⟩,
 ⟨some k58, .lenL (.t k57), none⟩,
 ⟨some k59, .callF n_ref01_Few [(.t k56), (.t k58)], none⟩,
 ⟨some k15, .mov (.t k59), none⟩]
def law13_BranchBytes_r12 : List POper := [⟨some k60, .mov (.t k15), none⟩,
 ⟨some k61, .mov (.t k2), none⟩,
 ⟨some k62, .mov (.t k15), none⟩,
 ⟨some k63, .lenL (.t k62), none⟩,
 ⟨some k64, .callF n_ref01_Around [(.t k61), (.t k63)], none⟩,
 ⟨some k65, .mov (.t k3), none⟩,
 ⟨some k66, .indexL 1 (.t k60) (.t k64), none⟩,
 ⟨none, .store 1 (.t k66) (.t k65), none⟩]
def law13_BranchBytes_r13 : List SItem := [.L 0 ⟨some k67, .mov (.t k1), none⟩,
 .L 2 ⟨some k69, .mov (.t k15), none⟩,
 .L 3 ⟨some k70, .mov (.t k10), none⟩,
 .L 4 ⟨some k71, .mov (.t k10), none⟩,
 .L 5 ⟨some k72, .lenL (.t k71), none⟩,
 .L 6 ⟨some k73, .bin .sub (.t k72) (.v (.int .i64 (.lit 1))), none⟩,
 .L 7 ⟨some k74, .sliceL 1 (.t k70) none (some (.t k73)), none⟩,
 .L 8 ⟨some k75, .mov (.t k10), none⟩,
 .L 9 ⟨some k76, .mov (.t k10), none⟩,
 .L 10 ⟨some k77, .lenL (.t k76), none⟩,
 .L 12 ⟨some k79, .mov (.t k3), none⟩,
 .A 13 ⟨some k80, .bslice 1 1 [(.int .u8 (.lit 0))] [(0, 1, (.t k79))], none⟩,
 .H 1 ⟨some k68, .callF n_ref01_Few [(.t k67), (.v (.int .i64 (.lit 40)))], none⟩ [],
 .R [],
 .H 11 ⟨some k78, .callF n_ref01_Few [(.t k75), (.t k77)], none⟩ [],
 .R [],
 .H 14 ⟨some k81, .append 1 (.t k78) (.t k80), none⟩ [13],
 .R [],
 .A 15 ⟨some k82, .bslice 1 4 [.nils] [(0, 1, (.t k68)), (1, 1, (.t k69)), (2, 1, (.t k74)), (3, 1, (.t k81))], none⟩,
 .L 16 ⟨some k16, .mov (.t k82), none⟩]
def law13_BranchBytes_r14 : List POper := [⟨some k17, .mov (.v (.int .i64 (.lit 0))), none⟩]
def law13_BranchBytes_r15 : List POper := [⟨some k83, .mov (.t k17), none⟩,
 ⟨some k84, .bin .lss (.t k83) (.v (.int .i64 (.lit 4))), none⟩]
def law13_BranchBytes_r16 : List POper := [⟨some k88, .mov (.t k16), none⟩,
 ⟨some k89, .mov (.t k17), none⟩,
 ⟨some k90, .indexL 1 (.t k88) (.t k89), none⟩,
 ⟨some k91, .load false 1 (.t k90), none⟩,
 ⟨some k92, .callF n_branch_Decode [(.t k91)], none⟩,
 ⟨some k87, .mov (.t k92), none⟩,
 ⟨some k93, .extract (.t k87) 0, none⟩,
 ⟨some k94, .extract (.t k87) 1, none⟩,
 ⟨some k18, .mov (.t k93), none⟩,
 ⟨some k19, .mov (.t k94), none⟩]
def law13_BranchBytes_r17 : List SItem := [.L 0 ⟨some k95, .mov (.t k19), none⟩,
 .L 1 ⟨some k96, .bin .neq (.t k95) (.v (.int .i64 (.lit 0))), none⟩,
 .L 2 ⟨some k97, .mov (.t k96), none⟩,
 .L 3 ⟨some k98, .mov (.t k19), some (k97, true)⟩,
 .L 4 ⟨some k99, .bin .neq (.t k98) (.v (.int .i64 (.lit 2))), some (k97, true)⟩,
 .L 5 ⟨some k100, .mov (.t k99), some (k97, true)⟩,
 .L 6 ⟨some k101, .mov (.t k18), some (k100, false)⟩,
 .L 7 ⟨some k102, .lenL (.t k101), some (k100, false)⟩,
 .L 8 ⟨some k103, .bin .gtr (.t k102) (.v (.int .i64 (.lit 0))), some (k100, false)⟩,
 .L 9 ⟨some k104, .pick (.t k100) (.v (.bool true)) (.t k103), some (k97, true)⟩,
 .L 10 ⟨some k105, .pick (.t k97) (.t k104) (.v (.bool false)), none⟩,
 .L 11 ⟨some k106, .mov (.t k105), none⟩,
 .L 12 ⟨some k107, .mov (.t k19), some (k106, false)⟩,
 .L 13 ⟨some k108, .bin .eql (.t k107) (.v (.int .i64 (.lit 0))), some (k106, false)⟩,
 .L 14 ⟨some k109, .mov (.t k108), some (k106, false)⟩,
 .L 15 ⟨some k110, .mov (.t k18), some (k109, true)⟩,
 .L 17 ⟨some k112, .mov (.t k16), some (k109, true)⟩,
 .L 18 ⟨some k113, .mov (.t k17), some (k109, true)⟩,
 .L 19 ⟨some k114, .indexL 1 (.t k112) (.t k113), some (k109, true)⟩,
 .L 20 ⟨some k115, .load false 1 (.t k114), some (k109, true)⟩,
 .H 16 ⟨some k111, .callF n_branch_Encode [(.t k110)], some (k109, true)⟩ [],
 .R [(20, ⟨some k115, .load false 1 (.t k114), some (k109, true)⟩)],
 .H 21 ⟨some k116, .callF n_ref01_SameBytes [(.t k111), (.t k115)], some (k109, true)⟩ [],
 .R [],
 .L 22 ⟨some k117, .un .not (.t k116), some (k109, true)⟩,
 .L 23 ⟨some k118, .pick (.t k109) (.t k117) (.v (.bool false)), some (k106, false)⟩,
 .L 24 ⟨some k119, .pick (.t k106) (.v (.bool true)) (.t k118), none⟩]
def law13_BranchBytes_r18 : List POper := [⟨some k8, .mov (.v (.bool false)), none⟩]
def law13_BranchBytes_r19 : List POper := [⟨some k85, .mov (.t k17), none⟩,
 ⟨some k86, .bin .add (.t k85) (.v (.int .i64 (.lit 1))), none⟩,
 ⟨some k17, .mov (.t k86), none⟩]
def law13_BranchBytes_l0 : PCode := (.seq (.seq (.ops law13_BranchBytes_r15)
 (.cond (.t k84)
 .skip
 (.exit 0)))
 (.seq (.block 1 (.seq (.ops law13_BranchBytes_r16)
 (.seq (.staged law13_BranchBytes_r17 ⟨[k95, k96, k97, k98, k99, k100, k101, k102, k103, k104, k105, k106, k107, k108, k109, k110, k111, k112, k113, k114, k115, k116, k117, k118, k119], []⟩)
 (.cond (.t k119)
 (.seq (.ops law13_BranchBytes_r18)
 .ret)
 .skip))))
 (.ops law13_BranchBytes_r19)))
def law13_BranchBytes_r20 : List POper := [⟨some k120, .callF n_law13_lives [], none⟩,
 ⟨some k8, .mov (.t k120), none⟩]
def law13_BranchBytes : PFn := ⟨(.seq (.ops law13_BranchBytes_r0)
 (.seq (.ops law13_BranchBytes_r1)
 (.seq (.ops law13_BranchBytes_r2)
 (.seq (.ops law13_BranchBytes_r3)
 (.seq (.ops law13_BranchBytes_r4)
 (.seq (.ops law13_BranchBytes_r5)
 (.seq (.seq (.ops law13_BranchBytes_r6)
 (.cond (.t k41)
 (.seq (.ops law13_BranchBytes_r7)
 .ret)
 .skip))
 (.seq (.ops law13_BranchBytes_r8)
 (.seq (.seq (.ops law13_BranchBytes_r9)
 (.cond (.t k55)
 (.seq (.ops law13_BranchBytes_r10)
 .ret)
 .skip))
 (.seq (.ops law13_BranchBytes_r11)
 (.seq (.ops law13_BranchBytes_r12)
 (.seq (.staged law13_BranchBytes_r13 ⟨[k67, k68, k69, k70, k71, k72, k73, k74, k75, k76, k77, k78, k79, k80, k81, k82, k16], []⟩)
 (.seq (.seq (.ops law13_BranchBytes_r14)
 (.block 0 (.loop law13_BranchBytes_l0)))
 (.seq (.ops law13_BranchBytes_r20)
 .ret)))))))))))))),
 [.tmp k8]⟩
/- refuter/branch.Encode -/
def branch_Encode_r0 : List POper := [⟨some k2, .mov (.v .nils), none⟩]
def branch_Encode_r1 : List POper := [⟨some k3, .new [.nils], none⟩]
def branch_Encode_r2 : List POper := [⟨some k6, .mov (.t k0), none⟩,
 ⟨some k7, .lenL (.t k6), none⟩,
 ⟨some k8, .callF n_wire_Writer_Int [(.t k3), (.t k7)], none⟩]
def branch_Encode_r3 : List POper := [⟨some k9, .mov (.t k0), none⟩,
 ⟨some k10, .lenL (.t k9), none⟩,
 ⟨some k11, .mov (.v (.int .i64 (.lit 0))), none⟩]
def branch_Encode_r4 : List POper := [⟨some k12, .bin .lss (.t k11) (.t k10), none⟩]
def branch_Encode_r5 : List POper := [⟨some k13, .indexL 3 (.t k9) (.t k11), none⟩,
 ⟨some k14, .load true 3 (.t k13), none⟩,
 ⟨some k5, .new [(.str 0 0), (.int .i64 (.lit 0)), (.int .i64 (.lit 0))], none⟩,
 ⟨none, .store 3 (.t k5) (.t k14), none⟩]
def branch_Encode_r6 : List POper := [⟨some k15, .fieldA 0 (.t k5), none⟩,
 ⟨some k16, .load false 1 (.t k15), none⟩,
 ⟨some k17, .callF n_wire_Writer_Text [(.t k3), (.t k16)], none⟩]
def branch_Encode_r7 : List POper := [⟨some k18, .fieldA 1 (.t k5), none⟩,
 ⟨some k19, .load false 1 (.t k18), none⟩,
 ⟨some k20, .callF n_wire_Writer_Int [(.t k3), (.t k19)], none⟩]
def branch_Encode_r8 : List POper := [⟨some k21, .fieldA 2 (.t k5), none⟩,
 ⟨some k22, .load false 1 (.t k21), none⟩,
 ⟨some k23, .callF n_wire_Writer_Int [(.t k3), (.t k22)], none⟩]
def branch_Encode_r9 : List POper := [⟨some k24, .bin .add (.t k11) (.v (.int .i64 (.lit 1))), none⟩,
 ⟨some k11, .mov (.t k24), none⟩]
def branch_Encode_l0 : PCode := (.seq (.ops branch_Encode_r4)
 (.seq (.cond (.t k12)
 .skip
 (.exit 0))
 (.seq (.block 1 (.seq (.ops branch_Encode_r5)
 (.seq (.ops branch_Encode_r6)
 (.seq (.ops branch_Encode_r7)
 (.ops branch_Encode_r8)))))
 (.ops branch_Encode_r9))))
def branch_Encode_r10 : List POper := [⟨some k25, .callF n_wire_Writer_Done [(.t k3)], none⟩,
 ⟨some k2, .mov (.t k25), none⟩]
def branch_Encode : PFn := ⟨(.seq (.ops branch_Encode_r0)
 (.seq (.ops branch_Encode_r1)
 (.seq (.ops branch_Encode_r2)
 (.seq (.seq (.ops branch_Encode_r3)
 (.block 0 (.loop branch_Encode_l0)))
 (.seq (.ops branch_Encode_r10)
 .ret))))),
 [.tmp k2]⟩
/- (*refuter/wire.Writer).Raw -/
def wire_Writer_Raw_r0 : List POper := [⟨some k4, .mov (.t k0), none⟩,
 ⟨some k5, .mov (.t k1), none⟩,
 ⟨some k6, .lenL (.t k5), none⟩,
 ⟨some k7, .cint .u64 (.t k6), none⟩,
 ⟨some k8, .callF n_wire_Writer_Uint [(.t k4), (.t k7)], none⟩]
def wire_Writer_Raw_r1 : List POper := [⟨some k9, .mov (.t k0), none⟩,
 ⟨some k10, .mov (.t k0), none⟩,
 ⟨some k11, .nilc (.t k10), none⟩,
 ⟨some k12, .fieldA 0 (.t k11), none⟩,
 ⟨some k13, .load false 1 (.t k12), none⟩,
 ⟨some k14, .mov (.t k1), none⟩,
 ⟨some k15, .append 1 (.t k13) (.t k14), none⟩,
 ⟨some k16, .nilc (.t k9), none⟩,
 ⟨some k17, .fieldA 0 (.t k16), none⟩,
 ⟨none, .store 1 (.t k17) (.t k15), none⟩]
def wire_Writer_Raw : PFn := ⟨(.seq (.ops wire_Writer_Raw_r0)
 (.ops wire_Writer_Raw_r1)),
 []⟩
/- refuter/wire.Read -/
def wire_Read_r0 : List POper := [⟨some k2, .mov (.v .nilp), none⟩]
def wire_Read_r1 : List POper := [⟨some k3, .bslice 1 0 [(.int .u8 (.lit 0))] [], none⟩,
 ⟨some k4, .mov (.t k0), none⟩,
 ⟨some k5, .append 1 (.t k3) (.t k4), none⟩,
 ⟨some k6, .build [.nils, (.int .i64 (.lit 0))] [(0, 1, (.t k5))], none⟩,
 ⟨some k7, .box (.t k6), none⟩,
 ⟨some k2, .mov (.t k7), none⟩]
def wire_Read : PFn := ⟨(.seq (.ops wire_Read_r0)
 (.seq (.ops wire_Read_r1)
 .ret)),
 [.tmp k2]⟩
/- (*refuter/wire.Writer).Done -/
def wire_Writer_Done_r0 : List POper := [⟨some k2, .mov (.v .nils), none⟩]
def wire_Writer_Done_r1 : List POper := [⟨some k3, .bslice 1 0 [(.int .u8 (.lit 0))] [], none⟩,
 ⟨some k4, .mov (.t k0), none⟩,
 ⟨some k5, .nilc (.t k4), none⟩,
 ⟨some k6, .fieldA 0 (.t k5), none⟩,
 ⟨some k7, .load false 1 (.t k6), none⟩,
 ⟨some k8, .append 1 (.t k3) (.t k7), none⟩,
 ⟨some k2, .mov (.t k8), none⟩]
def wire_Writer_Done : PFn := ⟨(.seq (.ops wire_Writer_Done_r0)
 (.seq (.ops wire_Writer_Done_r1)
 .ret)),
 [.tmp k2]⟩
/- refuter/refuterref01.SameBytes -/
def ref01_SameBytes_r0 : List POper := [⟨some k4, .mov (.v (.bool false)), none⟩]
def ref01_SameBytes_r1 : List POper := [⟨some k6, .mov (.t k0), none⟩,
 ⟨some k7, .lenL (.t k6), none⟩,
 ⟨some k8, .mov (.t k1), none⟩,
 ⟨some k9, .lenL (.t k8), none⟩,
 ⟨some k10, .bin .neq (.t k7) (.t k9), none⟩]
def ref01_SameBytes_r2 : List POper := [⟨some k4, .mov (.v (.bool false)), none⟩]
def ref01_SameBytes_r3 : List POper := [⟨some k5, .mov (.v (.int .i64 (.lit 0))), none⟩]
def ref01_SameBytes_r4 : List POper := [⟨some k11, .mov (.t k5), none⟩,
 ⟨some k12, .mov (.t k0), none⟩,
 ⟨some k13, .lenL (.t k12), none⟩,
 ⟨some k14, .bin .lss (.t k11) (.t k13), none⟩]
def ref01_SameBytes_r5 : List SItem := [.L 0 ⟨some k17, .mov (.t k0), none⟩,
 .L 1 ⟨some k18, .mov (.t k5), none⟩,
 .L 2 ⟨some k19, .indexL 1 (.t k17) (.t k18), none⟩,
 .L 3 ⟨some k20, .load false 1 (.t k19), none⟩,
 .L 4 ⟨some k21, .mov (.t k1), none⟩,
 .L 5 ⟨some k22, .mov (.t k5), none⟩,
 .L 6 ⟨some k23, .indexL 1 (.t k21) (.t k22), none⟩,
 .L 7 ⟨some k24, .load false 1 (.t k23), none⟩,
 .L 8 ⟨some k25, .bin .neq (.t k20) (.t k24), none⟩]
def ref01_SameBytes_r6 : List POper := [⟨some k4, .mov (.v (.bool false)), none⟩]
def ref01_SameBytes_r7 : List POper := [⟨some k15, .mov (.t k5), none⟩,
 ⟨some k16, .bin .add (.t k15) (.v (.int .i64 (.lit 1))), none⟩,
 ⟨some k5, .mov (.t k16), none⟩]
def ref01_SameBytes_l0 : PCode := (.seq (.seq (.ops ref01_SameBytes_r4)
 (.cond (.t k14)
 .skip
 (.exit 0)))
 (.seq (.block 1 (.seq (.staged ref01_SameBytes_r5 ⟨[k17, k18, k19, k20, k21, k22, k23, k24, k25], []⟩)
 (.cond (.t k25)
 (.seq (.ops ref01_SameBytes_r6)
 .ret)
 .skip)))
 (.ops ref01_SameBytes_r7)))
def ref01_SameBytes_r8 : List POper := [⟨some k4, .mov (.v (.bool true)), none⟩]
def ref01_SameBytes : PFn := ⟨(.seq (.ops ref01_SameBytes_r0)
 (.seq (.seq (.ops ref01_SameBytes_r1)
 (.cond (.t k10)
 (.seq (.ops ref01_SameBytes_r2)
 .ret)
 .skip))
 (.seq (.seq (.ops ref01_SameBytes_r3)
 (.block 0 (.loop ref01_SameBytes_l0)))
 (.seq (.ops ref01_SameBytes_r8)
 .ret)))),
 [.tmp k4]⟩
/- refuter/refuterref13.Encode -/
def ref13_Encode_r0 : List POper := [⟨some k2, .mov (.v .nils), none⟩]
def ref13_Encode_r1 : List POper := [⟨some k5, .mov (.t k0), none⟩,
 ⟨some k6, .lenL (.t k5), none⟩,
 ⟨some k7, .callF n_ref02_Int [(.t k6)], none⟩,
 ⟨some k3, .mov (.t k7), none⟩]
def ref13_Encode_r2 : List POper := [⟨some k4, .mov (.v (.int .i64 (.lit 0))), none⟩]
def ref13_Encode_r3 : List POper := [⟨some k8, .mov (.t k4), none⟩,
 ⟨some k9, .mov (.t k0), none⟩,
 ⟨some k10, .lenL (.t k9), none⟩,
 ⟨some k11, .bin .lss (.t k8) (.t k10), none⟩]
def ref13_Encode_r4 : List POper := [⟨some k14, .mov (.t k3), none⟩,
 ⟨some k15, .mov (.t k0), none⟩,
 ⟨some k16, .mov (.t k4), none⟩,
 ⟨some k17, .indexL 3 (.t k15) (.t k16), none⟩,
 ⟨some k18, .fieldA 0 (.t k17), none⟩,
 ⟨some k19, .load false 1 (.t k18), none⟩,
 ⟨some k20, .strb (.t k19), none⟩,
 ⟨some k21, .callF n_ref02_Raw [(.t k20)], none⟩,
 ⟨some k22, .append 1 (.t k14) (.t k21), none⟩,
 ⟨some k3, .mov (.t k22), none⟩]
def ref13_Encode_r5 : List SItem := [.L 0 ⟨some k23, .mov (.t k3), none⟩,
 .L 1 ⟨some k24, .mov (.t k0), none⟩,
 .L 2 ⟨some k25, .mov (.t k4), none⟩,
 .L 3 ⟨some k26, .indexL 3 (.t k24) (.t k25), none⟩,
 .L 4 ⟨some k27, .fieldA 1 (.t k26), none⟩,
 .L 5 ⟨some k28, .load false 1 (.t k27), none⟩,
 .L 8 ⟨some k31, .mov (.t k0), none⟩,
 .L 9 ⟨some k32, .mov (.t k4), none⟩,
 .L 10 ⟨some k33, .indexL 3 (.t k31) (.t k32), none⟩,
 .L 11 ⟨some k34, .fieldA 2 (.t k33), none⟩,
 .L 12 ⟨some k35, .load false 1 (.t k34), none⟩,
 .H 6 ⟨some k29, .callF n_ref02_Int [(.t k28)], none⟩ [],
 .R [(12, ⟨some k35, .load false 1 (.t k34), none⟩)],
 .H 7 ⟨some k30, .append 1 (.t k23) (.t k29), none⟩ [],
 .R [(12, ⟨some k35, .load false 1 (.t k34), none⟩)],
 .H 13 ⟨some k36, .callF n_ref02_Int [(.t k35)], none⟩ [],
 .R [],
 .H 14 ⟨some k37, .append 1 (.t k30) (.t k36), none⟩ [],
 .R [],
 .L 15 ⟨some k3, .mov (.t k37), none⟩]
def ref13_Encode_r6 : List POper := [⟨some k12, .mov (.t k4), none⟩,
 ⟨some k13, .bin .add (.t k12) (.v (.int .i64 (.lit 1))), none⟩,
 ⟨some k4, .mov (.t k13), none⟩]
def ref13_Encode_l0 : PCode := (.seq (.seq (.ops ref13_Encode_r3)
 (.cond (.t k11)
 .skip
 (.exit 0)))
 (.seq (.block 1 (.seq (.ops ref13_Encode_r4)
 (.staged ref13_Encode_r5 ⟨[k23, k24, k25, k26, k27, k28, k29, k30, k31, k32, k33, k34, k35, k36, k37, k3], []⟩)))
 (.ops ref13_Encode_r6)))
def ref13_Encode_r7 : List POper := [⟨some k38, .mov (.t k3), none⟩,
 ⟨some k2, .mov (.t k38), none⟩]
def ref13_Encode : PFn := ⟨(.seq (.ops ref13_Encode_r0)
 (.seq (.ops ref13_Encode_r1)
 (.seq (.seq (.ops ref13_Encode_r2)
 (.block 0 (.loop ref13_Encode_l0)))
 (.seq (.ops ref13_Encode_r7)
 .ret)))),
 [.tmp k2]⟩
/- refuter/branch.Decode -/
def branch_Decode_r0 : List POper := [⟨some k2, .mov (.v .nils), none⟩,
 ⟨some k3, .mov (.v (.int .i64 (.lit 0))), none⟩]
def branch_Decode_r1 : List POper := [⟨some k8, .mov (.t k0), none⟩,
 ⟨some k9, .callF n_wire_Read [(.t k8)], none⟩,
 ⟨some k4, .mov (.t k9), none⟩]
def branch_Decode_r2 : List POper := [⟨some k10, .mov (.t k4), none⟩,
 ⟨some k11, .callF n_wire_Reader_Int [(.t k10)], none⟩,
 ⟨some k5, .mov (.t k11), none⟩]
def branch_Decode_r3 : List POper := [⟨some k12, .mov (.t k5), none⟩,
 ⟨some k13, .bin .lss (.t k12) (.v (.int .i64 (.lit 0))), none⟩,
 ⟨some k14, .mov (.t k13), none⟩,
 ⟨some k15, .mov (.t k5), some (k14, false)⟩,
 ⟨some k16, .mov (.t k0), some (k14, false)⟩,
 ⟨some k17, .lenL (.t k16), some (k14, false)⟩,
 ⟨some k18, .bin .gtr (.t k15) (.t k17), some (k14, false)⟩,
 ⟨some k19, .pick (.t k14) (.v (.bool true)) (.t k18), none⟩]
def branch_Decode_r4 : List POper := [⟨some k2, .mov (.v .nils), none⟩,
 ⟨some k3, .mov (.v (.int .i64 (.lit 2))), none⟩]
def branch_Decode_r5 : List POper := [⟨some k20, .mov (.t k5), none⟩,
 ⟨some k21, .mkslice 3 [(.str 0 0), (.int .i64 (.lit 0)), (.int .i64 (.lit 0))] (.t k20) (.t k20), none⟩,
 ⟨some k6, .mov (.t k21), none⟩]
def branch_Decode_r6 : List POper := [⟨some k22, .mov (.t k6), none⟩,
 ⟨some k23, .lenL (.t k22), none⟩,
 ⟨some k24, .mov (.v (.int .i64 (.lit 0))), none⟩]
def branch_Decode_r7 : List POper := [⟨some k25, .bin .lss (.t k24) (.t k23), none⟩]
def branch_Decode_r8 : List POper := [⟨some k26, .mov (.t k24), none⟩,
 ⟨some k7, .mov (.t k26), none⟩]
def branch_Decode_r9 : List POper := [⟨some k27, .mov (.t k6), none⟩,
 ⟨some k28, .mov (.t k7), none⟩,
 ⟨some k29, .mov (.t k4), none⟩,
 ⟨some k30, .callF n_wire_Reader_Text [(.t k29)], none⟩,
 ⟨some k31, .mov (.t k4), none⟩,
 ⟨some k32, .callF n_wire_Reader_Int [(.t k31)], none⟩,
 ⟨some k33, .mov (.t k4), none⟩,
 ⟨some k34, .callF n_wire_Reader_Int [(.t k33)], none⟩,
 ⟨some k35, .build [(.str 0 0), (.int .i64 (.lit 0)), (.int .i64 (.lit 0))] [(0, 1, (.t k30)), (1, 1, (.t k32)), (2, 1, (.t k34))], none⟩,
 ⟨some k36, .indexL 3 (.t k27) (.t k28), none⟩,
 ⟨none, .store 3 (.t k36) (.t k35), none⟩]
def branch_Decode_r10 : List POper := [⟨some k37, .bin .add (.t k24) (.v (.int .i64 (.lit 1))), none⟩,
 ⟨some k24, .mov (.t k37), none⟩]
def branch_Decode_l0 : PCode := (.seq (.ops branch_Decode_r7)
 (.seq (.cond (.t k25)
 .skip
 (.exit 0))
 (.seq (.block 1 (.seq (.ops branch_Decode_r8)
 (.ops branch_Decode_r9)))
 (.ops branch_Decode_r10))))
def branch_Decode_r11 : List POper := [⟨some k38, .mov (.t k4), none⟩,
 ⟨some k39, .callF n_wire_Reader_End [(.t k38)], none⟩,
 ⟨some k40, .bin .neq (.t k39) (.v (.int .i64 (.lit 0))), none⟩]
def branch_Decode_r12 : List POper := [⟨some k2, .mov (.v .nils), none⟩,
 ⟨some k3, .mov (.v (.int .i64 (.lit 2))), none⟩]
def branch_Decode_r13 : List POper := [⟨some k41, .mov (.t k6), none⟩,
 ⟨some k2, .mov (.t k41), none⟩,
 ⟨some k3, .mov (.v (.int .i64 (.lit 0))), none⟩]
def branch_Decode : PFn := ⟨(.seq (.ops branch_Decode_r0)
 (.seq (.ops branch_Decode_r1)
 (.seq (.ops branch_Decode_r2)
 (.seq (.seq (.ops branch_Decode_r3)
 (.cond (.t k19)
 (.seq (.ops branch_Decode_r4)
 .ret)
 .skip))
 (.seq (.ops branch_Decode_r5)
 (.seq (.seq (.ops branch_Decode_r6)
 (.block 0 (.loop branch_Decode_l0)))
 (.seq (.seq (.ops branch_Decode_r11)
 (.cond (.t k40)
 (.seq (.ops branch_Decode_r12)
 .ret)
 .skip))
 (.seq (.ops branch_Decode_r13)
 .ret)))))))),
 [.tmp k2, .tmp k3]⟩
/- (*refuter/wire.Reader).Raw -/
def wire_Reader_Raw_r0 : List POper := [⟨some k2, .mov (.v .nils), none⟩]
def wire_Reader_Raw_r1 : List POper := [⟨some k3, .bslice 1 0 [(.int .u8 (.lit 0))] [], none⟩,
 ⟨some k4, .mov (.t k0), none⟩,
 ⟨some k5, .mov (.t k0), none⟩,
 ⟨some k6, .callF n_wire_Reader_length [(.t k5)], none⟩,
 ⟨some k7, .callF n_wire_Reader_take [(.t k4), (.t k6)], none⟩,
 ⟨some k8, .append 1 (.t k3) (.t k7), none⟩,
 ⟨some k2, .mov (.t k8), none⟩]
def wire_Reader_Raw : PFn := ⟨(.seq (.ops wire_Reader_Raw_r0)
 (.seq (.ops wire_Reader_Raw_r1)
 .ret)),
 [.tmp k2]⟩
/- refuter/refuterref01.Few -/
def ref01_Few_r0 : List POper := [⟨some k4, .mov (.v .nils), none⟩]
def ref01_Few_r1 : List POper := [⟨some k5, .mov (.v .nils), none⟩]
def ref01_Few_r2 : List POper := [⟨some k6, .mov (.t k5), none⟩,
 ⟨some k7, .mov (.t k0), none⟩,
 ⟨some k8, .mov (.t k0), none⟩,
 ⟨some k9, .lenL (.t k8), none⟩,
 ⟨some k10, .mov (.t k1), none⟩,
 ⟨some k11, .mx false (.t k9) (.t k10), none⟩,
 ⟨some k12, .sliceL 1 (.t k7) none (some (.t k11)), none⟩,
 ⟨some k13, .append 1 (.t k6) (.t k12), none⟩,
 ⟨some k4, .mov (.t k13), none⟩]
def ref01_Few : PFn := ⟨(.seq (.ops ref01_Few_r0)
 (.seq (.ops ref01_Few_r1)
 (.seq (.ops ref01_Few_r2)
 .ret))),
 [.tmp k4]⟩
/- (*refuter/wire.Writer).Int -/
def wire_Writer_Int_r0 : List POper := [⟨some k4, .mov (.t k0), none⟩,
 ⟨some k5, .mov (.t k1), none⟩,
 ⟨some k6, .cint .u64 (.t k5), none⟩,
 ⟨some k7, .bin .shl (.t k6) (.v (.int .u64 (.lit 1))), none⟩,
 ⟨some k8, .mov (.t k1), none⟩,
 ⟨some k9, .bin .shr (.t k8) (.v (.int .u64 (.lit 63))), none⟩,
 ⟨some k10, .cint .u64 (.t k9), none⟩,
 ⟨some k11, .bin .xor (.t k7) (.t k10), none⟩,
 ⟨some k12, .callF n_wire_Writer_Uint [(.t k4), (.t k11)], none⟩]
def wire_Writer_Int : PFn := ⟨(.ops wire_Writer_Int_r0),
 []⟩
/- (*refuter/wire.Writer).Text -/
def wire_Writer_Text_r0 : List POper := [⟨some k4, .mov (.t k0), none⟩,
 ⟨some k5, .mov (.t k1), none⟩,
 ⟨some k6, .lenS (.t k5), none⟩,
 ⟨some k7, .cint .u64 (.t k6), none⟩,
 ⟨some k8, .callF n_wire_Writer_Uint [(.t k4), (.t k7)], none⟩]
def wire_Writer_Text_r1 : List POper := [⟨some k9, .mov (.t k0), none⟩,
 ⟨some k10, .mov (.t k0), none⟩,
 ⟨some k11, .nilc (.t k10), none⟩,
 ⟨some k12, .fieldA 0 (.t k11), none⟩,
 ⟨some k13, .load false 1 (.t k12), none⟩,
 ⟨some k14, .mov (.t k1), none⟩,
 ⟨some k15, .append 1 (.t k13) (.t k14), none⟩,
 ⟨some k16, .nilc (.t k9), none⟩,
 ⟨some k17, .fieldA 0 (.t k16), none⟩,
 ⟨none, .store 1 (.t k17) (.t k15), none⟩]
def wire_Writer_Text : PFn := ⟨(.seq (.ops wire_Writer_Text_r0)
 (.ops wire_Writer_Text_r1)),
 []⟩
/- (*refuter/wire.Writer).Uint -/
def wire_Writer_Uint_r0 : List POper := [⟨some k4, .mov (.t k1), none⟩,
 ⟨some k5, .bin .geq (.t k4) (.v (.int .u64 (.lit 128))), none⟩]
def wire_Writer_Uint_r1 : List POper := [⟨some k6, .mov (.t k0), none⟩,
 ⟨some k7, .mov (.t k0), none⟩,
 ⟨some k8, .nilc (.t k7), none⟩,
 ⟨some k9, .fieldA 0 (.t k8), none⟩,
 ⟨some k10, .load false 1 (.t k9), none⟩,
 ⟨some k11, .mov (.t k1), none⟩,
 ⟨some k12, .cint .u8 (.t k11), none⟩,
 ⟨some k13, .bin .or (.t k12) (.v (.int .u8 (.lit 128))), none⟩,
 ⟨some k14, .bslice 1 1 [(.int .u8 (.lit 0))] [(0, 1, (.t k13))], none⟩,
 ⟨some k15, .append 1 (.t k10) (.t k14), none⟩,
 ⟨some k16, .nilc (.t k6), none⟩,
 ⟨some k17, .fieldA 0 (.t k16), none⟩,
 ⟨none, .store 1 (.t k17) (.t k15), none⟩]
def wire_Writer_Uint_r2 : List POper := [⟨some k18, .mov (.t k1), none⟩,
 ⟨some k19, .bin .shr (.t k18) (.v (.int .u64 (.lit 7))), none⟩,
 ⟨some k1, .mov (.t k19), none⟩]
def wire_Writer_Uint_l0 : PCode := (.seq (.seq (.ops wire_Writer_Uint_r0)
 (.cond (.t k5)
 .skip
 (.exit 0)))
 (.block 1 (.seq (.ops wire_Writer_Uint_r1)
 (.ops wire_Writer_Uint_r2))))
def wire_Writer_Uint_r3 : List POper := [⟨some k20, .mov (.t k0), none⟩,
 ⟨some k21, .mov (.t k0), none⟩,
 ⟨some k22, .nilc (.t k21), none⟩,
 ⟨some k23, .fieldA 0 (.t k22), none⟩,
 ⟨some k24, .load false 1 (.t k23), none⟩,
 ⟨some k25, .mov (.t k1), none⟩,
 ⟨some k26, .cint .u8 (.t k25), none⟩,
 ⟨some k27, .bslice 1 1 [(.int .u8 (.lit 0))] [(0, 1, (.t k26))], none⟩,
 ⟨some k28, .append 1 (.t k24) (.t k27), none⟩,
 ⟨some k29, .nilc (.t k20), none⟩,
 ⟨some k30, .fieldA 0 (.t k29), none⟩,
 ⟨none, .store 1 (.t k30) (.t k28), none⟩]
def wire_Writer_Uint : PFn := ⟨(.seq (.block 0 (.loop wire_Writer_Uint_l0))
 (.ops wire_Writer_Uint_r3)),
 []⟩
/- refuter/refuterref02.Int -/
def ref02_Int_r0 : List POper := [⟨some k2, .mov (.v .nils), none⟩]
def ref02_Int_r1 : List POper := [⟨some k3, .mov (.t k0), none⟩,
 ⟨some k4, .callF n_ref02_Zigzag [(.t k3)], none⟩,
 ⟨some k5, .callF n_ref02_Uint [(.t k4)], none⟩,
 ⟨some k2, .mov (.t k5), none⟩]
def ref02_Int : PFn := ⟨(.seq (.ops ref02_Int_r0)
 (.seq (.ops ref02_Int_r1)
 .ret)),
 [.tmp k2]⟩
/- refuter/refuterref02.Raw -/
def ref02_Raw_r0 : List POper := [⟨some k2, .mov (.v .nils), none⟩]
def ref02_Raw_r1 : List POper := [⟨some k3, .mov (.t k0), none⟩,
 ⟨some k4, .lenL (.t k3), none⟩,
 ⟨some k5, .cint .u64 (.t k4), none⟩,
 ⟨some k6, .callF n_ref02_Uint [(.t k5)], none⟩,
 ⟨some k7, .mov (.t k0), none⟩,
 ⟨some k8, .append 1 (.t k6) (.t k7), none⟩,
 ⟨some k2, .mov (.t k8), none⟩]
def ref02_Raw : PFn := ⟨(.seq (.ops ref02_Raw_r0)
 (.seq (.ops ref02_Raw_r1)
 .ret)),
 [.tmp k2]⟩
/- (*refuter/wire.Reader).Int -/
def wire_Reader_Int_r0 : List POper := [⟨some k2, .mov (.v (.int .i64 (.lit 0))), none⟩]
def wire_Reader_Int_r1 : List POper := [⟨some k4, .mov (.t k0), none⟩,
 ⟨some k5, .callF n_wire_Reader_Uint [(.t k4)], none⟩,
 ⟨some k3, .mov (.t k5), none⟩]
def wire_Reader_Int_r2 : List POper := [⟨some k6, .mov (.t k3), none⟩,
 ⟨some k7, .bin .shr (.t k6) (.v (.int .u64 (.lit 1))), none⟩,
 ⟨some k8, .cint .i64 (.t k7), none⟩,
 ⟨some k9, .mov (.t k3), none⟩,
 ⟨some k10, .bin .and (.t k9) (.v (.int .u64 (.lit 1))), none⟩,
 ⟨some k11, .cint .i64 (.t k10), none⟩,
 ⟨some k12, .un .neg (.t k11), none⟩,
 ⟨some k13, .bin .xor (.t k8) (.t k12), none⟩,
 ⟨some k2, .mov (.t k13), none⟩]
def wire_Reader_Int : PFn := ⟨(.seq (.ops wire_Reader_Int_r0)
 (.seq (.ops wire_Reader_Int_r1)
 (.seq (.ops wire_Reader_Int_r2)
 .ret))),
 [.tmp k2]⟩
/- (*refuter/wire.Reader).Text -/
def wire_Reader_Text_r0 : List POper := [⟨some k2, .mov (.v (.str 0 0)), none⟩]
def wire_Reader_Text_r1 : List POper := [⟨some k3, .mov (.t k0), none⟩,
 ⟨some k4, .mov (.t k0), none⟩,
 ⟨some k5, .callF n_wire_Reader_length [(.t k4)], none⟩,
 ⟨some k6, .callF n_wire_Reader_take [(.t k3), (.t k5)], none⟩,
 ⟨some k7, .cbytes (.t k6), none⟩,
 ⟨some k2, .mov (.t k7), none⟩]
def wire_Reader_Text : PFn := ⟨(.seq (.ops wire_Reader_Text_r0)
 (.seq (.ops wire_Reader_Text_r1)
 .ret)),
 [.tmp k2]⟩
/- (*refuter/wire.Reader).End -/
def wire_Reader_End_r0 : List POper := [⟨some k2, .mov (.v (.int .i64 (.lit 0))), none⟩]
def wire_Reader_End_r1 : List POper := [⟨some k3, .mov (.t k0), none⟩,
 ⟨some k4, .nilc (.t k3), none⟩,
 ⟨some k5, .fieldA 1 (.t k4), none⟩,
 ⟨some k6, .load false 1 (.t k5), none⟩,
 ⟨some k7, .bin .neq (.t k6) (.v (.int .i64 (.lit 0))), none⟩]
def wire_Reader_End_r2 : List POper := [⟨some k8, .mov (.t k0), none⟩,
 ⟨some k9, .nilc (.t k8), none⟩,
 ⟨some k10, .fieldA 1 (.t k9), none⟩,
 ⟨some k11, .load false 1 (.t k10), none⟩,
 ⟨some k2, .mov (.t k11), none⟩]
def wire_Reader_End_r3 : List POper := [⟨some k12, .mov (.t k0), none⟩,
 ⟨some k13, .nilc (.t k12), none⟩,
 ⟨some k14, .fieldA 0 (.t k13), none⟩,
 ⟨some k15, .load false 1 (.t k14), none⟩,
 ⟨some k16, .lenL (.t k15), none⟩,
 ⟨some k17, .bin .gtr (.t k16) (.v (.int .i64 (.lit 0))), none⟩]
def wire_Reader_End_r4 : List POper := [⟨some k2, .mov (.v (.int .i64 (.lit 2))), none⟩]
def wire_Reader_End_r5 : List POper := [⟨some k2, .mov (.v (.int .i64 (.lit 0))), none⟩]
def wire_Reader_End : PFn := ⟨(.seq (.ops wire_Reader_End_r0)
 (.seq (.seq (.ops wire_Reader_End_r1)
 (.cond (.t k7)
 (.seq (.ops wire_Reader_End_r2)
 .ret)
 .skip))
 (.seq (.seq (.ops wire_Reader_End_r3)
 (.cond (.t k17)
 (.seq (.ops wire_Reader_End_r4)
 .ret)
 .skip))
 (.seq (.ops wire_Reader_End_r5)
 .ret)))),
 [.tmp k2]⟩
/- (*refuter/wire.Reader).take -/
def wire_Reader_take_r0 : List POper := [⟨some k4, .mov (.v .nils), none⟩]
def wire_Reader_take_r1 : List POper := [⟨some k6, .mov (.t k0), none⟩,
 ⟨some k7, .nilc (.t k6), none⟩,
 ⟨some k8, .fieldA 0 (.t k7), none⟩,
 ⟨some k9, .load false 1 (.t k8), none⟩,
 ⟨some k10, .mov (.t k1), none⟩,
 ⟨some k11, .sliceL 1 (.t k9) none (some (.t k10)), none⟩,
 ⟨some k5, .mov (.t k11), none⟩]
def wire_Reader_take_r2 : List POper := [⟨some k12, .mov (.t k0), none⟩,
 ⟨some k13, .mov (.t k0), none⟩,
 ⟨some k14, .nilc (.t k13), none⟩,
 ⟨some k15, .fieldA 0 (.t k14), none⟩,
 ⟨some k16, .load false 1 (.t k15), none⟩,
 ⟨some k17, .mov (.t k1), none⟩,
 ⟨some k18, .sliceL 1 (.t k16) (some (.t k17)) none, none⟩,
 ⟨some k19, .nilc (.t k12), none⟩,
 ⟨some k20, .fieldA 0 (.t k19), none⟩,
 ⟨none, .store 1 (.t k20) (.t k18), none⟩]
def wire_Reader_take_r3 : List POper := [⟨some k21, .mov (.t k5), none⟩,
 ⟨some k4, .mov (.t k21), none⟩]
def wire_Reader_take : PFn := ⟨(.seq (.ops wire_Reader_take_r0)
 (.seq (.ops wire_Reader_take_r1)
 (.seq (.ops wire_Reader_take_r2)
 (.seq (.ops wire_Reader_take_r3)
 .ret)))),
 [.tmp k4]⟩
/- (*refuter/wire.Reader).length -/
def wire_Reader_length_r0 : List POper := [⟨some k2, .mov (.v (.int .i64 (.lit 0))), none⟩]
def wire_Reader_length_r1 : List POper := [⟨some k4, .mov (.t k0), none⟩,
 ⟨some k5, .callF n_wire_Reader_Uint [(.t k4)], none⟩,
 ⟨some k3, .mov (.t k5), none⟩]
def wire_Reader_length_r2 : List POper := [⟨some k6, .mov (.t k0), none⟩,
 ⟨some k7, .nilc (.t k6), none⟩,
 ⟨some k8, .fieldA 1 (.t k7), none⟩,
 ⟨some k9, .load false 1 (.t k8), none⟩,
 ⟨some k10, .bin .eql (.t k9) (.v (.int .i64 (.lit 0))), none⟩,
 ⟨some k11, .mov (.t k10), none⟩,
 ⟨some k12, .mov (.t k3), some (k11, true)⟩,
 ⟨some k13, .mov (.t k0), some (k11, true)⟩,
 ⟨some k14, .nilc (.t k13), some (k11, true)⟩,
 ⟨some k15, .fieldA 0 (.t k14), some (k11, true)⟩,
 ⟨some k16, .load false 1 (.t k15), some (k11, true)⟩,
 ⟨some k17, .lenL (.t k16), some (k11, true)⟩,
 ⟨some k18, .cint .u64 (.t k17), some (k11, true)⟩,
 ⟨some k19, .bin .gtr (.t k12) (.t k18), some (k11, true)⟩,
 ⟨some k20, .pick (.t k11) (.t k19) (.v (.bool false)), none⟩]
def wire_Reader_length_r3 : List POper := [⟨some k21, .mov (.t k0), none⟩,
 ⟨some k22, .callF n_wire_Reader_fail [(.t k21), (.v (.int .i64 (.lit 3)))], none⟩]
def wire_Reader_length_r4 : List POper := [⟨some k23, .mov (.t k0), none⟩,
 ⟨some k24, .nilc (.t k23), none⟩,
 ⟨some k25, .fieldA 1 (.t k24), none⟩,
 ⟨some k26, .load false 1 (.t k25), none⟩,
 ⟨some k27, .bin .neq (.t k26) (.v (.int .i64 (.lit 0))), none⟩]
def wire_Reader_length_r5 : List POper := [⟨some k2, .mov (.v (.int .i64 (.lit 0))), none⟩]
def wire_Reader_length_r6 : List POper := [⟨some k28, .mov (.t k3), none⟩,
 ⟨some k29, .cint .i64 (.t k28), none⟩,
 ⟨some k2, .mov (.t k29), none⟩]
def wire_Reader_length : PFn := ⟨(.seq (.ops wire_Reader_length_r0)
 (.seq (.ops wire_Reader_length_r1)
 (.seq (.seq (.ops wire_Reader_length_r2)
 (.cond (.t k20)
 (.ops wire_Reader_length_r3)
 .skip))
 (.seq (.seq (.ops wire_Reader_length_r4)
 (.cond (.t k27)
 (.seq (.ops wire_Reader_length_r5)
 .ret)
 .skip))
 (.seq (.ops wire_Reader_length_r6)
 .ret))))),
 [.tmp k2]⟩
/- refuter/refuterref02.Uint -/
def ref02_Uint_r0 : List POper := [⟨some k2, .mov (.v .nils), none⟩]
def ref02_Uint_r1 : List POper := [⟨some k3, .mov (.v .nils), none⟩]
def ref02_Uint_r2 : List POper := [⟨some k4, .mov (.t k0), none⟩,
 ⟨some k5, .bin .gtr (.t k4) (.v (.int .u64 (.lit 127))), none⟩]
def ref02_Uint_r3 : List POper := [⟨some k6, .mov (.t k3), none⟩,
 ⟨some k7, .mov (.t k0), none⟩,
 ⟨some k8, .bin .rem (.t k7) (.v (.int .u64 (.lit 128))), none⟩,
 ⟨some k9, .bin .add (.v (.int .u64 (.lit 128))) (.t k8), none⟩,
 ⟨some k10, .cint .u8 (.t k9), none⟩,
 ⟨some k11, .bslice 1 1 [(.int .u8 (.lit 0))] [(0, 1, (.t k10))], none⟩,
 ⟨some k12, .append 1 (.t k6) (.t k11), none⟩,
 ⟨some k3, .mov (.t k12), none⟩]
def ref02_Uint_r4 : List POper := [⟨some k13, .mov (.t k0), none⟩,
 ⟨some k14, .bin .quo (.t k13) (.v (.int .u64 (.lit 128))), none⟩,
 ⟨some k0, .mov (.t k14), none⟩]
def ref02_Uint_l0 : PCode := (.seq (.seq (.ops ref02_Uint_r2)
 (.cond (.t k5)
 .skip
 (.exit 0)))
 (.block 1 (.seq (.ops ref02_Uint_r3)
 (.ops ref02_Uint_r4))))
def ref02_Uint_r5 : List POper := [⟨some k15, .mov (.t k3), none⟩,
 ⟨some k16, .mov (.t k0), none⟩,
 ⟨some k17, .cint .u8 (.t k16), none⟩,
 ⟨some k18, .bslice 1 1 [(.int .u8 (.lit 0))] [(0, 1, (.t k17))], none⟩,
 ⟨some k19, .append 1 (.t k15) (.t k18), none⟩,
 ⟨some k2, .mov (.t k19), none⟩]
def ref02_Uint : PFn := ⟨(.seq (.ops ref02_Uint_r0)
 (.seq (.ops ref02_Uint_r1)
 (.seq (.block 0 (.loop ref02_Uint_l0))
 (.seq (.ops ref02_Uint_r5)
 .ret)))),
 [.tmp k2]⟩
/- refuter/refuterref02.Zigzag -/
def ref02_Zigzag_r0 : List POper := [⟨some k2, .mov (.v (.int .u64 (.lit 0))), none⟩]
def ref02_Zigzag_r1 : List POper := [⟨some k3, .mov (.t k0), none⟩,
 ⟨some k4, .bin .lss (.t k3) (.v (.int .i64 (.lit 0))), none⟩]
def ref02_Zigzag_r2 : List POper := [⟨some k5, .mov (.t k0), none⟩,
 ⟨some k6, .bin .add (.t k5) (.v (.int .i64 (.lit 1))), none⟩,
 ⟨some k7, .un .neg (.t k6), none⟩,
 ⟨some k8, .cint .u64 (.t k7), none⟩,
 ⟨some k9, .bin .mul (.v (.int .u64 (.lit 2))) (.t k8), none⟩,
 ⟨some k10, .bin .add (.t k9) (.v (.int .u64 (.lit 1))), none⟩,
 ⟨some k2, .mov (.t k10), none⟩]
def ref02_Zigzag_r3 : List POper := [⟨some k11, .mov (.t k0), none⟩,
 ⟨some k12, .cint .u64 (.t k11), none⟩,
 ⟨some k13, .bin .mul (.v (.int .u64 (.lit 2))) (.t k12), none⟩,
 ⟨some k2, .mov (.t k13), none⟩]
def ref02_Zigzag : PFn := ⟨(.seq (.ops ref02_Zigzag_r0)
 (.seq (.seq (.ops ref02_Zigzag_r1)
 (.cond (.t k4)
 (.seq (.ops ref02_Zigzag_r2)
 .ret)
 .skip))
 (.seq (.ops ref02_Zigzag_r3)
 .ret))),
 [.tmp k2]⟩
/- (*refuter/wire.Reader).Uint -/
def wire_Reader_Uint_r0 : List POper := [⟨some k2, .mov (.v (.int .u64 (.lit 0))), none⟩]
def wire_Reader_Uint_r1 : List POper := [⟨some k6, .mov (.t k0), none⟩,
 ⟨some k7, .nilc (.t k6), none⟩,
 ⟨some k8, .fieldA 1 (.t k7), none⟩,
 ⟨some k9, .load false 1 (.t k8), none⟩,
 ⟨some k10, .bin .neq (.t k9) (.v (.int .i64 (.lit 0))), none⟩]
def wire_Reader_Uint_r2 : List POper := [⟨some k2, .mov (.v (.int .u64 (.lit 0))), none⟩]
def wire_Reader_Uint_r3 : List POper := [⟨some k3, .mov (.v (.int .u64 (.lit 0))), none⟩]
def wire_Reader_Uint_r4 : List POper := [⟨some k4, .mov (.v (.int .i64 (.lit 0))), none⟩]
def wire_Reader_Uint_r5 : List POper := [⟨some k13, .mov (.t k4), none⟩,
 ⟨some k14, .mov (.t k0), none⟩,
 ⟨some k15, .nilc (.t k14), none⟩,
 ⟨some k16, .fieldA 0 (.t k15), none⟩,
 ⟨some k17, .load false 1 (.t k16), none⟩,
 ⟨some k18, .lenL (.t k17), none⟩,
 ⟨some k19, .bin .geq (.t k13) (.t k18), none⟩]
def wire_Reader_Uint_r6 : List POper := [⟨some k20, .mov (.t k0), none⟩,
 ⟨some k21, .callF n_wire_Reader_fail [(.t k20), (.v (.int .i64 (.lit 3)))], none⟩]
def wire_Reader_Uint_r7 : List POper := [⟨some k2, .mov (.v (.int .u64 (.lit 0))), none⟩]
def wire_Reader_Uint_r8 : List POper := [⟨some k22, .mov (.t k0), none⟩,
 ⟨some k23, .nilc (.t k22), none⟩,
 ⟨some k24, .fieldA 0 (.t k23), none⟩,
 ⟨some k25, .load false 1 (.t k24), none⟩,
 ⟨some k26, .mov (.t k4), none⟩,
 ⟨some k27, .indexL 1 (.t k25) (.t k26), none⟩,
 ⟨some k28, .load false 1 (.t k27), none⟩,
 ⟨some k5, .mov (.t k28), none⟩]
def wire_Reader_Uint_r9 : List POper := [⟨some k29, .mov (.t k4), none⟩,
 ⟨some k30, .bin .eql (.t k29) (.v (.int .i64 (.lit 9))), none⟩,
 ⟨some k31, .mov (.t k30), none⟩,
 ⟨some k32, .mov (.t k5), some (k31, true)⟩,
 ⟨some k33, .bin .gtr (.t k32) (.v (.int .u8 (.lit 1))), some (k31, true)⟩,
 ⟨some k34, .pick (.t k31) (.t k33) (.v (.bool false)), none⟩,
 ⟨some k35, .mov (.t k34), none⟩,
 ⟨some k36, .mov (.t k4), some (k35, false)⟩,
 ⟨some k37, .bin .gtr (.t k36) (.v (.int .i64 (.lit 0))), some (k35, false)⟩,
 ⟨some k38, .mov (.t k37), some (k35, false)⟩,
 ⟨some k39, .mov (.t k5), some (k38, true)⟩,
 ⟨some k40, .bin .eql (.t k39) (.v (.int .u8 (.lit 0))), some (k38, true)⟩,
 ⟨some k41, .pick (.t k38) (.t k40) (.v (.bool false)), some (k35, false)⟩,
 ⟨some k42, .pick (.t k35) (.v (.bool true)) (.t k41), none⟩]
def wire_Reader_Uint_r10 : List POper := [⟨some k43, .mov (.t k0), none⟩,
 ⟨some k44, .callF n_wire_Reader_fail [(.t k43), (.v (.int .i64 (.lit 2)))], none⟩]
def wire_Reader_Uint_r11 : List POper := [⟨some k2, .mov (.v (.int .u64 (.lit 0))), none⟩]
def wire_Reader_Uint_r12 : List POper := [⟨some k45, .mov (.t k3), none⟩,
 ⟨some k46, .mov (.t k5), none⟩,
 ⟨some k47, .bin .and (.t k46) (.v (.int .u8 (.lit 127))), none⟩,
 ⟨some k48, .cint .u64 (.t k47), none⟩,
 ⟨some k49, .mov (.t k4), none⟩,
 ⟨some k50, .bin .mul (.v (.int .i64 (.lit 7))) (.t k49), none⟩,
 ⟨some k51, .bin .shl (.t k48) (.t k50), none⟩,
 ⟨some k52, .bin .or (.t k45) (.t k51), none⟩,
 ⟨some k3, .mov (.t k52), none⟩]
def wire_Reader_Uint_r13 : List POper := [⟨some k53, .mov (.t k5), none⟩,
 ⟨some k54, .bin .lss (.t k53) (.v (.int .u8 (.lit 128))), none⟩]
def wire_Reader_Uint_r14 : List POper := [⟨some k55, .mov (.t k0), none⟩,
 ⟨some k56, .mov (.t k0), none⟩,
 ⟨some k57, .nilc (.t k56), none⟩,
 ⟨some k58, .fieldA 0 (.t k57), none⟩,
 ⟨some k59, .load false 1 (.t k58), none⟩,
 ⟨some k60, .mov (.t k4), none⟩,
 ⟨some k61, .bin .add (.t k60) (.v (.int .i64 (.lit 1))), none⟩,
 ⟨some k62, .sliceL 1 (.t k59) (some (.t k61)) none, none⟩,
 ⟨some k63, .nilc (.t k55), none⟩,
 ⟨some k64, .fieldA 0 (.t k63), none⟩,
 ⟨none, .store 1 (.t k64) (.t k62), none⟩]
def wire_Reader_Uint_r15 : List POper := [⟨some k65, .mov (.t k3), none⟩,
 ⟨some k2, .mov (.t k65), none⟩]
def wire_Reader_Uint_r16 : List POper := [⟨some k11, .mov (.t k4), none⟩,
 ⟨some k12, .bin .add (.t k11) (.v (.int .i64 (.lit 1))), none⟩,
 ⟨some k4, .mov (.t k12), none⟩]
def wire_Reader_Uint_l0 : PCode := (.seq (.block 1 (.seq (.seq (.ops wire_Reader_Uint_r5)
 (.cond (.t k19)
 (.seq (.ops wire_Reader_Uint_r6)
 (.seq (.ops wire_Reader_Uint_r7)
 .ret))
 .skip))
 (.seq (.ops wire_Reader_Uint_r8)
 (.seq (.seq (.ops wire_Reader_Uint_r9)
 (.cond (.t k42)
 (.seq (.ops wire_Reader_Uint_r10)
 (.seq (.ops wire_Reader_Uint_r11)
 .ret))
 .skip))
 (.seq (.ops wire_Reader_Uint_r12)
 (.seq (.ops wire_Reader_Uint_r13)
 (.cond (.t k54)
 (.seq (.ops wire_Reader_Uint_r14)
 (.seq (.ops wire_Reader_Uint_r15)
 .ret))
 .skip)))))))
 (.ops wire_Reader_Uint_r16))
def wire_Reader_Uint : PFn := ⟨(.seq (.ops wire_Reader_Uint_r0)
 (.seq (.seq (.ops wire_Reader_Uint_r1)
 (.cond (.t k10)
 (.seq (.ops wire_Reader_Uint_r2)
 .ret)
 .skip))
 (.seq (.ops wire_Reader_Uint_r3)
 (.seq (.ops wire_Reader_Uint_r4)
 (.block 0 (.loop wire_Reader_Uint_l0)))))),
 [.tmp k2]⟩
/- (*refuter/wire.Reader).fail -/
def wire_Reader_fail_r0 : List POper := [⟨some k4, .mov (.t k0), none⟩,
 ⟨some k5, .nilc (.t k4), none⟩,
 ⟨some k6, .fieldA 1 (.t k5), none⟩,
 ⟨some k7, .load false 1 (.t k6), none⟩,
 ⟨some k8, .bin .eql (.t k7) (.v (.int .i64 (.lit 0))), none⟩]
def wire_Reader_fail_r1 : List POper := [⟨some k9, .mov (.t k0), none⟩,
 ⟨some k10, .mov (.t k1), none⟩,
 ⟨some k11, .nilc (.t k9), none⟩,
 ⟨some k12, .fieldA 1 (.t k11), none⟩,
 ⟨none, .store 1 (.t k12) (.t k10), none⟩]
def wire_Reader_fail : PFn := ⟨(.seq (.ops wire_Reader_fail_r0)
 (.cond (.t k8)
 (.ops wire_Reader_fail_r1)
 .skip)),
 []⟩
end Tb
