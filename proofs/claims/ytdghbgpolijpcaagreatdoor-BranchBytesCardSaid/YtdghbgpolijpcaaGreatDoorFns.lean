/- A part of the proof: SxTb. No condition. -/
import Derived.Test.YtdghbgpolijpcaaGreatDoorMLogic
set_option linter.unusedSimpArgs false
set_option linter.unusedVariables false
set_option linter.unusedSectionVars false
namespace Tb
open Go.Sx
def n_law13_BranchSets : Nat := 3
def n_law13_BranchAlgebra : Nat := 4
def n_ref13_List : Nat := 6
def n_ref13_Same : Nat := 7
def n_branch_Set : Nat := 8
def n_ref13_Set : Nat := 9
def n_branch_Union : Nat := 10
def n_ref13_Union : Nat := 11
def n_branch_Minus : Nat := 12
def n_ref13_Minus : Nat := 13
def n_branch_Has : Nat := 14
def n_ref13_Has : Nat := 15
def n_branch_Compare : Nat := 16
def n_ref13_Compare : Nat := 17
def n_law13_lives : Nat := 18
def n_law13_increasing : Nat := 19
def n_branch_Encode : Nat := 20
def n_wire_Writer_Raw : Nat := 21
def n_wire_Read : Nat := 22
def n_wire_Writer_Done : Nat := 23
def n_ref01_SameBytes : Nat := 24
def n_ref13_Encode : Nat := 25
def n_branch_Decode : Nat := 26
def n_wire_Reader_Raw : Nat := 27
def n_ref01_Few : Nat := 28
def n_ref01_Around : Nat := 29
def n_branch_ordered : Nat := 30
def n_branch_members : Nat := 31
def n_ref13_put : Nat := 32
def n_slices_Contains_Branch_Branch : Nat := 33
def n_cmp_Or_int : Nat := 34
def n_cmp_Compare_string : Nat := 35
def n_cmp_Compare_int : Nat := 36
def n_ref13_sign : Nat := 37
def n_parser_Parse : Nat := 38
def n_branch_Of : Nat := 39
def n_branch_Pairs : Nat := 40
def n_wire_Writer_Int : Nat := 41
def n_wire_Writer_Text : Nat := 42
def n_wire_Writer_Uint : Nat := 43
def n_ref02_Int : Nat := 44
def n_ref02_Raw : Nat := 45
def n_wire_Reader_Int : Nat := 46
def n_wire_Reader_Text : Nat := 47
def n_wire_Reader_End : Nat := 48
def n_wire_Reader_take : Nat := 49
def n_wire_Reader_length : Nat := 50
def n_slices_SortFunc_Branch_Branch : Nat := 51
def n_slices_Index_Branch_Branch : Nat := 52
def n_cmp_isNaN_string : Nat := 53
def n_cmp_isNaN_int : Nat := 54
def n_parser_read_Module : Nat := 55
def n_parser_reader_module : Nat := 56
def n_parser_checker_module : Nat := 57
def n_branch_visit : Nat := 58
def n_branch_parts : Nat := 59
def n_branch_Of_c1 : Nat := 60
def n_slices_SortFunc_2_Branch_2_Branch : Nat := 61
def n_branch_Pairs_c1 : Nat := 62
def n_ref02_Uint : Nat := 63
def n_ref02_Zigzag : Nat := 64
def n_wire_Reader_Uint : Nat := 65
def n_wire_Reader_fail : Nat := 66
def n_slices_pdqsortCmpFunc_Branch : Nat := 67
def n_math_bits_Len : Nat := 68
def n_lexer_Tokens : Nat := 69
def n_parser_read_Module_c1 : Nat := 70
def n_parser_reader_fail : Nat := 71
def n_parser_reader_decl : Nat := 72
def n_parser_checker_most : Nat := 73
def n_parser_checker_decl : Nat := 74
def n_branch_visit_c1 : Nat := 75
def n_slices_pdqsortCmpFunc_2_Branch : Nat := 76
def n_slices_insertionSortCmpFunc_Branch : Nat := 77
def n_slices_heapSortCmpFunc_Branch : Nat := 78
def n_slices_breakPatternsCmpFunc_Branch : Nat := 79
def n_slices_choosePivotCmpFunc_Branch : Nat := 80
def n_slices_reverseRangeCmpFunc_Branch : Nat := 81
def n_slices_partialInsertionSortCmpFunc_Branch : Nat := 82
def n_slices_partitionEqualCmpFunc_Branch : Nat := 83
def n_slices_partitionCmpFunc_Branch : Nat := 84
def n_math_bits_Len32 : Nat := 85
def n_math_bits_Len64 : Nat := 86
def n_lexer_tokens : Nat := 87
def n_parser_reader_offset : Nat := 88
def n_slices_IndexFunc_string_string : Nat := 89
def n_parser_reader_accept : Nat := 90
def n_parser_reader_capital : Nat := 91
def n_parser_reader_expect : Nat := 92
def n_parser_some_Ctor : Nat := 93
def n_parser_reader_ctor : Nat := 94
def n_parser_reader_name : Nat := 95
def n_parser_reader_result : Nat := 96
def n_parser_reader_expr : Nat := 97
def n_parser_reader_number : Nat := 98
def n_parser_reader_gen : Nat := 99
def n_parser_reader_prop : Nat := 100
def n_parser_reader_state : Nat := 101
def n_parser_until_Command : Nat := 102
def n_parser_reader_command : Nat := 103
def n_parser_until_Op : Nat := 104
def n_parser_reader_op : Nat := 105
def n_parser_checker_unused : Nat := 106
def n_parser_checker_capital : Nat := 107
def n_parser_checker_need : Nat := 108
def n_parser_checker_typ : Nat := 109
def n_parser_checker_params : Nat := 110
def n_parser_checker_expr : Nat := 111
def n_parser_checker_between : Nat := 112
def n_parser_checker_gen : Nat := 113
def n_parser_checker_draws : Nat := 114
def n_parser_checker_checks : Nat := 115
def n_parser_checker_word : Nat := 116
def n_parser_checker_commands : Nat := 117
def n_parser_checker_ops : Nat := 118
def n_slices_insertionSortCmpFunc_2_Branch : Nat := 119
def n_slices_heapSortCmpFunc_2_Branch : Nat := 120
def n_slices_breakPatternsCmpFunc_2_Branch : Nat := 121
def n_slices_choosePivotCmpFunc_2_Branch : Nat := 122
def n_slices_reverseRangeCmpFunc_2_Branch : Nat := 123
def n_slices_partialInsertionSortCmpFunc_2_Branch : Nat := 124
def n_slices_partitionEqualCmpFunc_2_Branch : Nat := 125
def n_slices_partitionCmpFunc_2_Branch : Nat := 126
def n_slices_siftDownCmpFunc_Branch : Nat := 127
def n_slices_nextPowerOfTwo : Nat := 128
def n_slices_xorshift_Next : Nat := 129
def n_slices_medianAdjacentCmpFunc_Branch : Nat := 130
def n_slices_medianCmpFunc_Branch : Nat := 131
def n_lexer_tokens_c1 : Nat := 132
def n_lexer_skip : Nat := 133
def n_lexer_next : Nat := 134
def n_parser_reader_is : Nat := 135
def n_parser_reader_take : Nat := 136
def n_parser_some_Type : Nat := 137
def n_parser_reader_typ : Nat := 138
def n_parser_reader_named : Nat := 139
def n_parser_list_Param : Nat := 140
def n_parser_reader_param : Nat := 141
def n_parser_reader_match : Nat := 142
def n_parser_reader_or : Nat := 143
def n_parser_reader_part : Nat := 144
def n_parser_list_Draw : Nat := 145
def n_parser_reader_draw : Nat := 146
def n_parser_reader_check : Nat := 147
def n_parser_reader_arg : Nat := 148
def n_parser_until_Action : Nat := 149
def n_parser_reader_action : Nat := 150
def n_parser_checker_unused_c1 : Nat := 151
def n_parser_zeroType : Nat := 152
def n_parser_zeroExpr : Nat := 153
def n_parser_zeroGen : Nat := 154
def n_parser_single : Nat := 155
def n_parser_checker_typeDepth : Nat := 156
def n_parser_checker_exprDepth : Nat := 157
def n_parser_checker_genDepth : Nat := 158
def n_parser_isReserved : Nat := 159
def n_slices_siftDownCmpFunc_2_Branch : Nat := 160
def n_slices_medianAdjacentCmpFunc_2_Branch : Nat := 161
def n_slices_medianCmpFunc_2_Branch : Nat := 162
def n_slices_order2CmpFunc_Branch : Nat := 163
def n_lexer_small : Nat := 164
def n_lexer_span : Nat := 165
def n_lexer_inWord : Nat := 166
def n_lexer_great : Nat := 167
def n_lexer_inCapital : Nat := 168
def n_lexer_digit : Nat := 169
def n_lexer_number : Nat := 170
def n_lexer_symbol : Nat := 171
def n_parser_reader_kind : Nat := 172
def n_parser_some_Param : Nat := 173
def n_parser_some_string : Nat := 174
def n_parser_reader_grouped : Nat := 175
def n_parser_reader_and : Nat := 176
def n_parser_reader_bounds : Nat := 177
def n_parser_list_Gen : Nat := 178
def n_parser_list_Expr : Nat := 179
def n_parser_some_Draw : Nat := 180
def n_parser_reader_drawn : Nat := 181
def n_parser_checker_match : Nat := 182
def n_parser_rank : Nat := 183
def n_slices_order2CmpFunc_2_Branch : Nat := 184
def n_strings_HasPrefix : Nat := 185
def n_parser_reader_operator : Nat := 186
def n_parser_reader_not : Nat := 187
def n_parser_some_Gen : Nat := 188
def n_parser_some_Expr : Nat := 189
def n_stringslite_HasPrefix : Nat := 190
def n_parser_reader_compare : Nat := 191
def n_parser_reader_sum : Nat := 192
def n_parser_reader_product : Nat := 193
def n_parser_reader_operand : Nat := 194
def ty_parser_misfit : Nat := 130
/- refuter/refuterlaw13.BranchSets -/
def law13_BranchSets_r0 : List POper := [⟨some k4, .mov (.v (.bool false)), none⟩]
def law13_BranchSets_r1 : List POper := [⟨some k9, .mov (.t k0), none⟩,
 ⟨some k10, .callF n_ref13_List [(.t k9)], none⟩,
 ⟨some k5, .mov (.t k10), none⟩]
def law13_BranchSets_r2 : List POper := [⟨some k11, .mov (.t k1), none⟩,
 ⟨some k12, .callF n_ref13_List [(.t k11)], none⟩,
 ⟨some k6, .mov (.t k12), none⟩]
def law13_BranchSets_r3 : List POper := [⟨some k13, .mov (.t k5), none⟩,
 ⟨some k14, .callF n_branch_Set [(.t k13)], none⟩,
 ⟨some k15, .mov (.t k5), none⟩,
 ⟨some k16, .callF n_ref13_Set [(.t k15)], none⟩,
 ⟨some k17, .callF n_ref13_Same [(.t k14), (.t k16)], none⟩,
 ⟨some k18, .un .not (.t k17), none⟩,
 ⟨some k19, .mov (.t k18), none⟩,
 ⟨some k20, .mov (.t k5), some (k19, false)⟩,
 ⟨some k21, .mov (.t k6), some (k19, false)⟩,
 ⟨some k22, .callF n_branch_Union [(.t k20), (.t k21)], some (k19, false)⟩,
 ⟨some k23, .mov (.t k5), some (k19, false)⟩,
 ⟨some k24, .mov (.t k6), some (k19, false)⟩,
 ⟨some k25, .callF n_ref13_Union [(.t k23), (.t k24)], some (k19, false)⟩,
 ⟨some k26, .callF n_ref13_Same [(.t k22), (.t k25)], some (k19, false)⟩,
 ⟨some k27, .un .not (.t k26), some (k19, false)⟩,
 ⟨some k28, .pick (.t k19) (.v (.bool true)) (.t k27), none⟩,
 ⟨some k29, .mov (.t k28), none⟩,
 ⟨some k30, .mov (.t k5), some (k29, false)⟩,
 ⟨some k31, .mov (.t k6), some (k29, false)⟩,
 ⟨some k32, .callF n_branch_Minus [(.t k30), (.t k31)], some (k29, false)⟩,
 ⟨some k33, .mov (.t k5), some (k29, false)⟩,
 ⟨some k34, .mov (.t k6), some (k29, false)⟩,
 ⟨some k35, .callF n_ref13_Minus [(.t k33), (.t k34)], some (k29, false)⟩,
 ⟨some k36, .callF n_ref13_Same [(.t k32), (.t k35)], some (k29, false)⟩,
 ⟨some k37, .un .not (.t k36), some (k29, false)⟩,
 ⟨some k38, .pick (.t k29) (.v (.bool true)) (.t k37), none⟩]
def law13_BranchSets_r4 : List POper := [⟨some k4, .mov (.v (.bool false)), none⟩]
def law13_BranchSets_r5 : List POper := [⟨some k7, .mov (.v (.int .i64 (.lit 0))), none⟩]
def law13_BranchSets_r6 : List POper := [⟨some k39, .mov (.t k7), none⟩,
 ⟨some k40, .mov (.t k5), none⟩,
 ⟨some k41, .lenL (.t k40), none⟩,
 ⟨some k42, .bin .lss (.t k39) (.t k41), none⟩]
def law13_BranchSets_r7 : List SItem := [.L 0 ⟨some k45, .mov (.t k6), none⟩,
 .L 1 ⟨some k46, .mov (.t k5), none⟩,
 .L 2 ⟨some k47, .mov (.t k7), none⟩,
 .L 3 ⟨some k48, .indexL 3 (.t k46) (.t k47), none⟩,
 .L 4 ⟨some k49, .load true 3 (.t k48), none⟩,
 .L 6 ⟨some k51, .mov (.t k6), none⟩,
 .L 7 ⟨some k52, .mov (.t k5), none⟩,
 .L 8 ⟨some k53, .mov (.t k7), none⟩,
 .L 9 ⟨some k54, .indexL 3 (.t k52) (.t k53), none⟩,
 .L 10 ⟨some k55, .load true 3 (.t k54), none⟩,
 .H 5 ⟨some k50, .callF n_branch_Has [(.t k45), (.t k49)], none⟩ [],
 .R [(10, ⟨some k55, .load true 3 (.t k54), none⟩)],
 .H 11 ⟨some k56, .callF n_ref13_Has [(.t k51), (.t k55)], none⟩ [],
 .R [],
 .L 12 ⟨some k57, .eq true .bool (.t k50) (.t k56), none⟩]
def law13_BranchSets_r8 : List POper := [⟨some k4, .mov (.v (.bool false)), none⟩]
def law13_BranchSets_r9 : List POper := [⟨some k8, .mov (.v (.int .i64 (.lit 0))), none⟩]
def law13_BranchSets_r10 : List POper := [⟨some k58, .mov (.t k8), none⟩,
 ⟨some k59, .mov (.t k6), none⟩,
 ⟨some k60, .lenL (.t k59), none⟩,
 ⟨some k61, .bin .lss (.t k58) (.t k60), none⟩]
def law13_BranchSets_r11 : List SItem := [.L 0 ⟨some k64, .mov (.t k5), none⟩,
 .L 1 ⟨some k65, .mov (.t k7), none⟩,
 .L 2 ⟨some k66, .indexL 3 (.t k64) (.t k65), none⟩,
 .L 3 ⟨some k67, .load true 3 (.t k66), none⟩,
 .L 4 ⟨some k68, .mov (.t k6), none⟩,
 .L 5 ⟨some k69, .mov (.t k8), none⟩,
 .L 6 ⟨some k70, .indexL 3 (.t k68) (.t k69), none⟩,
 .L 7 ⟨some k71, .load true 3 (.t k70), none⟩,
 .L 9 ⟨some k73, .mov (.t k5), none⟩,
 .L 10 ⟨some k74, .mov (.t k7), none⟩,
 .L 11 ⟨some k75, .indexL 3 (.t k73) (.t k74), none⟩,
 .L 12 ⟨some k76, .load true 3 (.t k75), none⟩,
 .L 13 ⟨some k77, .mov (.t k6), none⟩,
 .L 14 ⟨some k78, .mov (.t k8), none⟩,
 .L 15 ⟨some k79, .indexL 3 (.t k77) (.t k78), none⟩,
 .L 16 ⟨some k80, .load true 3 (.t k79), none⟩,
 .H 8 ⟨some k72, .callF n_branch_Compare [(.t k67), (.t k71)], none⟩ [],
 .R [(12, ⟨some k76, .load true 3 (.t k75), none⟩), (16, ⟨some k80, .load true 3 (.t k79), none⟩)],
 .H 17 ⟨some k81, .callF n_ref13_Compare [(.t k76), (.t k80)], none⟩ [],
 .R [],
 .L 18 ⟨some k82, .bin .neq (.t k72) (.t k81), none⟩]
def law13_BranchSets_r12 : List POper := [⟨some k4, .mov (.v (.bool false)), none⟩]
def law13_BranchSets_r13 : List POper := [⟨some k62, .mov (.t k8), none⟩,
 ⟨some k63, .bin .add (.t k62) (.v (.int .i64 (.lit 1))), none⟩,
 ⟨some k8, .mov (.t k63), none⟩]
def law13_BranchSets_l1 : PCode := (.seq (.seq (.ops law13_BranchSets_r10)
 (.cond (.t k61)
 .skip
 (.exit 2)))
 (.seq (.block 3 (.seq (.staged law13_BranchSets_r11 ⟨[k64, k65, k66, k67, k68, k69, k70, k71, k72, k73, k74, k75, k76, k77, k78, k79, k80, k81, k82], []⟩)
 (.cond (.t k82)
 (.seq (.ops law13_BranchSets_r12)
 .ret)
 .skip)))
 (.ops law13_BranchSets_r13)))
def law13_BranchSets_r14 : List POper := [⟨some k43, .mov (.t k7), none⟩,
 ⟨some k44, .bin .add (.t k43) (.v (.int .i64 (.lit 1))), none⟩,
 ⟨some k7, .mov (.t k44), none⟩]
def law13_BranchSets_l0 : PCode := (.seq (.seq (.ops law13_BranchSets_r6)
 (.cond (.t k42)
 .skip
 (.exit 0)))
 (.seq (.block 1 (.seq (.seq (.staged law13_BranchSets_r7 ⟨[k45, k46, k47, k48, k49, k50, k51, k52, k53, k54, k55, k56, k57], []⟩)
 (.cond (.t k57)
 (.seq (.ops law13_BranchSets_r8)
 .ret)
 .skip))
 (.seq (.ops law13_BranchSets_r9)
 (.block 2 (.loop law13_BranchSets_l1)))))
 (.ops law13_BranchSets_r14)))
def law13_BranchSets_r15 : List POper := [⟨some k83, .callF n_law13_lives [], none⟩,
 ⟨some k4, .mov (.t k83), none⟩]
def law13_BranchSets : PFn := ⟨(.seq (.ops law13_BranchSets_r0)
 (.seq (.ops law13_BranchSets_r1)
 (.seq (.ops law13_BranchSets_r2)
 (.seq (.seq (.ops law13_BranchSets_r3)
 (.cond (.t k38)
 (.seq (.ops law13_BranchSets_r4)
 .ret)
 .skip))
 (.seq (.seq (.ops law13_BranchSets_r5)
 (.block 0 (.loop law13_BranchSets_l0)))
 (.seq (.ops law13_BranchSets_r15)
 .ret)))))),
 [.tmp k4]⟩
/- refuter/refuterlaw13.BranchAlgebra -/
def law13_BranchAlgebra_r0 : List POper := [⟨some k6, .mov (.v (.bool false)), none⟩]
def law13_BranchAlgebra_r1 : List POper := [⟨some k16, .mov (.t k0), none⟩,
 ⟨some k17, .callF n_ref13_List [(.t k16)], none⟩,
 ⟨some k7, .mov (.t k17), none⟩]
def law13_BranchAlgebra_r2 : List POper := [⟨some k18, .mov (.t k1), none⟩,
 ⟨some k19, .callF n_ref13_List [(.t k18)], none⟩,
 ⟨some k8, .mov (.t k19), none⟩]
def law13_BranchAlgebra_r3 : List POper := [⟨some k20, .mov (.t k2), none⟩,
 ⟨some k21, .callF n_ref13_List [(.t k20)], none⟩,
 ⟨some k9, .mov (.t k21), none⟩]
def law13_BranchAlgebra_r4 : List POper := [⟨some k22, .mov (.t k7), none⟩,
 ⟨some k23, .mov (.t k8), none⟩,
 ⟨some k24, .callF n_branch_Union [(.t k22), (.t k23)], none⟩,
 ⟨some k10, .mov (.t k24), none⟩]
def law13_BranchAlgebra_r5 : List POper := [⟨some k25, .mov (.t k7), none⟩,
 ⟨some k26, .mov (.t k8), none⟩,
 ⟨some k27, .callF n_branch_Minus [(.t k25), (.t k26)], none⟩,
 ⟨some k11, .mov (.t k27), none⟩]
def law13_BranchAlgebra_r6 : List POper := [⟨some k28, .mov (.t k10), none⟩,
 ⟨some k29, .callF n_law13_increasing [(.t k28)], none⟩,
 ⟨some k30, .un .not (.t k29), none⟩,
 ⟨some k31, .mov (.t k30), none⟩,
 ⟨some k32, .mov (.t k11), some (k31, false)⟩,
 ⟨some k33, .callF n_law13_increasing [(.t k32)], some (k31, false)⟩,
 ⟨some k34, .un .not (.t k33), some (k31, false)⟩,
 ⟨some k35, .pick (.t k31) (.v (.bool true)) (.t k34), none⟩,
 ⟨some k36, .mov (.t k35), none⟩,
 ⟨some k37, .mov (.t k7), some (k36, false)⟩,
 ⟨some k38, .callF n_branch_Set [(.t k37)], some (k36, false)⟩,
 ⟨some k39, .callF n_law13_increasing [(.t k38)], some (k36, false)⟩,
 ⟨some k40, .un .not (.t k39), some (k36, false)⟩,
 ⟨some k41, .pick (.t k36) (.v (.bool true)) (.t k40), none⟩]
def law13_BranchAlgebra_r7 : List POper := [⟨some k6, .mov (.v (.bool false)), none⟩]
def law13_BranchAlgebra_r8 : List POper := [⟨some k42, .bslice 3 0 [(.str 0 0), (.int .i64 (.lit 0)), (.int .i64 (.lit 0))] [], none⟩,
 ⟨some k43, .mov (.t k7), none⟩,
 ⟨some k44, .append 3 (.t k42) (.t k43), none⟩,
 ⟨some k45, .mov (.t k8), none⟩,
 ⟨some k46, .append 3 (.t k44) (.t k45), none⟩,
 ⟨some k47, .mov (.t k9), none⟩,
 ⟨some k48, .append 3 (.t k46) (.t k47), none⟩,
 ⟨some k12, .mov (.t k48), none⟩]
def law13_BranchAlgebra_r9 : List POper := [⟨some k13, .mov (.v (.int .i64 (.lit 0))), none⟩]
def law13_BranchAlgebra_r10 : List POper := [⟨some k49, .mov (.t k13), none⟩,
 ⟨some k50, .mov (.t k12), none⟩,
 ⟨some k51, .lenL (.t k50), none⟩,
 ⟨some k52, .bin .lss (.t k49) (.t k51), none⟩]
def law13_BranchAlgebra_r11 : List POper := [⟨some k55, .mov (.t k7), none⟩,
 ⟨some k56, .mov (.t k12), none⟩,
 ⟨some k57, .mov (.t k13), none⟩,
 ⟨some k58, .indexL 3 (.t k56) (.t k57), none⟩,
 ⟨some k59, .load true 3 (.t k58), none⟩,
 ⟨some k60, .callF n_branch_Has [(.t k55), (.t k59)], none⟩,
 ⟨some k14, .mov (.t k60), none⟩]
def law13_BranchAlgebra_r12 : List POper := [⟨some k61, .mov (.t k8), none⟩,
 ⟨some k62, .mov (.t k12), none⟩,
 ⟨some k63, .mov (.t k13), none⟩,
 ⟨some k64, .indexL 3 (.t k62) (.t k63), none⟩,
 ⟨some k65, .load true 3 (.t k64), none⟩,
 ⟨some k66, .callF n_branch_Has [(.t k61), (.t k65)], none⟩,
 ⟨some k15, .mov (.t k66), none⟩]
def law13_BranchAlgebra_r13 : List SItem := [.L 0 ⟨some k67, .mov (.t k7), none⟩,
 .L 2 ⟨some k69, .mov (.t k12), none⟩,
 .L 3 ⟨some k70, .mov (.t k13), none⟩,
 .L 4 ⟨some k71, .indexL 3 (.t k69) (.t k70), none⟩,
 .L 5 ⟨some k72, .load true 3 (.t k71), none⟩,
 .L 7 ⟨some k74, .mov (.t k14), none⟩,
 .H 1 ⟨some k68, .callF n_branch_Set [(.t k67)], none⟩ [],
 .R [(5, ⟨some k72, .load true 3 (.t k71), none⟩)],
 .H 6 ⟨some k73, .callF n_branch_Has [(.t k68), (.t k72)], none⟩ [],
 .R [],
 .L 8 ⟨some k75, .eq true .bool (.t k73) (.t k74), none⟩,
 .L 9 ⟨some k76, .mov (.t k75), none⟩,
 .L 10 ⟨some k77, .mov (.t k10), some (k76, false)⟩,
 .L 11 ⟨some k78, .mov (.t k12), some (k76, false)⟩,
 .L 12 ⟨some k79, .mov (.t k13), some (k76, false)⟩,
 .L 13 ⟨some k80, .indexL 3 (.t k78) (.t k79), some (k76, false)⟩,
 .L 14 ⟨some k81, .load true 3 (.t k80), some (k76, false)⟩,
 .L 16 ⟨some k83, .mov (.t k14), some (k76, false)⟩,
 .H 15 ⟨some k82, .callF n_branch_Has [(.t k77), (.t k81)], some (k76, false)⟩ [],
 .R [],
 .L 17 ⟨some k84, .mov (.t k83), some (k76, false)⟩,
 .L 18 ⟨some k85, .mov (.t k15), some (k84, false)⟩,
 .L 19 ⟨some k86, .pick (.t k84) (.v (.bool true)) (.t k85), some (k76, false)⟩,
 .L 20 ⟨some k87, .eq true .bool (.t k82) (.t k86), some (k76, false)⟩,
 .L 21 ⟨some k88, .pick (.t k76) (.v (.bool true)) (.t k87), none⟩,
 .L 22 ⟨some k89, .mov (.t k88), none⟩,
 .L 23 ⟨some k90, .mov (.t k11), some (k89, false)⟩,
 .L 24 ⟨some k91, .mov (.t k12), some (k89, false)⟩,
 .L 25 ⟨some k92, .mov (.t k13), some (k89, false)⟩,
 .L 26 ⟨some k93, .indexL 3 (.t k91) (.t k92), some (k89, false)⟩,
 .L 27 ⟨some k94, .load true 3 (.t k93), some (k89, false)⟩,
 .L 29 ⟨some k96, .mov (.t k14), some (k89, false)⟩,
 .H 28 ⟨some k95, .callF n_branch_Has [(.t k90), (.t k94)], some (k89, false)⟩ [],
 .R [],
 .L 30 ⟨some k97, .mov (.t k96), some (k89, false)⟩,
 .L 31 ⟨some k98, .mov (.t k15), some (k97, true)⟩,
 .L 32 ⟨some k99, .un .not (.t k98), some (k97, true)⟩,
 .L 33 ⟨some k100, .pick (.t k97) (.t k99) (.v (.bool false)), some (k89, false)⟩,
 .L 34 ⟨some k101, .eq true .bool (.t k95) (.t k100), some (k89, false)⟩,
 .L 35 ⟨some k102, .pick (.t k89) (.v (.bool true)) (.t k101), none⟩]
def law13_BranchAlgebra_r14 : List POper := [⟨some k6, .mov (.v (.bool false)), none⟩]
def law13_BranchAlgebra_r15 : List POper := [⟨some k53, .mov (.t k13), none⟩,
 ⟨some k54, .bin .add (.t k53) (.v (.int .i64 (.lit 1))), none⟩,
 ⟨some k13, .mov (.t k54), none⟩]
def law13_BranchAlgebra_l0 : PCode := (.seq (.seq (.ops law13_BranchAlgebra_r10)
 (.cond (.t k52)
 .skip
 (.exit 0)))
 (.seq (.block 1 (.seq (.ops law13_BranchAlgebra_r11)
 (.seq (.ops law13_BranchAlgebra_r12)
 (.seq (.staged law13_BranchAlgebra_r13 ⟨[k67, k68, k69, k70, k71, k72, k73, k74, k75, k76, k77, k78, k79, k80, k81, k82, k83, k84, k85, k86, k87, k88, k89, k90, k91, k92, k93, k94, k95, k96, k97, k98, k99, k100, k101, k102], []⟩)
 (.cond (.t k102)
 (.seq (.ops law13_BranchAlgebra_r14)
 .ret)
 .skip)))))
 (.ops law13_BranchAlgebra_r15)))
def law13_BranchAlgebra_r16 : List POper := [⟨some k103, .mov (.t k10), none⟩,
 ⟨some k104, .mov (.t k8), none⟩,
 ⟨some k105, .mov (.t k7), none⟩,
 ⟨some k106, .callF n_branch_Union [(.t k104), (.t k105)], none⟩,
 ⟨some k107, .callF n_ref13_Same [(.t k103), (.t k106)], none⟩,
 ⟨some k108, .un .not (.t k107), none⟩,
 ⟨some k109, .mov (.t k108), none⟩,
 ⟨some k110, .mov (.t k10), some (k109, false)⟩,
 ⟨some k111, .mov (.t k9), some (k109, false)⟩,
 ⟨some k112, .callF n_branch_Union [(.t k110), (.t k111)], some (k109, false)⟩,
 ⟨some k113, .mov (.t k7), some (k109, false)⟩,
 ⟨some k114, .mov (.t k8), some (k109, false)⟩,
 ⟨some k115, .mov (.t k9), some (k109, false)⟩,
 ⟨some k116, .callF n_branch_Union [(.t k114), (.t k115)], some (k109, false)⟩,
 ⟨some k117, .callF n_branch_Union [(.t k113), (.t k116)], some (k109, false)⟩,
 ⟨some k118, .callF n_ref13_Same [(.t k112), (.t k117)], some (k109, false)⟩,
 ⟨some k119, .un .not (.t k118), some (k109, false)⟩,
 ⟨some k120, .pick (.t k109) (.v (.bool true)) (.t k119), none⟩,
 ⟨some k121, .mov (.t k120), none⟩,
 ⟨some k122, .mov (.t k11), some (k121, false)⟩,
 ⟨some k123, .mov (.t k9), some (k121, false)⟩,
 ⟨some k124, .callF n_branch_Minus [(.t k122), (.t k123)], some (k121, false)⟩,
 ⟨some k125, .mov (.t k7), some (k121, false)⟩,
 ⟨some k126, .mov (.t k8), some (k121, false)⟩,
 ⟨some k127, .mov (.t k9), some (k121, false)⟩,
 ⟨some k128, .callF n_branch_Union [(.t k126), (.t k127)], some (k121, false)⟩,
 ⟨some k129, .callF n_branch_Minus [(.t k125), (.t k128)], some (k121, false)⟩,
 ⟨some k130, .callF n_ref13_Same [(.t k124), (.t k129)], some (k121, false)⟩,
 ⟨some k131, .un .not (.t k130), some (k121, false)⟩,
 ⟨some k132, .pick (.t k121) (.v (.bool true)) (.t k131), none⟩]
def law13_BranchAlgebra_r17 : List POper := [⟨some k6, .mov (.v (.bool false)), none⟩]
def law13_BranchAlgebra_r18 : List POper := [⟨some k133, .mov (.t k11), none⟩,
 ⟨some k134, .mov (.t k8), none⟩,
 ⟨some k135, .callF n_branch_Union [(.t k133), (.t k134)], none⟩,
 ⟨some k136, .mov (.t k10), none⟩,
 ⟨some k137, .callF n_ref13_Same [(.t k135), (.t k136)], none⟩,
 ⟨some k138, .mov (.t k137), none⟩,
 ⟨some k139, .mov (.t k7), some (k138, true)⟩,
 ⟨some k140, .mov (.t k7), some (k138, true)⟩,
 ⟨some k141, .callF n_branch_Minus [(.t k139), (.t k140)], some (k138, true)⟩,
 ⟨some k142, .lenL (.t k141), some (k138, true)⟩,
 ⟨some k143, .bin .eql (.t k142) (.v (.int .i64 (.lit 0))), some (k138, true)⟩,
 ⟨some k144, .pick (.t k138) (.t k143) (.v (.bool false)), none⟩,
 ⟨some k145, .mov (.t k144), none⟩,
 ⟨some k146, .callF n_law13_lives [], some (k145, true)⟩,
 ⟨some k147, .pick (.t k145) (.t k146) (.v (.bool false)), none⟩,
 ⟨some k6, .mov (.t k147), none⟩]
def law13_BranchAlgebra : PFn := ⟨(.seq (.ops law13_BranchAlgebra_r0)
 (.seq (.ops law13_BranchAlgebra_r1)
 (.seq (.ops law13_BranchAlgebra_r2)
 (.seq (.ops law13_BranchAlgebra_r3)
 (.seq (.ops law13_BranchAlgebra_r4)
 (.seq (.ops law13_BranchAlgebra_r5)
 (.seq (.seq (.ops law13_BranchAlgebra_r6)
 (.cond (.t k41)
 (.seq (.ops law13_BranchAlgebra_r7)
 .ret)
 .skip))
 (.seq (.ops law13_BranchAlgebra_r8)
 (.seq (.seq (.ops law13_BranchAlgebra_r9)
 (.block 0 (.loop law13_BranchAlgebra_l0)))
 (.seq (.seq (.ops law13_BranchAlgebra_r16)
 (.cond (.t k132)
 (.seq (.ops law13_BranchAlgebra_r17)
 .ret)
 .skip))
 (.seq (.ops law13_BranchAlgebra_r18)
 .ret))))))))))),
 [.tmp k6]⟩
/- refuter/refuterref13.List -/
def ref13_List_r0 : List POper := [⟨some k2, .mov (.v .nils), none⟩]
def ref13_List_r1 : List POper := [⟨some k3, .mov (.v .nils), none⟩]
def ref13_List_r2 : List POper := [⟨some k4, .mov (.v (.int .i64 (.lit 0))), none⟩]
def ref13_List_r3 : List POper := [⟨some k6, .mov (.t k4), none⟩,
 ⟨some k7, .mov (.t k0), none⟩,
 ⟨some k8, .lenL (.t k7), none⟩,
 ⟨some k9, .bin .lss (.t k6) (.t k8), none⟩,
 ⟨some k10, .mov (.t k9), none⟩,
 ⟨some k11, .mov (.t k4), some (k10, true)⟩,
 ⟨some k12, .bin .lss (.t k11) (.v (.int .i64 (.lit 14))), some (k10, true)⟩,
 ⟨some k13, .pick (.t k10) (.t k12) (.v (.bool false)), none⟩]
def ref13_List_r4 : List POper := [⟨some k16, .mov (.t k0), none⟩,
 ⟨some k17, .mov (.t k4), none⟩,
 ⟨some k18, .indexL 1 (.t k16) (.t k17), none⟩,
 ⟨some k19, .load false 1 (.t k18), none⟩,
 ⟨some k20, .callF n_ref01_Around [(.t k19), (.v (.int .i64 (.lit 120)))], none⟩,
 ⟨some k5, .mov (.t k20), none⟩]
def ref13_List_r5 : List POper := [⟨some k21, .mov (.t k3), none⟩,
 ⟨some k22, .bslice 1 3 [(.str 0 0)] [(0, 1, (.v (.str 0 0))), (1, 1, (.v (.str 1 102))), (2, 1, (.v (.str 1 103)))], none⟩,
 ⟨some k23, .mov (.t k5), none⟩,
 ⟨some k24, .bin .rem (.t k23) (.v (.int .i64 (.lit 3))), none⟩,
 ⟨some k25, .indexL 1 (.t k22) (.t k24), none⟩,
 ⟨some k26, .load false 1 (.t k25), none⟩,
 ⟨some k27, .mov (.t k5), none⟩,
 ⟨some k28, .bin .quo (.t k27) (.v (.int .i64 (.lit 3))), none⟩,
 ⟨some k29, .bin .rem (.t k28) (.v (.int .i64 (.lit 5))), none⟩,
 ⟨some k30, .bin .sub (.t k29) (.v (.int .i64 (.lit 1))), none⟩,
 ⟨some k31, .mov (.t k5), none⟩,
 ⟨some k32, .bin .quo (.t k31) (.v (.int .i64 (.lit 15))), none⟩,
 ⟨some k33, .bin .rem (.t k32) (.v (.int .i64 (.lit 3))), none⟩,
 ⟨some k34, .build [(.str 0 0), (.int .i64 (.lit 0)), (.int .i64 (.lit 0))] [(0, 1, (.t k26)), (1, 1, (.t k30)), (2, 1, (.t k33))], none⟩,
 ⟨some k35, .bslice 3 1 [(.str 0 0), (.int .i64 (.lit 0)), (.int .i64 (.lit 0))] [(0, 3, (.t k34))], none⟩,
 ⟨some k36, .append 3 (.t k21) (.t k35), none⟩,
 ⟨some k3, .mov (.t k36), none⟩]
def ref13_List_r6 : List POper := [⟨some k14, .mov (.t k4), none⟩,
 ⟨some k15, .bin .add (.t k14) (.v (.int .i64 (.lit 1))), none⟩,
 ⟨some k4, .mov (.t k15), none⟩]
def ref13_List_l0 : PCode := (.seq (.seq (.ops ref13_List_r3)
 (.cond (.t k13)
 .skip
 (.exit 0)))
 (.seq (.block 1 (.seq (.ops ref13_List_r4)
 (.ops ref13_List_r5)))
 (.ops ref13_List_r6)))
def ref13_List_r7 : List POper := [⟨some k37, .mov (.t k3), none⟩,
 ⟨some k2, .mov (.t k37), none⟩]
def ref13_List : PFn := ⟨(.seq (.ops ref13_List_r0)
 (.seq (.ops ref13_List_r1)
 (.seq (.seq (.ops ref13_List_r2)
 (.block 0 (.loop ref13_List_l0)))
 (.seq (.ops ref13_List_r7)
 .ret)))),
 [.tmp k2]⟩
/- refuter/refuterref13.Same -/
def ref13_Same_r0 : List POper := [⟨some k4, .mov (.v (.bool false)), none⟩]
def ref13_Same_r1 : List POper := [⟨some k6, .mov (.t k0), none⟩,
 ⟨some k7, .lenL (.t k6), none⟩,
 ⟨some k8, .mov (.t k1), none⟩,
 ⟨some k9, .lenL (.t k8), none⟩,
 ⟨some k10, .bin .neq (.t k7) (.t k9), none⟩]
def ref13_Same_r2 : List POper := [⟨some k4, .mov (.v (.bool false)), none⟩]
def ref13_Same_r3 : List POper := [⟨some k5, .mov (.v (.int .i64 (.lit 0))), none⟩]
def ref13_Same_r4 : List POper := [⟨some k11, .mov (.t k5), none⟩,
 ⟨some k12, .mov (.t k0), none⟩,
 ⟨some k13, .lenL (.t k12), none⟩,
 ⟨some k14, .bin .lss (.t k11) (.t k13), none⟩]
def ref13_Same_r5 : List SItem := [.L 0 ⟨some k17, .mov (.t k0), none⟩,
 .L 1 ⟨some k18, .mov (.t k5), none⟩,
 .L 2 ⟨some k19, .indexL 3 (.t k17) (.t k18), none⟩,
 .L 3 ⟨some k20, .load true 3 (.t k19), none⟩,
 .L 4 ⟨some k21, .mov (.t k1), none⟩,
 .L 5 ⟨some k22, .mov (.t k5), none⟩,
 .L 6 ⟨some k23, .indexL 3 (.t k21) (.t k22), none⟩,
 .L 7 ⟨some k24, .load true 3 (.t k23), none⟩,
 .L 8 ⟨some k25, .eq true (.parts [(0, .str), (1, .int), (2, .int)]) (.t k20) (.t k24), none⟩]
def ref13_Same_r6 : List POper := [⟨some k4, .mov (.v (.bool false)), none⟩]
def ref13_Same_r7 : List POper := [⟨some k15, .mov (.t k5), none⟩,
 ⟨some k16, .bin .add (.t k15) (.v (.int .i64 (.lit 1))), none⟩,
 ⟨some k5, .mov (.t k16), none⟩]
def ref13_Same_l0 : PCode := (.seq (.seq (.ops ref13_Same_r4)
 (.cond (.t k14)
 .skip
 (.exit 0)))
 (.seq (.block 1 (.seq (.staged ref13_Same_r5 ⟨[k17, k18, k19, k20, k21, k22, k23, k24, k25], []⟩)
 (.cond (.t k25)
 (.seq (.ops ref13_Same_r6)
 .ret)
 .skip)))
 (.ops ref13_Same_r7)))
def ref13_Same_r8 : List POper := [⟨some k4, .mov (.v (.bool true)), none⟩]
def ref13_Same : PFn := ⟨(.seq (.ops ref13_Same_r0)
 (.seq (.seq (.ops ref13_Same_r1)
 (.cond (.t k10)
 (.seq (.ops ref13_Same_r2)
 .ret)
 .skip))
 (.seq (.seq (.ops ref13_Same_r3)
 (.block 0 (.loop ref13_Same_l0)))
 (.seq (.ops ref13_Same_r8)
 .ret)))),
 [.tmp k4]⟩
/- refuter/branch.Set -/
def branch_Set_r0 : List POper := [⟨some k2, .mov (.v .nils), none⟩]
def branch_Set_r1 : List POper := [⟨some k3, .mov (.t k0), none⟩,
 ⟨some k4, .bslice 1 1 [.nils] [(0, 1, (.t k3))], none⟩,
 ⟨some k5, .callF n_branch_members [(.t k4)], none⟩,
 ⟨some k6, .callF n_branch_ordered [(.t k5)], none⟩,
 ⟨some k2, .mov (.t k6), none⟩]
def branch_Set : PFn := ⟨(.seq (.ops branch_Set_r0)
 (.seq (.ops branch_Set_r1)
 .ret)),
 [.tmp k2]⟩
/- refuter/refuterref13.Set -/
def ref13_Set_r0 : List POper := [⟨some k2, .mov (.v .nils), none⟩]
def ref13_Set_r1 : List POper := [⟨some k3, .mov (.v .nils), none⟩]
def ref13_Set_r2 : List POper := [⟨some k4, .mov (.v (.int .i64 (.lit 0))), none⟩]
def ref13_Set_r3 : List POper := [⟨some k5, .mov (.t k4), none⟩,
 ⟨some k6, .mov (.t k0), none⟩,
 ⟨some k7, .lenL (.t k6), none⟩,
 ⟨some k8, .bin .lss (.t k5) (.t k7), none⟩]
def ref13_Set_r4 : List POper := [⟨some k11, .mov (.t k3), none⟩,
 ⟨some k12, .mov (.t k0), none⟩,
 ⟨some k13, .mov (.t k4), none⟩,
 ⟨some k14, .indexL 3 (.t k12) (.t k13), none⟩,
 ⟨some k15, .load true 3 (.t k14), none⟩,
 ⟨some k16, .callF n_ref13_put [(.t k11), (.t k15)], none⟩,
 ⟨some k3, .mov (.t k16), none⟩]
def ref13_Set_r5 : List POper := [⟨some k9, .mov (.t k4), none⟩,
 ⟨some k10, .bin .add (.t k9) (.v (.int .i64 (.lit 1))), none⟩,
 ⟨some k4, .mov (.t k10), none⟩]
def ref13_Set_l0 : PCode := (.seq (.seq (.ops ref13_Set_r3)
 (.cond (.t k8)
 .skip
 (.exit 0)))
 (.seq (.block 1 (.ops ref13_Set_r4))
 (.ops ref13_Set_r5)))
def ref13_Set_r6 : List POper := [⟨some k17, .mov (.t k3), none⟩,
 ⟨some k2, .mov (.t k17), none⟩]
def ref13_Set : PFn := ⟨(.seq (.ops ref13_Set_r0)
 (.seq (.ops ref13_Set_r1)
 (.seq (.seq (.ops ref13_Set_r2)
 (.block 0 (.loop ref13_Set_l0)))
 (.seq (.ops ref13_Set_r6)
 .ret)))),
 [.tmp k2]⟩
/- refuter/branch.Union -/
def branch_Union_r0 : List POper := [⟨some k4, .mov (.v .nils), none⟩]
def branch_Union_r1 : List POper := [⟨some k5, .mov (.t k0), none⟩,
 ⟨some k6, .mov (.t k1), none⟩,
 ⟨some k7, .bslice 1 2 [.nils] [(0, 1, (.t k5)), (1, 1, (.t k6))], none⟩,
 ⟨some k8, .callF n_branch_members [(.t k7)], none⟩,
 ⟨some k9, .callF n_branch_ordered [(.t k8)], none⟩,
 ⟨some k4, .mov (.t k9), none⟩]
def branch_Union : PFn := ⟨(.seq (.ops branch_Union_r0)
 (.seq (.ops branch_Union_r1)
 .ret)),
 [.tmp k4]⟩
/- refuter/refuterref13.Union -/
def ref13_Union_r0 : List POper := [⟨some k4, .mov (.v .nils), none⟩]
def ref13_Union_r1 : List POper := [⟨some k7, .mov (.t k0), none⟩,
 ⟨some k8, .callF n_ref13_Set [(.t k7)], none⟩,
 ⟨some k5, .mov (.t k8), none⟩]
def ref13_Union_r2 : List POper := [⟨some k6, .mov (.v (.int .i64 (.lit 0))), none⟩]
def ref13_Union_r3 : List POper := [⟨some k9, .mov (.t k6), none⟩,
 ⟨some k10, .mov (.t k1), none⟩,
 ⟨some k11, .lenL (.t k10), none⟩,
 ⟨some k12, .bin .lss (.t k9) (.t k11), none⟩]
def ref13_Union_r4 : List POper := [⟨some k15, .mov (.t k5), none⟩,
 ⟨some k16, .mov (.t k1), none⟩,
 ⟨some k17, .mov (.t k6), none⟩,
 ⟨some k18, .indexL 3 (.t k16) (.t k17), none⟩,
 ⟨some k19, .load true 3 (.t k18), none⟩,
 ⟨some k20, .callF n_ref13_put [(.t k15), (.t k19)], none⟩,
 ⟨some k5, .mov (.t k20), none⟩]
def ref13_Union_r5 : List POper := [⟨some k13, .mov (.t k6), none⟩,
 ⟨some k14, .bin .add (.t k13) (.v (.int .i64 (.lit 1))), none⟩,
 ⟨some k6, .mov (.t k14), none⟩]
def ref13_Union_l0 : PCode := (.seq (.seq (.ops ref13_Union_r3)
 (.cond (.t k12)
 .skip
 (.exit 0)))
 (.seq (.block 1 (.ops ref13_Union_r4))
 (.ops ref13_Union_r5)))
def ref13_Union_r6 : List POper := [⟨some k21, .mov (.t k5), none⟩,
 ⟨some k4, .mov (.t k21), none⟩]
def ref13_Union : PFn := ⟨(.seq (.ops ref13_Union_r0)
 (.seq (.ops ref13_Union_r1)
 (.seq (.seq (.ops ref13_Union_r2)
 (.block 0 (.loop ref13_Union_l0)))
 (.seq (.ops ref13_Union_r6)
 .ret)))),
 [.tmp k4]⟩
/- refuter/branch.Minus -/
def branch_Minus_r0 : List POper := [⟨some k4, .mov (.v .nils), none⟩]
def branch_Minus_r1 : List POper := [⟨some k8, .mov (.t k0), none⟩,
 ⟨some k9, .bslice 1 1 [.nils] [(0, 1, (.t k8))], none⟩,
 ⟨some k10, .callF n_branch_members [(.t k9)], none⟩,
 ⟨some k5, .mov (.t k10), none⟩]
def branch_Minus_r2 : List POper := [⟨some k11, .mov (.t k1), none⟩,
 ⟨some k12, .lenL (.t k11), none⟩,
 ⟨some k13, .mov (.v (.int .i64 (.lit 0))), none⟩]
def branch_Minus_r3 : List POper := [⟨some k14, .bin .lss (.t k13) (.t k12), none⟩]
def branch_Minus_r4 : List POper := [⟨some k15, .indexL 3 (.t k11) (.t k13), none⟩,
 ⟨some k16, .load true 3 (.t k15), none⟩,
 ⟨some k7, .new [(.str 0 0), (.int .i64 (.lit 0)), (.int .i64 (.lit 0))], none⟩,
 ⟨none, .store 3 (.t k7) (.t k16), none⟩]
def branch_Minus_r5 : List POper := [⟨some k17, .mov (.t k5), none⟩,
 ⟨some k18, .load true 3 (.t k7), none⟩,
 ⟨none, .delP (.parts [(0, .str), (1, .int), (2, .int)]) (.t k17) (.t k18), none⟩]
def branch_Minus_r6 : List POper := [⟨some k19, .bin .add (.t k13) (.v (.int .i64 (.lit 1))), none⟩,
 ⟨some k13, .mov (.t k19), none⟩]
def branch_Minus_l0 : PCode := (.seq (.ops branch_Minus_r3)
 (.seq (.cond (.t k14)
 .skip
 (.exit 0))
 (.seq (.block 1 (.seq (.ops branch_Minus_r4)
 (.ops branch_Minus_r5)))
 (.ops branch_Minus_r6))))
def branch_Minus_r7 : List POper := [⟨some k20, .mov (.t k5), none⟩,
 ⟨some k21, .callF n_branch_ordered [(.t k20)], none⟩,
 ⟨some k4, .mov (.t k21), none⟩]
def branch_Minus : PFn := ⟨(.seq (.ops branch_Minus_r0)
 (.seq (.ops branch_Minus_r1)
 (.seq (.seq (.ops branch_Minus_r2)
 (.block 0 (.loop branch_Minus_l0)))
 (.seq (.ops branch_Minus_r7)
 .ret)))),
 [.tmp k4]⟩
/- refuter/refuterref13.Minus -/
def ref13_Minus_r0 : List POper := [⟨some k4, .mov (.v .nils), none⟩]
def ref13_Minus_r1 : List POper := [⟨some k5, .mov (.v .nils), none⟩]
def ref13_Minus_r2 : List POper := [⟨some k6, .mov (.v (.int .i64 (.lit 0))), none⟩]
def ref13_Minus_r3 : List POper := [⟨some k7, .mov (.t k6), none⟩,
 ⟨some k8, .mov (.t k0), none⟩,
 ⟨some k9, .lenL (.t k8), none⟩,
 ⟨some k10, .bin .lss (.t k7) (.t k9), none⟩]
def ref13_Minus_r4 : List POper := [⟨some k13, .mov (.t k1), none⟩,
 ⟨some k14, .mov (.t k0), none⟩,
 ⟨some k15, .mov (.t k6), none⟩,
 ⟨some k16, .indexL 3 (.t k14) (.t k15), none⟩,
 ⟨some k17, .load true 3 (.t k16), none⟩,
 ⟨some k18, .callF n_ref13_Has [(.t k13), (.t k17)], none⟩,
 ⟨some k19, .un .not (.t k18), none⟩]
def ref13_Minus_r5 : List POper := [⟨some k20, .mov (.t k5), none⟩,
 ⟨some k21, .mov (.t k0), none⟩,
 ⟨some k22, .mov (.t k6), none⟩,
 ⟨some k23, .indexL 3 (.t k21) (.t k22), none⟩,
 ⟨some k24, .load true 3 (.t k23), none⟩,
 ⟨some k25, .callF n_ref13_put [(.t k20), (.t k24)], none⟩,
 ⟨some k5, .mov (.t k25), none⟩]
def ref13_Minus_r6 : List POper := [⟨some k11, .mov (.t k6), none⟩,
 ⟨some k12, .bin .add (.t k11) (.v (.int .i64 (.lit 1))), none⟩,
 ⟨some k6, .mov (.t k12), none⟩]
def ref13_Minus_l0 : PCode := (.seq (.seq (.ops ref13_Minus_r3)
 (.cond (.t k10)
 .skip
 (.exit 0)))
 (.seq (.block 1 (.seq (.ops ref13_Minus_r4)
 (.cond (.t k19)
 (.ops ref13_Minus_r5)
 .skip)))
 (.ops ref13_Minus_r6)))
def ref13_Minus_r7 : List POper := [⟨some k26, .mov (.t k5), none⟩,
 ⟨some k4, .mov (.t k26), none⟩]
def ref13_Minus : PFn := ⟨(.seq (.ops ref13_Minus_r0)
 (.seq (.ops ref13_Minus_r1)
 (.seq (.seq (.ops ref13_Minus_r2)
 (.block 0 (.loop ref13_Minus_l0)))
 (.seq (.ops ref13_Minus_r7)
 .ret)))),
 [.tmp k4]⟩
/- refuter/branch.Has -/
def branch_Has_r0 : List POper := [⟨some k3, .box (.t k1), none⟩,
 ⟨some k4, .mov (.v (.bool false)), none⟩]
def branch_Has_r1 : List POper := [⟨some k5, .mov (.t k0), none⟩,
 ⟨some k6, .load true 3 (.t k3), none⟩,
 ⟨some k7, .callF n_slices_Contains_Branch_Branch [(.t k5), (.t k6)], none⟩,
 ⟨some k4, .mov (.t k7), none⟩]
def branch_Has : PFn := ⟨(.seq (.ops branch_Has_r0)
 (.seq (.ops branch_Has_r1)
 .ret)),
 [.tmp k4]⟩
/- refuter/refuterref13.Has -/
def ref13_Has_r0 : List POper := [⟨some k3, .box (.t k1), none⟩,
 ⟨some k4, .mov (.v (.bool false)), none⟩]
def ref13_Has_r1 : List POper := [⟨some k5, .mov (.v (.int .i64 (.lit 0))), none⟩]
def ref13_Has_r2 : List POper := [⟨some k6, .mov (.t k5), none⟩,
 ⟨some k7, .mov (.t k0), none⟩,
 ⟨some k8, .lenL (.t k7), none⟩,
 ⟨some k9, .bin .lss (.t k6) (.t k8), none⟩]
def ref13_Has_r3 : List SItem := [.L 0 ⟨some k12, .mov (.t k0), none⟩,
 .L 1 ⟨some k13, .mov (.t k5), none⟩,
 .L 2 ⟨some k14, .indexL 3 (.t k12) (.t k13), none⟩,
 .L 3 ⟨some k15, .load true 3 (.t k14), none⟩,
 .L 4 ⟨some k16, .load true 3 (.t k3), none⟩,
 .L 5 ⟨some k17, .eq false (.parts [(0, .str), (1, .int), (2, .int)]) (.t k15) (.t k16), none⟩]
def ref13_Has_r4 : List POper := [⟨some k4, .mov (.v (.bool true)), none⟩]
def ref13_Has_r5 : List POper := [⟨some k10, .mov (.t k5), none⟩,
 ⟨some k11, .bin .add (.t k10) (.v (.int .i64 (.lit 1))), none⟩,
 ⟨some k5, .mov (.t k11), none⟩]
def ref13_Has_l0 : PCode := (.seq (.seq (.ops ref13_Has_r2)
 (.cond (.t k9)
 .skip
 (.exit 0)))
 (.seq (.block 1 (.seq (.staged ref13_Has_r3 ⟨[k12, k13, k14, k15, k16, k17], []⟩)
 (.cond (.t k17)
 (.seq (.ops ref13_Has_r4)
 .ret)
 .skip)))
 (.ops ref13_Has_r5)))
def ref13_Has_r6 : List POper := [⟨some k4, .mov (.v (.bool false)), none⟩]
def ref13_Has : PFn := ⟨(.seq (.ops ref13_Has_r0)
 (.seq (.seq (.ops ref13_Has_r1)
 (.block 0 (.loop ref13_Has_l0)))
 (.seq (.ops ref13_Has_r6)
 .ret))),
 [.tmp k4]⟩
/- refuter/branch.Compare -/
def branch_Compare_r0 : List POper := [⟨some k2, .box (.t k0), none⟩,
 ⟨some k3, .box (.t k1), none⟩,
 ⟨some k4, .mov (.v (.int .i64 (.lit 0))), none⟩]
def branch_Compare_r1 : List POper := [⟨some k5, .load true 3 (.t k2), none⟩,
 ⟨some k6, .load true 3 (.t k3), none⟩,
 ⟨some k7, .eq false (.parts [(0, .str), (1, .int), (2, .int)]) (.t k5) (.t k6), none⟩]
def branch_Compare_r2 : List POper := [⟨some k4, .mov (.v (.int .i64 (.lit 0))), none⟩]
def branch_Compare_r3 : List SItem := [.L 0 ⟨some k8, .fieldA 0 (.t k2), none⟩,
 .L 1 ⟨some k9, .load false 1 (.t k8), none⟩,
 .L 2 ⟨some k10, .fieldA 0 (.t k3), none⟩,
 .L 3 ⟨some k11, .load false 1 (.t k10), none⟩,
 .L 5 ⟨some k13, .fieldA 1 (.t k2), none⟩,
 .L 6 ⟨some k14, .load false 1 (.t k13), none⟩,
 .L 7 ⟨some k15, .fieldA 1 (.t k3), none⟩,
 .L 8 ⟨some k16, .load false 1 (.t k15), none⟩,
 .L 10 ⟨some k18, .fieldA 2 (.t k2), none⟩,
 .L 11 ⟨some k19, .load false 1 (.t k18), none⟩,
 .L 12 ⟨some k20, .fieldA 2 (.t k3), none⟩,
 .L 13 ⟨some k21, .load false 1 (.t k20), none⟩,
 .H 4 ⟨some k12, .callF n_cmp_Compare_string [(.t k9), (.t k11)], none⟩ [],
 .R [(6, ⟨some k14, .load false 1 (.t k13), none⟩), (8, ⟨some k16, .load false 1 (.t k15), none⟩), (11, ⟨some k19, .load false 1 (.t k18), none⟩), (13, ⟨some k21, .load false 1 (.t k20), none⟩)],
 .H 9 ⟨some k17, .callF n_cmp_Compare_int [(.t k14), (.t k16)], none⟩ [],
 .R [(11, ⟨some k19, .load false 1 (.t k18), none⟩), (13, ⟨some k21, .load false 1 (.t k20), none⟩)],
 .H 14 ⟨some k22, .callF n_cmp_Compare_int [(.t k19), (.t k21)], none⟩ [],
 .R [],
 .A 15 ⟨some k23, .bslice 1 3 [(.int .i64 (.lit 0))] [(0, 1, (.t k12)), (1, 1, (.t k17)), (2, 1, (.t k22))], none⟩,
 .H 16 ⟨some k24, .callF n_cmp_Or_int [(.t k23)], none⟩ [15],
 .R [],
 .L 17 ⟨some k4, .mov (.t k24), none⟩]
def branch_Compare : PFn := ⟨(.seq (.ops branch_Compare_r0)
 (.seq (.seq (.ops branch_Compare_r1)
 (.cond (.t k7)
 (.seq (.ops branch_Compare_r2)
 .ret)
 .skip))
 (.seq (.staged branch_Compare_r3 ⟨[k8, k9, k10, k11, k12, k13, k14, k15, k16, k17, k18, k19, k20, k21, k22, k23, k24, k4], []⟩)
 .ret))),
 [.tmp k4]⟩
/- refuter/refuterref13.Compare -/
def ref13_Compare_r0 : List POper := [⟨some k2, .box (.t k0), none⟩,
 ⟨some k3, .box (.t k1), none⟩,
 ⟨some k4, .mov (.v (.int .i64 (.lit 0))), none⟩]
def ref13_Compare_r1 : List POper := [⟨some k5, .fieldA 0 (.t k2), none⟩,
 ⟨some k6, .load false 1 (.t k5), none⟩,
 ⟨some k7, .fieldA 0 (.t k3), none⟩,
 ⟨some k8, .load false 1 (.t k7), none⟩,
 ⟨some k9, .bin .neq (.t k6) (.t k8), none⟩]
def ref13_Compare_r2 : List POper := [⟨some k10, .fieldA 0 (.t k2), none⟩,
 ⟨some k11, .load false 1 (.t k10), none⟩,
 ⟨some k12, .fieldA 0 (.t k3), none⟩,
 ⟨some k13, .load false 1 (.t k12), none⟩,
 ⟨some k14, .bin .lss (.t k11) (.t k13), none⟩,
 ⟨some k15, .callF n_ref13_sign [(.t k14)], none⟩,
 ⟨some k4, .mov (.t k15), none⟩]
def ref13_Compare_r3 : List POper := [⟨some k16, .fieldA 1 (.t k2), none⟩,
 ⟨some k17, .load false 1 (.t k16), none⟩,
 ⟨some k18, .fieldA 1 (.t k3), none⟩,
 ⟨some k19, .load false 1 (.t k18), none⟩,
 ⟨some k20, .bin .neq (.t k17) (.t k19), none⟩]
def ref13_Compare_r4 : List POper := [⟨some k21, .fieldA 1 (.t k2), none⟩,
 ⟨some k22, .load false 1 (.t k21), none⟩,
 ⟨some k23, .fieldA 1 (.t k3), none⟩,
 ⟨some k24, .load false 1 (.t k23), none⟩,
 ⟨some k25, .bin .lss (.t k22) (.t k24), none⟩,
 ⟨some k26, .callF n_ref13_sign [(.t k25)], none⟩,
 ⟨some k4, .mov (.t k26), none⟩]
def ref13_Compare_r5 : List POper := [⟨some k27, .fieldA 2 (.t k2), none⟩,
 ⟨some k28, .load false 1 (.t k27), none⟩,
 ⟨some k29, .fieldA 2 (.t k3), none⟩,
 ⟨some k30, .load false 1 (.t k29), none⟩,
 ⟨some k31, .bin .neq (.t k28) (.t k30), none⟩]
def ref13_Compare_r6 : List POper := [⟨some k32, .fieldA 2 (.t k2), none⟩,
 ⟨some k33, .load false 1 (.t k32), none⟩,
 ⟨some k34, .fieldA 2 (.t k3), none⟩,
 ⟨some k35, .load false 1 (.t k34), none⟩,
 ⟨some k36, .bin .lss (.t k33) (.t k35), none⟩,
 ⟨some k37, .callF n_ref13_sign [(.t k36)], none⟩,
 ⟨some k4, .mov (.t k37), none⟩]
def ref13_Compare_r7 : List POper := [⟨some k4, .mov (.v (.int .i64 (.lit 0))), none⟩]
def ref13_Compare : PFn := ⟨(.seq (.ops ref13_Compare_r0)
 (.seq (.seq (.ops ref13_Compare_r1)
 (.cond (.t k9)
 (.seq (.ops ref13_Compare_r2)
 .ret)
 .skip))
 (.seq (.seq (.ops ref13_Compare_r3)
 (.cond (.t k20)
 (.seq (.ops ref13_Compare_r4)
 .ret)
 .skip))
 (.seq (.seq (.ops ref13_Compare_r5)
 (.cond (.t k31)
 (.seq (.ops ref13_Compare_r6)
 .ret)
 .skip))
 (.seq (.ops ref13_Compare_r7)
 .ret))))),
 [.tmp k4]⟩
/- refuter/refuterlaw13.increasing -/
def law13_increasing_r0 : List POper := [⟨some k2, .mov (.v (.bool false)), none⟩]
def law13_increasing_r1 : List POper := [⟨some k3, .mov (.v (.int .i64 (.lit 1))), none⟩]
def law13_increasing_r2 : List POper := [⟨some k4, .mov (.t k3), none⟩,
 ⟨some k5, .mov (.t k0), none⟩,
 ⟨some k6, .lenL (.t k5), none⟩,
 ⟨some k7, .bin .lss (.t k4) (.t k6), none⟩]
def law13_increasing_r3 : List SItem := [.L 0 ⟨some k10, .mov (.t k0), none⟩,
 .L 1 ⟨some k11, .mov (.t k3), none⟩,
 .L 2 ⟨some k12, .bin .sub (.t k11) (.v (.int .i64 (.lit 1))), none⟩,
 .L 3 ⟨some k13, .indexL 3 (.t k10) (.t k12), none⟩,
 .L 4 ⟨some k14, .load true 3 (.t k13), none⟩,
 .L 5 ⟨some k15, .mov (.t k0), none⟩,
 .L 6 ⟨some k16, .mov (.t k3), none⟩,
 .L 7 ⟨some k17, .indexL 3 (.t k15) (.t k16), none⟩,
 .L 8 ⟨some k18, .load true 3 (.t k17), none⟩,
 .H 9 ⟨some k19, .callF n_branch_Compare [(.t k14), (.t k18)], none⟩ [],
 .R [],
 .L 10 ⟨some k20, .bin .geq (.t k19) (.v (.int .i64 (.lit 0))), none⟩]
def law13_increasing_r4 : List POper := [⟨some k2, .mov (.v (.bool false)), none⟩]
def law13_increasing_r5 : List POper := [⟨some k8, .mov (.t k3), none⟩,
 ⟨some k9, .bin .add (.t k8) (.v (.int .i64 (.lit 1))), none⟩,
 ⟨some k3, .mov (.t k9), none⟩]
def law13_increasing_l0 : PCode := (.seq (.seq (.ops law13_increasing_r2)
 (.cond (.t k7)
 .skip
 (.exit 0)))
 (.seq (.block 1 (.seq (.staged law13_increasing_r3 ⟨[k10, k11, k12, k13, k14, k15, k16, k17, k18, k19, k20], []⟩)
 (.cond (.t k20)
 (.seq (.ops law13_increasing_r4)
 .ret)
 .skip)))
 (.ops law13_increasing_r5)))
def law13_increasing_r6 : List POper := [⟨some k2, .mov (.v (.bool true)), none⟩]
def law13_increasing : PFn := ⟨(.seq (.ops law13_increasing_r0)
 (.seq (.seq (.ops law13_increasing_r1)
 (.block 0 (.loop law13_increasing_l0)))
 (.seq (.ops law13_increasing_r6)
 .ret))),
 [.tmp k2]⟩
/- refuter/refuterref01.Around -/
def ref01_Around_r0 : List POper := [⟨some k4, .mov (.v (.int .i64 (.lit 0))), none⟩]
def ref01_Around_r1 : List POper := [⟨some k5, .mov (.t k0), none⟩,
 ⟨some k6, .bin .lss (.t k5) (.v (.int .i64 (.lit 0))), none⟩]
def ref01_Around_r2 : List POper := [⟨some k7, .mov (.t k0), none⟩,
 ⟨some k8, .bin .add (.t k7) (.v (.int .i64 (.lit 1))), none⟩,
 ⟨some k9, .un .neg (.t k8), none⟩,
 ⟨some k0, .mov (.t k9), none⟩]
def ref01_Around_r3 : List POper := [⟨some k10, .mov (.t k0), none⟩,
 ⟨some k11, .mov (.t k1), none⟩,
 ⟨some k12, .bin .rem (.t k10) (.t k11), none⟩,
 ⟨some k4, .mov (.t k12), none⟩]
def ref01_Around : PFn := ⟨(.seq (.ops ref01_Around_r0)
 (.seq (.seq (.ops ref01_Around_r1)
 (.cond (.t k6)
 (.ops ref01_Around_r2)
 .skip))
 (.seq (.ops ref01_Around_r3)
 .ret))),
 [.tmp k4]⟩
/- refuter/branch.ordered -/
def branch_ordered_r0 : List POper := [⟨some k2, .mov (.v .nils), none⟩]
def branch_ordered_r1 : List POper := [⟨some k5, .mov (.t k0), none⟩,
 ⟨some k6, .lenM (.t k5), none⟩,
 ⟨some k7, .mkslice 3 [(.str 0 0), (.int .i64 (.lit 0)), (.int .i64 (.lit 0))] (.v (.int .i64 (.lit 0))) (.t k6), none⟩,
 ⟨some k3, .mov (.t k7), none⟩]
def branch_ordered_r2 : List POper := [⟨some k8, .mov (.t k0), none⟩,
 ⟨some k9, .rangeM (.t k8), none⟩]
def branch_ordered_r3 : List POper := [⟨some k10, .nextM (.t k9), none⟩,
 ⟨some k11, .extract (.t k10) 0, none⟩]
def branch_ordered_r4 : List POper := [⟨some k12, .entryM (.t k9), none⟩,
 ⟨some k13, .extract (.t k12) 0, none⟩,
 ⟨some k4, .new [(.str 0 0), (.int .i64 (.lit 0)), (.int .i64 (.lit 0))], none⟩,
 ⟨none, .store 3 (.t k4) (.t k13), none⟩]
def branch_ordered_r5 : List POper := [⟨some k14, .mov (.t k3), none⟩,
 ⟨some k15, .load true 3 (.t k4), none⟩,
 ⟨some k16, .bslice 3 1 [(.str 0 0), (.int .i64 (.lit 0)), (.int .i64 (.lit 0))] [(0, 3, (.t k15))], none⟩,
 ⟨some k17, .append 3 (.t k14) (.t k16), none⟩,
 ⟨some k3, .mov (.t k17), none⟩]
def branch_ordered_l0 : PCode := (.seq (.ops branch_ordered_r3)
 (.seq (.cond (.t k11)
 .skip
 (.exit 0))
 (.block 1 (.seq (.ops branch_ordered_r4)
 (.ops branch_ordered_r5)))))
def branch_ordered_r6 : List POper := [⟨some k18, .mov (.t k3), none⟩,
 ⟨some k19, .callF n_slices_SortFunc_Branch_Branch [(.t k18), (.v (.fn n_branch_Compare [] []))], none⟩]
def branch_ordered_r7 : List POper := [⟨some k20, .mov (.t k3), none⟩,
 ⟨some k2, .mov (.t k20), none⟩]
def branch_ordered : PFn := ⟨(.seq (.ops branch_ordered_r0)
 (.seq (.ops branch_ordered_r1)
 (.seq (.seq (.ops branch_ordered_r2)
 (.block 0 (.loop branch_ordered_l0)))
 (.seq (.ops branch_ordered_r6)
 (.seq (.ops branch_ordered_r7)
 .ret))))),
 [.tmp k2]⟩
/- refuter/branch.members -/
def branch_members_r0 : List POper := [⟨some k2, .mov (.v .nilm), none⟩]
def branch_members_r1 : List POper := [⟨some k8, .mkmap, none⟩,
 ⟨some k3, .mov (.t k8), none⟩]
def branch_members_r2 : List POper := [⟨some k9, .mov (.t k0), none⟩,
 ⟨some k10, .lenL (.t k9), none⟩,
 ⟨some k11, .mov (.v (.int .i64 (.lit 0))), none⟩]
def branch_members_r3 : List POper := [⟨some k12, .bin .lss (.t k11) (.t k10), none⟩]
def branch_members_r4 : List POper := [⟨some k13, .indexL 1 (.t k9) (.t k11), none⟩,
 ⟨some k14, .load false 1 (.t k13), none⟩,
 ⟨some k5, .mov (.t k14), none⟩]
def branch_members_r5 : List POper := [⟨some k15, .mov (.t k5), none⟩,
 ⟨some k16, .lenL (.t k15), none⟩,
 ⟨some k17, .mov (.v (.int .i64 (.lit 0))), none⟩]
def branch_members_r6 : List POper := [⟨some k18, .bin .lss (.t k17) (.t k16), none⟩]
def branch_members_r7 : List POper := [⟨some k19, .indexL 3 (.t k15) (.t k17), none⟩,
 ⟨some k20, .load true 3 (.t k19), none⟩,
 ⟨some k7, .new [(.str 0 0), (.int .i64 (.lit 0)), (.int .i64 (.lit 0))], none⟩,
 ⟨none, .store 3 (.t k7) (.t k20), none⟩]
def branch_members_r8 : List POper := [⟨some k21, .mov (.t k3), none⟩,
 ⟨some k22, .load true 3 (.t k7), none⟩,
 ⟨none, .mapupdP (.parts [(0, .str), (1, .int), (2, .int)]) (.t k21) (.t k22) (.v (.bool true)), none⟩]
def branch_members_r9 : List POper := [⟨some k23, .bin .add (.t k17) (.v (.int .i64 (.lit 1))), none⟩,
 ⟨some k17, .mov (.t k23), none⟩]
def branch_members_l1 : PCode := (.seq (.ops branch_members_r6)
 (.seq (.cond (.t k18)
 .skip
 (.exit 2))
 (.seq (.block 3 (.seq (.ops branch_members_r7)
 (.ops branch_members_r8)))
 (.ops branch_members_r9))))
def branch_members_r10 : List POper := [⟨some k24, .bin .add (.t k11) (.v (.int .i64 (.lit 1))), none⟩,
 ⟨some k11, .mov (.t k24), none⟩]
def branch_members_l0 : PCode := (.seq (.ops branch_members_r3)
 (.seq (.cond (.t k12)
 .skip
 (.exit 0))
 (.seq (.block 1 (.seq (.ops branch_members_r4)
 (.seq (.ops branch_members_r5)
 (.block 2 (.loop branch_members_l1)))))
 (.ops branch_members_r10))))
def branch_members_r11 : List POper := [⟨some k25, .mov (.t k3), none⟩,
 ⟨some k2, .mov (.t k25), none⟩]
def branch_members : PFn := ⟨(.seq (.ops branch_members_r0)
 (.seq (.ops branch_members_r1)
 (.seq (.seq (.ops branch_members_r2)
 (.block 0 (.loop branch_members_l0)))
 (.seq (.ops branch_members_r11)
 .ret)))),
 [.tmp k2]⟩
/- refuter/refuterref13.put -/
def ref13_put_r0 : List POper := [⟨some k3, .box (.t k1), none⟩,
 ⟨some k4, .mov (.v .nils), none⟩]
def ref13_put_r1 : List POper := [⟨some k7, .mov (.t k0), none⟩,
 ⟨some k8, .lenL (.t k7), none⟩,
 ⟨some k5, .mov (.t k8), none⟩]
def ref13_put_r2 : List SItem := [.L 0 ⟨some k9, .mov (.t k5), none⟩,
 .L 1 ⟨some k10, .bin .gtr (.t k9) (.v (.int .i64 (.lit 0))), none⟩,
 .L 2 ⟨some k11, .mov (.t k10), none⟩,
 .L 3 ⟨some k12, .load true 3 (.t k3), some (k11, true)⟩,
 .L 4 ⟨some k13, .mov (.t k0), some (k11, true)⟩,
 .L 5 ⟨some k14, .mov (.t k5), some (k11, true)⟩,
 .L 6 ⟨some k15, .bin .sub (.t k14) (.v (.int .i64 (.lit 1))), some (k11, true)⟩,
 .L 7 ⟨some k16, .indexL 3 (.t k13) (.t k15), some (k11, true)⟩,
 .L 8 ⟨some k17, .load true 3 (.t k16), some (k11, true)⟩,
 .H 9 ⟨some k18, .callF n_ref13_Compare [(.t k12), (.t k17)], some (k11, true)⟩ [],
 .R [],
 .L 10 ⟨some k19, .bin .leq (.t k18) (.v (.int .i64 (.lit 0))), some (k11, true)⟩,
 .L 11 ⟨some k20, .pick (.t k11) (.t k19) (.v (.bool false)), none⟩]
def ref13_put_r3 : List POper := [⟨some k21, .mov (.t k5), none⟩,
 ⟨some k22, .bin .sub (.t k21) (.v (.int .i64 (.lit 1))), none⟩,
 ⟨some k5, .mov (.t k22), none⟩]
def ref13_put_l0 : PCode := (.seq (.seq (.staged ref13_put_r2 ⟨[k9, k10, k11, k12, k13, k14, k15, k16, k17, k18, k19, k20], []⟩)
 (.cond (.t k20)
 .skip
 (.exit 0)))
 (.block 1 (.ops ref13_put_r3)))
def ref13_put_r4 : List SItem := [.L 0 ⟨some k23, .mov (.t k5), none⟩,
 .L 1 ⟨some k24, .mov (.t k0), none⟩,
 .L 2 ⟨some k25, .lenL (.t k24), none⟩,
 .L 3 ⟨some k26, .bin .lss (.t k23) (.t k25), none⟩,
 .L 4 ⟨some k27, .mov (.t k26), none⟩,
 .L 5 ⟨some k28, .mov (.t k0), some (k27, true)⟩,
 .L 6 ⟨some k29, .mov (.t k5), some (k27, true)⟩,
 .L 7 ⟨some k30, .indexL 3 (.t k28) (.t k29), some (k27, true)⟩,
 .L 8 ⟨some k31, .load true 3 (.t k30), some (k27, true)⟩,
 .L 9 ⟨some k32, .load true 3 (.t k3), some (k27, true)⟩,
 .L 10 ⟨some k33, .eq false (.parts [(0, .str), (1, .int), (2, .int)]) (.t k31) (.t k32), some (k27, true)⟩,
 .L 11 ⟨some k34, .pick (.t k27) (.t k33) (.v (.bool false)), none⟩]
def ref13_put_r5 : List POper := [⟨some k35, .mov (.t k0), none⟩,
 ⟨some k4, .mov (.t k35), none⟩]
def ref13_put_r6 : List POper := [⟨some k6, .mov (.v .nils), none⟩]
def ref13_put_r7 : List POper := [⟨some k36, .mov (.t k6), none⟩,
 ⟨some k37, .mov (.t k0), none⟩,
 ⟨some k38, .mov (.t k5), none⟩,
 ⟨some k39, .sliceL 3 (.t k37) none (some (.t k38)), none⟩,
 ⟨some k40, .append 3 (.t k36) (.t k39), none⟩,
 ⟨some k6, .mov (.t k40), none⟩]
def ref13_put_r8 : List POper := [⟨some k41, .mov (.t k6), none⟩,
 ⟨some k42, .load true 3 (.t k3), none⟩,
 ⟨some k43, .bslice 3 1 [(.str 0 0), (.int .i64 (.lit 0)), (.int .i64 (.lit 0))] [(0, 3, (.t k42))], none⟩,
 ⟨some k44, .append 3 (.t k41) (.t k43), none⟩,
 ⟨some k6, .mov (.t k44), none⟩]
def ref13_put_r9 : List POper := [⟨some k45, .mov (.t k6), none⟩,
 ⟨some k46, .mov (.t k0), none⟩,
 ⟨some k47, .mov (.t k5), none⟩,
 ⟨some k48, .sliceL 3 (.t k46) (some (.t k47)) none, none⟩,
 ⟨some k49, .append 3 (.t k45) (.t k48), none⟩,
 ⟨some k4, .mov (.t k49), none⟩]
def ref13_put : PFn := ⟨(.seq (.ops ref13_put_r0)
 (.seq (.ops ref13_put_r1)
 (.seq (.block 0 (.loop ref13_put_l0))
 (.seq (.seq (.staged ref13_put_r4 ⟨[k23, k24, k25, k26, k27, k28, k29, k30, k31, k32, k33, k34], []⟩)
 (.cond (.t k34)
 (.seq (.ops ref13_put_r5)
 .ret)
 .skip))
 (.seq (.ops ref13_put_r6)
 (.seq (.ops ref13_put_r7)
 (.seq (.ops ref13_put_r8)
 (.seq (.ops ref13_put_r9)
 .ret)))))))),
 [.tmp k4]⟩
/- slices.Contains[[]refuter/api.Branch,refuter/api.Branch] -/
def slices_Contains_Branch_Branch_r0 : List POper := [⟨some k3, .box (.t k1), none⟩,
 ⟨some k4, .mov (.v (.bool false)), none⟩]
def slices_Contains_Branch_Branch_r1 : List POper := [⟨some k5, .mov (.t k0), none⟩,
 ⟨some k6, .load true 3 (.t k3), none⟩,
 ⟨some k7, .callF n_slices_Index_Branch_Branch [(.t k5), (.t k6)], none⟩,
 ⟨some k8, .bin .geq (.t k7) (.v (.int .i64 (.lit 0))), none⟩,
 ⟨some k4, .mov (.t k8), none⟩]
def slices_Contains_Branch_Branch : PFn := ⟨(.seq (.ops slices_Contains_Branch_Branch_r0)
 (.seq (.ops slices_Contains_Branch_Branch_r1)
 .ret)),
 [.tmp k4]⟩
/- cmp.Or[int] -/
def cmp_Or_int_r0 : List POper := [⟨some k2, .mov (.v (.int .i64 (.lit 0))), none⟩]
def cmp_Or_int_r1 : List POper := [⟨some k3, .mov (.v (.int .i64 (.lit 0))), none⟩]
def cmp_Or_int_r2 : List POper := [⟨some k6, .mov (.t k0), none⟩,
 ⟨some k7, .lenL (.t k6), none⟩,
 ⟨some k8, .mov (.v (.int .i64 (.lit 0))), none⟩]
def cmp_Or_int_r3 : List POper := [⟨some k9, .bin .lss (.t k8) (.t k7), none⟩]
def cmp_Or_int_r4 : List POper := [⟨some k10, .indexL 1 (.t k6) (.t k8), none⟩,
 ⟨some k11, .load false 1 (.t k10), none⟩,
 ⟨some k5, .mov (.t k11), none⟩]
def cmp_Or_int_r5 : List POper := [⟨some k12, .mov (.t k5), none⟩,
 ⟨some k13, .mov (.t k3), none⟩,
 ⟨some k14, .bin .neq (.t k12) (.t k13), none⟩]
def cmp_Or_int_r6 : List POper := [⟨some k15, .mov (.t k5), none⟩,
 ⟨some k2, .mov (.t k15), none⟩]
def cmp_Or_int_r7 : List POper := [⟨some k16, .bin .add (.t k8) (.v (.int .i64 (.lit 1))), none⟩,
 ⟨some k8, .mov (.t k16), none⟩]
def cmp_Or_int_l0 : PCode := (.seq (.ops cmp_Or_int_r3)
 (.seq (.cond (.t k9)
 .skip
 (.exit 0))
 (.seq (.block 1 (.seq (.ops cmp_Or_int_r4)
 (.seq (.ops cmp_Or_int_r5)
 (.cond (.t k14)
 (.seq (.ops cmp_Or_int_r6)
 .ret)
 .skip))))
 (.ops cmp_Or_int_r7))))
def cmp_Or_int_r8 : List POper := [⟨some k17, .mov (.t k3), none⟩,
 ⟨some k2, .mov (.t k17), none⟩]
def cmp_Or_int : PFn := ⟨(.seq (.ops cmp_Or_int_r0)
 (.seq (.ops cmp_Or_int_r1)
 (.seq (.seq (.ops cmp_Or_int_r2)
 (.block 0 (.loop cmp_Or_int_l0)))
 (.seq (.ops cmp_Or_int_r8)
 .ret)))),
 [.tmp k2]⟩
/- cmp.Compare[string] -/
def cmp_Compare_string_r0 : List POper := [⟨some k4, .mov (.v (.int .i64 (.lit 0))), none⟩]
def cmp_Compare_string_r1 : List POper := [⟨some k7, .mov (.t k0), none⟩,
 ⟨some k8, .callF n_cmp_isNaN_string [(.t k7)], none⟩,
 ⟨some k5, .mov (.t k8), none⟩]
def cmp_Compare_string_r2 : List POper := [⟨some k9, .mov (.t k1), none⟩,
 ⟨some k10, .callF n_cmp_isNaN_string [(.t k9)], none⟩,
 ⟨some k6, .mov (.t k10), none⟩]
def cmp_Compare_string_r3 : List POper := [⟨some k11, .mov (.t k5), none⟩]
def cmp_Compare_string_r4 : List POper := [⟨some k12, .mov (.t k6), none⟩]
def cmp_Compare_string_r5 : List POper := [⟨some k4, .mov (.v (.int .i64 (.lit 0))), none⟩]
def cmp_Compare_string_r6 : List POper := [⟨some k4, .mov (.v (.int .i64 (.lit (-1)))), none⟩]
def cmp_Compare_string_r7 : List POper := [⟨some k13, .mov (.t k6), none⟩]
def cmp_Compare_string_r8 : List POper := [⟨some k4, .mov (.v (.int .i64 (.lit 1))), none⟩]
def cmp_Compare_string_r9 : List POper := [⟨some k14, .mov (.t k0), none⟩,
 ⟨some k15, .mov (.t k1), none⟩,
 ⟨some k16, .bin .lss (.t k14) (.t k15), none⟩]
def cmp_Compare_string_r10 : List POper := [⟨some k4, .mov (.v (.int .i64 (.lit (-1)))), none⟩]
def cmp_Compare_string_r11 : List POper := [⟨some k17, .mov (.t k0), none⟩,
 ⟨some k18, .mov (.t k1), none⟩,
 ⟨some k19, .bin .gtr (.t k17) (.t k18), none⟩]
def cmp_Compare_string_r12 : List POper := [⟨some k4, .mov (.v (.int .i64 (.lit 1))), none⟩]
def cmp_Compare_string_r13 : List POper := [⟨some k4, .mov (.v (.int .i64 (.lit 0))), none⟩]
def cmp_Compare_string : PFn := ⟨(.seq (.ops cmp_Compare_string_r0)
 (.seq (.ops cmp_Compare_string_r1)
 (.seq (.ops cmp_Compare_string_r2)
 (.seq (.seq (.ops cmp_Compare_string_r3)
 (.cond (.t k11)
 (.seq (.seq (.ops cmp_Compare_string_r4)
 (.cond (.t k12)
 (.seq (.ops cmp_Compare_string_r5)
 .ret)
 .skip))
 (.seq (.ops cmp_Compare_string_r6)
 .ret))
 .skip))
 (.seq (.seq (.ops cmp_Compare_string_r7)
 (.cond (.t k13)
 (.seq (.ops cmp_Compare_string_r8)
 .ret)
 .skip))
 (.seq (.seq (.ops cmp_Compare_string_r9)
 (.cond (.t k16)
 (.seq (.ops cmp_Compare_string_r10)
 .ret)
 .skip))
 (.seq (.seq (.ops cmp_Compare_string_r11)
 (.cond (.t k19)
 (.seq (.ops cmp_Compare_string_r12)
 .ret)
 .skip))
 (.seq (.ops cmp_Compare_string_r13)
 .ret)))))))),
 [.tmp k4]⟩
/- cmp.Compare[int] -/
def cmp_Compare_int_r0 : List POper := [⟨some k4, .mov (.v (.int .i64 (.lit 0))), none⟩]
def cmp_Compare_int_r1 : List POper := [⟨some k7, .mov (.t k0), none⟩,
 ⟨some k8, .callF n_cmp_isNaN_int [(.t k7)], none⟩,
 ⟨some k5, .mov (.t k8), none⟩]
def cmp_Compare_int_r2 : List POper := [⟨some k9, .mov (.t k1), none⟩,
 ⟨some k10, .callF n_cmp_isNaN_int [(.t k9)], none⟩,
 ⟨some k6, .mov (.t k10), none⟩]
def cmp_Compare_int_r3 : List POper := [⟨some k11, .mov (.t k5), none⟩]
def cmp_Compare_int_r4 : List POper := [⟨some k12, .mov (.t k6), none⟩]
def cmp_Compare_int_r5 : List POper := [⟨some k4, .mov (.v (.int .i64 (.lit 0))), none⟩]
def cmp_Compare_int_r6 : List POper := [⟨some k4, .mov (.v (.int .i64 (.lit (-1)))), none⟩]
def cmp_Compare_int_r7 : List POper := [⟨some k13, .mov (.t k6), none⟩]
def cmp_Compare_int_r8 : List POper := [⟨some k4, .mov (.v (.int .i64 (.lit 1))), none⟩]
def cmp_Compare_int_r9 : List POper := [⟨some k14, .mov (.t k0), none⟩,
 ⟨some k15, .mov (.t k1), none⟩,
 ⟨some k16, .bin .lss (.t k14) (.t k15), none⟩]
def cmp_Compare_int_r10 : List POper := [⟨some k4, .mov (.v (.int .i64 (.lit (-1)))), none⟩]
def cmp_Compare_int_r11 : List POper := [⟨some k17, .mov (.t k0), none⟩,
 ⟨some k18, .mov (.t k1), none⟩,
 ⟨some k19, .bin .gtr (.t k17) (.t k18), none⟩]
def cmp_Compare_int_r12 : List POper := [⟨some k4, .mov (.v (.int .i64 (.lit 1))), none⟩]
def cmp_Compare_int_r13 : List POper := [⟨some k4, .mov (.v (.int .i64 (.lit 0))), none⟩]
def cmp_Compare_int : PFn := ⟨(.seq (.ops cmp_Compare_int_r0)
 (.seq (.ops cmp_Compare_int_r1)
 (.seq (.ops cmp_Compare_int_r2)
 (.seq (.seq (.ops cmp_Compare_int_r3)
 (.cond (.t k11)
 (.seq (.seq (.ops cmp_Compare_int_r4)
 (.cond (.t k12)
 (.seq (.ops cmp_Compare_int_r5)
 .ret)
 .skip))
 (.seq (.ops cmp_Compare_int_r6)
 .ret))
 .skip))
 (.seq (.seq (.ops cmp_Compare_int_r7)
 (.cond (.t k13)
 (.seq (.ops cmp_Compare_int_r8)
 .ret)
 .skip))
 (.seq (.seq (.ops cmp_Compare_int_r9)
 (.cond (.t k16)
 (.seq (.ops cmp_Compare_int_r10)
 .ret)
 .skip))
 (.seq (.seq (.ops cmp_Compare_int_r11)
 (.cond (.t k19)
 (.seq (.ops cmp_Compare_int_r12)
 .ret)
 .skip))
 (.seq (.ops cmp_Compare_int_r13)
 .ret)))))))),
 [.tmp k4]⟩
/- refuter/refuterref13.sign -/
def ref13_sign_r0 : List POper := [⟨some k2, .mov (.v (.int .i64 (.lit 0))), none⟩]
def ref13_sign_r1 : List POper := [⟨some k3, .mov (.t k0), none⟩]
def ref13_sign_r2 : List POper := [⟨some k2, .mov (.v (.int .i64 (.lit (-1)))), none⟩]
def ref13_sign_r3 : List POper := [⟨some k2, .mov (.v (.int .i64 (.lit 1))), none⟩]
def ref13_sign : PFn := ⟨(.seq (.ops ref13_sign_r0)
 (.seq (.seq (.ops ref13_sign_r1)
 (.cond (.t k3)
 (.seq (.ops ref13_sign_r2)
 .ret)
 .skip))
 (.seq (.ops ref13_sign_r3)
 .ret))),
 [.tmp k2]⟩
/- refuter/branch.Pairs -/
def branch_Pairs_r0 : List POper := [⟨some k2, .mov (.v .nils), none⟩]
def branch_Pairs_r1 : List POper := [⟨some k7, .mkmap, none⟩,
 ⟨some k3, .mov (.t k7), none⟩]
def branch_Pairs_r2 : List POper := [⟨some k4, .mov (.v (.int .i64 (.lit 1))), none⟩]
def branch_Pairs_r3 : List POper := [⟨some k8, .mov (.t k4), none⟩,
 ⟨some k9, .mov (.t k0), none⟩,
 ⟨some k10, .lenL (.t k9), none⟩,
 ⟨some k11, .bin .lss (.t k8) (.t k10), none⟩]
def branch_Pairs_r4 : List SItem := [.L 0 ⟨some k14, .mov (.t k3), none⟩,
 .L 1 ⟨some k15, .mov (.t k0), none⟩,
 .L 2 ⟨some k16, .mov (.t k4), none⟩,
 .L 3 ⟨some k17, .bin .sub (.t k16) (.v (.int .i64 (.lit 1))), none⟩,
 .L 4 ⟨some k18, .indexL 3 (.t k15) (.t k17), none⟩,
 .L 5 ⟨some k19, .load true 3 (.t k18), none⟩,
 .L 6 ⟨some k20, .mov (.t k0), none⟩,
 .L 7 ⟨some k21, .mov (.t k4), none⟩,
 .L 8 ⟨some k22, .indexL 3 (.t k20) (.t k21), none⟩,
 .L 9 ⟨some k23, .load true 3 (.t k22), none⟩,
 .L 10 ⟨some k24, .build [(.str 0 0), (.int .i64 (.lit 0)), (.int .i64 (.lit 0)), (.str 0 0), (.int .i64 (.lit 0)), (.int .i64 (.lit 0))] [(0, 3, (.t k19)), (3, 3, (.t k23))], none⟩,
 .H 11 ⟨none, .mapupdP (.parts [(0, .str), (1, .int), (2, .int), (3, .str), (4, .int), (5, .int)]) (.t k14) (.t k24) (.v (.bool true)), none⟩ [],
 .R []]
def branch_Pairs_r5 : List POper := [⟨some k12, .mov (.t k4), none⟩,
 ⟨some k13, .bin .add (.t k12) (.v (.int .i64 (.lit 1))), none⟩,
 ⟨some k4, .mov (.t k13), none⟩]
def branch_Pairs_l0 : PCode := (.seq (.seq (.ops branch_Pairs_r3)
 (.cond (.t k11)
 .skip
 (.exit 0)))
 (.seq (.block 1 (.staged branch_Pairs_r4 ⟨[k14, k15, k16, k17, k18, k19, k20, k21, k22, k23, k24], []⟩))
 (.ops branch_Pairs_r5)))
def branch_Pairs_r6 : List POper := [⟨some k25, .mov (.t k3), none⟩,
 ⟨some k26, .lenM (.t k25), none⟩,
 ⟨some k27, .mkslice 6 [(.str 0 0), (.int .i64 (.lit 0)), (.int .i64 (.lit 0)), (.str 0 0), (.int .i64 (.lit 0)), (.int .i64 (.lit 0))] (.v (.int .i64 (.lit 0))) (.t k26), none⟩,
 ⟨some k5, .mov (.t k27), none⟩]
def branch_Pairs_r7 : List POper := [⟨some k28, .mov (.t k3), none⟩,
 ⟨some k29, .rangeM (.t k28), none⟩]
def branch_Pairs_r8 : List POper := [⟨some k30, .nextM (.t k29), none⟩,
 ⟨some k31, .extract (.t k30) 0, none⟩]
def branch_Pairs_r9 : List POper := [⟨some k32, .entryM (.t k29), none⟩,
 ⟨some k33, .extract (.t k32) 0, none⟩,
 ⟨some k6, .new [(.str 0 0), (.int .i64 (.lit 0)), (.int .i64 (.lit 0)), (.str 0 0), (.int .i64 (.lit 0)), (.int .i64 (.lit 0))], none⟩,
 ⟨none, .store 6 (.t k6) (.t k33), none⟩]
def branch_Pairs_r10 : List POper := [⟨some k34, .mov (.t k5), none⟩,
 ⟨some k35, .load true 6 (.t k6), none⟩,
 ⟨some k36, .bslice 6 1 [(.str 0 0), (.int .i64 (.lit 0)), (.int .i64 (.lit 0)), (.str 0 0), (.int .i64 (.lit 0)), (.int .i64 (.lit 0))] [(0, 6, (.t k35))], none⟩,
 ⟨some k37, .append 6 (.t k34) (.t k36), none⟩,
 ⟨some k5, .mov (.t k37), none⟩]
def branch_Pairs_l1 : PCode := (.seq (.ops branch_Pairs_r8)
 (.seq (.cond (.t k31)
 .skip
 (.exit 2))
 (.block 3 (.seq (.ops branch_Pairs_r9)
 (.ops branch_Pairs_r10)))))
def branch_Pairs_r11 : List POper := [⟨some k38, .mov (.t k5), none⟩,
 ⟨some k39, .callF n_slices_SortFunc_2_Branch_2_Branch [(.t k38), (.v (.fn n_branch_Pairs_c1 [] []))], none⟩]
def branch_Pairs_r12 : List POper := [⟨some k40, .mov (.t k5), none⟩,
 ⟨some k2, .mov (.t k40), none⟩]
def branch_Pairs : PFn := ⟨(.seq (.ops branch_Pairs_r0)
 (.seq (.ops branch_Pairs_r1)
 (.seq (.seq (.ops branch_Pairs_r2)
 (.block 0 (.loop branch_Pairs_l0)))
 (.seq (.ops branch_Pairs_r6)
 (.seq (.seq (.ops branch_Pairs_r7)
 (.block 2 (.loop branch_Pairs_l1)))
 (.seq (.ops branch_Pairs_r11)
 (.seq (.ops branch_Pairs_r12)
 .ret))))))),
 [.tmp k2]⟩
/- slices.Index[[]refuter/api.Branch,refuter/api.Branch] -/
def slices_Index_Branch_Branch_r0 : List POper := [⟨some k3, .box (.t k1), none⟩,
 ⟨some k4, .mov (.v (.int .i64 (.lit 0))), none⟩]
def slices_Index_Branch_Branch_r1 : List POper := [⟨some k6, .mov (.t k0), none⟩,
 ⟨some k7, .lenL (.t k6), none⟩,
 ⟨some k8, .mov (.v (.int .i64 (.lit 0))), none⟩]
def slices_Index_Branch_Branch_r2 : List POper := [⟨some k9, .bin .lss (.t k8) (.t k7), none⟩]
def slices_Index_Branch_Branch_r3 : List POper := [⟨some k10, .mov (.t k8), none⟩,
 ⟨some k5, .mov (.t k10), none⟩]
def slices_Index_Branch_Branch_r4 : List SItem := [.L 0 ⟨some k11, .load true 3 (.t k3), none⟩,
 .L 1 ⟨some k12, .mov (.t k0), none⟩,
 .L 2 ⟨some k13, .mov (.t k5), none⟩,
 .L 3 ⟨some k14, .indexL 3 (.t k12) (.t k13), none⟩,
 .L 4 ⟨some k15, .load true 3 (.t k14), none⟩,
 .L 5 ⟨some k16, .eq false (.parts [(0, .str), (1, .int), (2, .int)]) (.t k11) (.t k15), none⟩]
def slices_Index_Branch_Branch_r5 : List POper := [⟨some k17, .mov (.t k5), none⟩,
 ⟨some k4, .mov (.t k17), none⟩]
def slices_Index_Branch_Branch_r6 : List POper := [⟨some k18, .bin .add (.t k8) (.v (.int .i64 (.lit 1))), none⟩,
 ⟨some k8, .mov (.t k18), none⟩]
def slices_Index_Branch_Branch_l0 : PCode := (.seq (.ops slices_Index_Branch_Branch_r2)
 (.seq (.cond (.t k9)
 .skip
 (.exit 0))
 (.seq (.block 1 (.seq (.ops slices_Index_Branch_Branch_r3)
 (.seq (.staged slices_Index_Branch_Branch_r4 ⟨[k11, k12, k13, k14, k15, k16], []⟩)
 (.cond (.t k16)
 (.seq (.ops slices_Index_Branch_Branch_r5)
 .ret)
 .skip))))
 (.ops slices_Index_Branch_Branch_r6))))
def slices_Index_Branch_Branch_r7 : List POper := [⟨some k4, .mov (.v (.int .i64 (.lit (-1)))), none⟩]
def slices_Index_Branch_Branch : PFn := ⟨(.seq (.ops slices_Index_Branch_Branch_r0)
 (.seq (.seq (.ops slices_Index_Branch_Branch_r1)
 (.block 0 (.loop slices_Index_Branch_Branch_l0)))
 (.seq (.ops slices_Index_Branch_Branch_r7)
 .ret))),
 [.tmp k4]⟩
/- cmp.isNaN[string] -/
def cmp_isNaN_string_r0 : List POper := [⟨some k2, .mov (.v (.bool false)), none⟩]
def cmp_isNaN_string_r1 : List POper := [⟨some k3, .mov (.t k0), none⟩,
 ⟨some k4, .mov (.t k0), none⟩,
 ⟨some k5, .bin .neq (.t k3) (.t k4), none⟩,
 ⟨some k2, .mov (.t k5), none⟩]
def cmp_isNaN_string : PFn := ⟨(.seq (.ops cmp_isNaN_string_r0)
 (.seq (.ops cmp_isNaN_string_r1)
 .ret)),
 [.tmp k2]⟩
/- cmp.isNaN[int] -/
def cmp_isNaN_int_r0 : List POper := [⟨some k2, .mov (.v (.bool false)), none⟩]
def cmp_isNaN_int_r1 : List POper := [⟨some k3, .mov (.t k0), none⟩,
 ⟨some k4, .mov (.t k0), none⟩,
 ⟨some k5, .bin .neq (.t k3) (.t k4), none⟩,
 ⟨some k2, .mov (.t k5), none⟩]
def cmp_isNaN_int : PFn := ⟨(.seq (.ops cmp_isNaN_int_r0)
 (.seq (.ops cmp_isNaN_int_r1)
 .ret)),
 [.tmp k2]⟩
/- refuter/branch.Pairs$1 -/
def branch_Pairs_c1_r0 : List POper := [⟨some k2, .box (.t k0), none⟩,
 ⟨some k3, .box (.t k1), none⟩,
 ⟨some k4, .mov (.v (.int .i64 (.lit 0))), none⟩]
def branch_Pairs_c1_r1 : List SItem := [.L 0 ⟨some k5, .indexA 2 3 (.t k2) (.v (.int .i64 (.lit 0))), none⟩,
 .L 1 ⟨some k6, .load true 3 (.t k5), none⟩,
 .L 2 ⟨some k7, .indexA 2 3 (.t k3) (.v (.int .i64 (.lit 0))), none⟩,
 .L 3 ⟨some k8, .load true 3 (.t k7), none⟩,
 .L 5 ⟨some k10, .indexA 2 3 (.t k2) (.v (.int .i64 (.lit 1))), none⟩,
 .L 6 ⟨some k11, .load true 3 (.t k10), none⟩,
 .L 7 ⟨some k12, .indexA 2 3 (.t k3) (.v (.int .i64 (.lit 1))), none⟩,
 .L 8 ⟨some k13, .load true 3 (.t k12), none⟩,
 .H 4 ⟨some k9, .callF n_branch_Compare [(.t k6), (.t k8)], none⟩ [],
 .R [(6, ⟨some k11, .load true 3 (.t k10), none⟩), (8, ⟨some k13, .load true 3 (.t k12), none⟩)],
 .H 9 ⟨some k14, .callF n_branch_Compare [(.t k11), (.t k13)], none⟩ [],
 .R [],
 .A 10 ⟨some k15, .bslice 1 2 [(.int .i64 (.lit 0))] [(0, 1, (.t k9)), (1, 1, (.t k14))], none⟩,
 .H 11 ⟨some k16, .callF n_cmp_Or_int [(.t k15)], none⟩ [10],
 .R [],
 .L 12 ⟨some k4, .mov (.t k16), none⟩]
def branch_Pairs_c1 : PFn := ⟨(.seq (.ops branch_Pairs_c1_r0)
 (.seq (.staged branch_Pairs_c1_r1 ⟨[k5, k6, k7, k8, k9, k10, k11, k12, k13, k14, k15, k16, k4], []⟩)
 .ret)),
 [.tmp k4]⟩
def fns : T PFn := (.node none (.node none (.node (some law13_BranchSets) (.node (some ref13_Same) (.node (some ref13_Has) (.node (some branch_members) .nil .nil) .nil) .nil) (.node (some ref13_Union) (.node (some law13_increasing) (.node (some cmp_Compare_string) .nil .nil) .nil) .nil)) (.node none (.node (some ref13_Set) (.node (some ref13_Compare) (.node (some slices_Contains_Branch_Branch) .nil .nil) .nil) .nil) (.node (some ref13_Minus) (.node none (.node (some ref13_sign) .nil .nil) (.node (some cmp_isNaN_string) .nil .nil)) (.node (some ref01_Around) .nil .nil)))) (.node none (.node (some law13_BranchAlgebra) (.node (some branch_Set) (.node (some branch_Compare) (.node (some ref13_put) .nil .nil) .nil) (.node none (.node (some branch_Pairs) .nil .nil) .nil)) (.node (some branch_Minus) (.node none (.node (some cmp_Compare_int) .nil .nil) (.node (some slices_Index_Branch_Branch) .nil .nil)) .nil)) (.node (some ref13_List) (.node (some branch_Union) (.node none (.node (some cmp_Or_int) .nil .nil) .nil) .nil) (.node (some branch_Has) (.node none .nil (.node (some cmp_isNaN_int) .nil .nil)) (.node (some branch_ordered) .nil (.node (some branch_Pairs_c1) .nil .nil))))))
def fnsL : List (Nat × PFn) := [(3, law13_BranchSets), (4, law13_BranchAlgebra), (6, ref13_List), (7, ref13_Same), (8, branch_Set), (9, ref13_Set), (10, branch_Union), (11, ref13_Union), (12, branch_Minus), (13, ref13_Minus), (14, branch_Has), (15, ref13_Has), (16, branch_Compare), (17, ref13_Compare), (19, law13_increasing), (29, ref01_Around), (30, branch_ordered), (31, branch_members), (32, ref13_put), (33, slices_Contains_Branch_Branch), (34, cmp_Or_int), (35, cmp_Compare_string), (36, cmp_Compare_int), (37, ref13_sign), (40, branch_Pairs), (52, slices_Index_Branch_Branch), (53, cmp_isNaN_string), (54, cmp_isNaN_int), (62, branch_Pairs_c1)]
def g0 : List AV := [(.str 3 6581857), (.str 4 1819242338), (.str 5 461229090915), (.str 5 469919427683), (.str 5 495857003619), (.str 7 28268862397837155), (.str 4 1702063205), (.str 5 435728179558), (.str 3 7239014), (.str 3 7234919), (.str 2 26217), (.str 2 28265), (.str 3 7630441), (.str 3 7628140), (.str 4 1953720684), (.str 4 1701536109), (.str 5 448345170285), (.str 5 465557548909), (.str 4 1954047342), (.str 3 7630702), (.str 2 26223), (.str 3 6647407), (.str 2 28783), (.str 2 29295), (.str 4 1801677168), (.str 4 1953722224), (.str 3 6648432), (.str 4 1886351984), (.str 7 32199706694346098), (.str 6 128009175786866), (.str 6 121437875889522), (.str 4 1885697139), (.str 6 120282512849267), (.str 4 1852139636), (.str 4 1702195828), (.str 4 1701869940), (.str 5 435710945399)]
def g1 : List AV := [(.str 2 15917), (.str 2 11580), (.str 2 15676), (.str 2 15677), (.str 2 15649), (.str 2 11822), (.str 1 40), (.str 1 41), (.str 1 91), (.str 1 93), (.str 1 123), (.str 1 125), (.str 1 44), (.str 1 59), (.str 1 58), (.str 1 61), (.str 1 60), (.str 1 43), (.str 1 45), (.str 1 42), (.str 1 47), (.str 1 124)]
def heap0 : T Blk := (.node (some (.cells g0 .ro)) (.node (some (.cells g1 .ro)) .nil .nil) .nil)
end Tb
