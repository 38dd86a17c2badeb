/- A part of the proof: SxTe. No condition. -/
import Derived.Test.YthhjnogfljegnaaGreatDoorMLogic
set_option linter.unusedSimpArgs false
set_option linter.unusedVariables false
set_option linter.unusedSectionVars false
namespace Tz
open Go.Sx
def n_law12_EvalIntegers : Nat := 9
def n_law12_plenty : Nat := 17
def n_law12_lives : Nat := 18
def n_ref10_Value : Nat := 23
def n_parser_ParseExpr : Nat := 26
def n_eval_Expr : Nat := 27
def n_law12_holds : Nat := 30
def n_law12_run : Nat := 31
def n_values_Valid : Nat := 42
def n_values_Size : Nat := 43
def n_values_Compare : Nat := 44
def n_law12_value : Nat := 58
def n_ref10_G_Value : Nat := 63
def n_parser_read_Expr : Nat := 64
def n_parser_reader_expr : Nat := 65
def n_parser_checker_expr : Nat := 66
def n_eval_newRun : Nat := 67
def n_eval_measured : Nat := 68
def n_eval_run_result : Nat := 69
def n_eval_Expr_c1 : Nat := 70
def n_eval_run_eval : Nat := 71
def n_values_visit : Nat := 82
def n_values_Valid_c1 : Nat := 83
def n_values_formed : Nat := 84
def n_values_fits : Nat := 85
def n_values_Size_c1 : Nat := 86
def n_cmp_Compare_int : Nat := 87
def n_cmp_Compare_string : Nat := 88
def n_slices_CompareFunc_Value_Value_Value_Value : Nat := 89
def n_ref10_G_Next : Nat := 114
def n_lexer_Tokens : Nat := 115
def n_parser_read_Expr_c1 : Nat := 116
def n_parser_reader_offset : Nat := 118
def n_parser_reader_accept : Nat := 119
def n_parser_reader_expect : Nat := 120
def n_parser_reader_name : Nat := 121
def n_parser_reader_or : Nat := 123
def n_parser_checker_most : Nat := 124
def n_parser_checker_exprDepth : Nat := 125
def n_eval_builtins : Nat := 126
def n_eval_run_result_c1 : Nat := 127
def n_clone_Value : Nat := 128
def n_eval_end : Nat := 129
def n_eval_run_value : Nat := 130
def n_values_visit_c1 : Nat := 135
def n_values_capital : Nat := 136
def n_cmp_isNaN_int : Nat := 137
def n_cmp_isNaN_string : Nat := 138
def n_lexer_tokens : Nat := 168
def n_parser_reader_is : Nat := 169
def n_parser_reader_named : Nat := 170
def n_parser_reader_take : Nat := 171
def n_parser_reader_grouped : Nat := 174
def n_parser_reader_and : Nat := 175
def n_parser_checker_need : Nat := 176
def n_parser_checker_between : Nat := 177
def n_parser_checker_word : Nat := 178
def n_parser_rank : Nat := 181
def n_eval_builtins_c1 : Nat := 182
def n_eval_number : Nat := 183
def n_eval_list : Nat := 184
def n_eval_at : Nat := 185
def n_eval_builtins_c2 : Nat := 186
def n_eval_builtins_c3 : Nat := 187
def n_eval_part : Nat := 188
def n_eval_builtins_c4 : Nat := 189
def n_eval_set : Nat := 190
def n_eval_builtins_c5 : Nat := 191
def n_eval_chosen : Nat := 192
def n_eval_builtins_c6 : Nat := 193
def n_eval_flip : Nat := 194
def n_clone_List_Value : Nat := 195
def n_eval_need : Nat := 196
def n_eval_truth : Nat := 197
def n_eval_run_apply : Nat := 198
def n_eval_joined : Nat := 199
def n_eval_run_all : Nat := 200
def n_eval_run_truth : Nat := 201
def n_eval_run_op : Nat := 203
def n_values_inName : Nat := 204
def n_parser_reader_number : Nat := 209
def n_lexer_tokens_c1 : Nat := 242
def n_lexer_skip : Nat := 243
def n_lexer_next : Nat := 244
def n_parser_reader_kind : Nat := 245
def n_parser_isReserved : Nat := 246
def n_parser_reader_operator : Nat := 247
def n_parser_reader_not : Nat := 248
def n_parser_single : Nat := 249
def n_eval_element : Nat := 250
def n_eval_integer : Nat := 251
def n_lexer_small : Nat := 281
def n_lexer_span : Nat := 282
def n_lexer_inWord : Nat := 283
def n_lexer_great : Nat := 284
def n_lexer_digit : Nat := 286
def n_lexer_number : Nat := 287
def n_lexer_symbol : Nat := 288
def n_parser_reader_compare : Nat := 289
def n_parser_list_Expr : Nat := 293
def n_strings_HasPrefix : Nat := 299
def n_parser_reader_sum : Nat := 300
def n_parser_some_Expr : Nat := 302
def n_stringslite_HasPrefix : Nat := 304
def n_parser_reader_product : Nat := 305
def n_parser_reader_operand : Nat := 308
def ty_parser_misfit : Nat := 218
def ty_eval_stop : Nat := 227
def law12_EvalIntegers_r0 : List POper := [⟨some k6, .mov (.v (.bool false)), none⟩]
def law12_EvalIntegers_r1 : List POper := [⟨some k23, .mov (.t k2), none⟩,
 ⟨some k24, .callF n_ref10_Value [(.t k23), (.v (.int .i64 (.lit 0)))], none⟩,
 ⟨some k7, .new [(.int .i64 (.lit 0)), (.int .i64 (.lit 0)), (.str 0 0), .nils], none⟩,
 ⟨none, .store 4 (.t k7) (.t k24), none⟩]
def law12_EvalIntegers_r2 : List POper := [⟨some k25, .mov (.t k2), none⟩,
 ⟨some k26, .callF n_ref10_Value [(.t k25), (.v (.int .i64 (.lit 5)))], none⟩,
 ⟨some k8, .new [(.int .i64 (.lit 0)), (.int .i64 (.lit 0)), (.str 0 0), .nils], none⟩,
 ⟨none, .store 4 (.t k8) (.t k26), none⟩]
def law12_EvalIntegers_r3 : List POper := [⟨some k27, .build [(.int .i64 (.lit 0)), (.int .i64 (.lit 0)), (.str 0 0), .nils] [(0, 1, (.v (.int .i64 (.lit 2))))], none⟩,
 ⟨some k9, .new [(.int .i64 (.lit 0)), (.int .i64 (.lit 0)), (.str 0 0), .nils], none⟩,
 ⟨none, .store 4 (.t k9) (.t k27), none⟩]
def law12_EvalIntegers_r4 : List POper := [⟨some k29, .load true 4 (.t k9), none⟩,
 ⟨some k30, .mov (.t k0), none⟩,
 ⟨some k31, .mov (.t k1), none⟩,
 ⟨some k32, .callF n_law12_run [(.v (.str 5 515935772777)), (.t k29), (.t k30), (.t k31)], none⟩,
 ⟨some k28, .mov (.t k32), none⟩,
 ⟨some k33, .extract (.t k28) 0, none⟩,
 ⟨some k34, .extract (.t k28) 1, none⟩,
 ⟨some k10, .new [(.int .i64 (.lit 0)), (.int .i64 (.lit 0)), (.str 0 0), .nils], none⟩,
 ⟨none, .store 4 (.t k10) (.t k33), none⟩,
 ⟨some k11, .mov (.t k34), none⟩]
def law12_EvalIntegers_r5 : List POper := [⟨some k36, .load true 4 (.t k9), none⟩,
 ⟨some k37, .mov (.t k0), none⟩,
 ⟨some k38, .mov (.t k1), none⟩,
 ⟨some k39, .callF n_law12_run [(.v (.str 5 515935903849)), (.t k36), (.t k37), (.t k38)], none⟩,
 ⟨some k35, .mov (.t k39), none⟩,
 ⟨some k40, .extract (.t k35) 0, none⟩,
 ⟨some k41, .extract (.t k35) 1, none⟩,
 ⟨some k12, .new [(.int .i64 (.lit 0)), (.int .i64 (.lit 0)), (.str 0 0), .nils], none⟩,
 ⟨none, .store 4 (.t k12) (.t k40), none⟩,
 ⟨some k13, .mov (.t k41), none⟩]
def law12_EvalIntegers_r6 : List POper := [⟨some k43, .load true 4 (.t k9), none⟩,
 ⟨some k44, .mov (.t k0), none⟩,
 ⟨some k45, .mov (.t k1), none⟩,
 ⟨some k46, .callF n_law12_run [(.v (.str 5 515935707241)), (.t k43), (.t k44), (.t k45)], none⟩,
 ⟨some k42, .mov (.t k46), none⟩,
 ⟨some k47, .extract (.t k42) 0, none⟩,
 ⟨some k48, .extract (.t k42) 1, none⟩,
 ⟨some k14, .new [(.int .i64 (.lit 0)), (.int .i64 (.lit 0)), (.str 0 0), .nils], none⟩,
 ⟨none, .store 4 (.t k14) (.t k47), none⟩,
 ⟨some k15, .mov (.t k48), none⟩]
def law12_EvalIntegers_r7 : List POper := [⟨some k49, .mov (.t k11), none⟩,
 ⟨some k50, .bin .neq (.t k49) (.v (.int .i64 (.lit 0))), none⟩,
 ⟨some k51, .mov (.t k50), none⟩,
 ⟨some k52, .mov (.t k13), some (k51, false)⟩,
 ⟨some k53, .bin .neq (.t k52) (.v (.int .i64 (.lit 0))), some (k51, false)⟩,
 ⟨some k54, .pick (.t k51) (.v (.bool true)) (.t k53), none⟩,
 ⟨some k55, .mov (.t k54), none⟩,
 ⟨some k56, .mov (.t k15), some (k55, false)⟩,
 ⟨some k57, .bin .neq (.t k56) (.v (.int .i64 (.lit 0))), some (k55, false)⟩,
 ⟨some k58, .pick (.t k55) (.v (.bool true)) (.t k57), none⟩,
 ⟨some k59, .mov (.t k58), none⟩,
 ⟨some k60, .fieldA 1 (.t k10), some (k59, false)⟩,
 ⟨some k61, .load false 1 (.t k60), some (k59, false)⟩,
 ⟨some k62, .mov (.t k0), some (k59, false)⟩,
 ⟨some k63, .mov (.t k1), some (k59, false)⟩,
 ⟨some k64, .bin .add (.t k62) (.t k63), some (k59, false)⟩,
 ⟨some k65, .bin .neq (.t k61) (.t k64), some (k59, false)⟩,
 ⟨some k66, .pick (.t k59) (.v (.bool true)) (.t k65), none⟩,
 ⟨some k67, .mov (.t k66), none⟩,
 ⟨some k68, .fieldA 1 (.t k12), some (k67, false)⟩,
 ⟨some k69, .load false 1 (.t k68), some (k67, false)⟩,
 ⟨some k70, .mov (.t k0), some (k67, false)⟩,
 ⟨some k71, .mov (.t k1), some (k67, false)⟩,
 ⟨some k72, .bin .sub (.t k70) (.t k71), some (k67, false)⟩,
 ⟨some k73, .bin .neq (.t k69) (.t k72), some (k67, false)⟩,
 ⟨some k74, .pick (.t k67) (.v (.bool true)) (.t k73), none⟩,
 ⟨some k75, .mov (.t k74), none⟩,
 ⟨some k76, .fieldA 1 (.t k14), some (k75, false)⟩,
 ⟨some k77, .load false 1 (.t k76), some (k75, false)⟩,
 ⟨some k78, .mov (.t k0), some (k75, false)⟩,
 ⟨some k79, .mov (.t k1), some (k75, false)⟩,
 ⟨some k80, .bin .mul (.t k78) (.t k79), some (k75, false)⟩,
 ⟨some k81, .bin .neq (.t k77) (.t k80), some (k75, false)⟩,
 ⟨some k82, .pick (.t k75) (.v (.bool true)) (.t k81), none⟩]
def law12_EvalIntegers_r8 : List POper := [⟨some k6, .mov (.v (.bool false)), none⟩]
def law12_EvalIntegers_r9 : List POper := [⟨some k83, .load true 4 (.t k9), none⟩,
 ⟨some k84, .mov (.t k0), none⟩,
 ⟨some k85, .mov (.t k1), none⟩,
 ⟨some k86, .callF n_law12_holds [(.v (.str 44 1483988504541869075371492497200635540824052132543967341476122812250333502174227251841087240893548357249320)), (.t k83), (.t k84), (.t k85)], none⟩,
 ⟨some k87, .un .not (.t k86), none⟩,
 ⟨some k88, .mov (.t k87), none⟩,
 ⟨some k89, .load true 4 (.t k9), some (k88, false)⟩,
 ⟨some k90, .mov (.t k0), some (k88, false)⟩,
 ⟨some k91, .mov (.t k1), some (k88, false)⟩,
 ⟨some k92, .callF n_law12_holds [(.v (.str 29 1118008550796780276149206645522419713543998169686675246966910937491752)), (.t k89), (.t k90), (.t k91)], some (k88, false)⟩,
 ⟨some k93, .un .not (.t k92), some (k88, false)⟩,
 ⟨some k94, .pick (.t k88) (.v (.bool true)) (.t k93), none⟩,
 ⟨some k95, .mov (.t k94), none⟩,
 ⟨some k96, .load true 4 (.t k9), some (k95, false)⟩,
 ⟨some k97, .mov (.t k0), some (k95, false)⟩,
 ⟨some k98, .mov (.t k1), some (k95, false)⟩,
 ⟨some k99, .callF n_law12_holds [(.v (.str 30 829076821669725544967323111822577728869573195729916422996041996724363629)), (.t k96), (.t k97), (.t k98)], some (k95, false)⟩,
 ⟨some k100, .un .not (.t k99), some (k95, false)⟩,
 ⟨some k101, .pick (.t k95) (.v (.bool true)) (.t k100), none⟩]
def law12_EvalIntegers_r10 : List POper := [⟨some k6, .mov (.v (.bool false)), none⟩]
def law12_EvalIntegers_r11 : List POper := [⟨some k102, .load true 4 (.t k7), none⟩,
 ⟨some k103, .callF n_values_Valid [(.t k102)], none⟩,
 ⟨some k104, .bin .neq (.t k103) (.v (.int .i64 (.lit 0))), none⟩,
 ⟨some k105, .mov (.t k104), none⟩,
 ⟨some k106, .load true 4 (.t k8), some (k105, false)⟩,
 ⟨some k107, .callF n_values_Valid [(.t k106)], some (k105, false)⟩,
 ⟨some k108, .bin .neq (.t k107) (.v (.int .i64 (.lit 0))), some (k105, false)⟩,
 ⟨some k109, .pick (.t k105) (.v (.bool true)) (.t k108), none⟩,
 ⟨some k110, .mov (.t k109), none⟩,
 ⟨some k111, .load true 4 (.t k7), some (k110, false)⟩,
 ⟨some k112, .callF n_values_Size [(.t k111)], some (k110, false)⟩,
 ⟨some k113, .bin .gtr (.t k112) (.v (.int .i64 (.lit 900))), some (k110, false)⟩,
 ⟨some k114, .pick (.t k110) (.v (.bool true)) (.t k113), none⟩,
 ⟨some k115, .mov (.t k114), none⟩,
 ⟨some k116, .load true 4 (.t k8), some (k115, false)⟩,
 ⟨some k117, .callF n_values_Size [(.t k116)], some (k115, false)⟩,
 ⟨some k118, .bin .gtr (.t k117) (.v (.int .i64 (.lit 900))), some (k115, false)⟩,
 ⟨some k119, .pick (.t k115) (.v (.bool true)) (.t k118), none⟩]
def law12_EvalIntegers_r12 : List POper := [⟨some k120, .callF n_law12_lives [], none⟩,
 ⟨some k6, .mov (.t k120), none⟩]
def law12_EvalIntegers_r13 : List POper := [⟨some k122, .callF n_parser_ParseExpr [(.v (.str 6 107890605891681))], none⟩,
 ⟨some k121, .mov (.t k122), none⟩,
 ⟨some k123, .extract (.t k121) 0, none⟩,
 ⟨some k124, .extract (.t k121) 1, none⟩,
 ⟨some k125, .extract (.t k121) 2, none⟩,
 ⟨some k16, .new [(.int .i64 (.lit 0)), (.str 0 0), (.int .i64 (.lit 0)), .nils, .nils, .nils, (.int .i64 (.lit 0))], none⟩,
 ⟨none, .store 7 (.t k16) (.t k123), none⟩,
 ⟨some k17, .mov (.t k124), none⟩,
 ⟨some k18, .mov (.t k125), none⟩]
def law12_EvalIntegers_r14 : List SItem := [.L 0 ⟨some k127, .build [.nils] [], none⟩,
 .L 1 ⟨some k128, .load true 4 (.t k7), none⟩,
 .L 2 ⟨some k129, .build [(.str 0 0), (.int .i64 (.lit 0)), (.int .i64 (.lit 0)), (.str 0 0), .nils] [(0, 1, (.v (.str 1 97))), (1, 4, (.t k128))], none⟩,
 .L 3 ⟨some k130, .load true 4 (.t k8), none⟩,
 .L 4 ⟨some k131, .build [(.str 0 0), (.int .i64 (.lit 0)), (.int .i64 (.lit 0)), (.str 0 0), .nils] [(0, 1, (.v (.str 1 98))), (1, 4, (.t k130))], none⟩,
 .A 5 ⟨some k132, .bslice 5 2 [(.str 0 0), (.int .i64 (.lit 0)), (.int .i64 (.lit 0)), (.str 0 0), .nils] [(0, 5, (.t k129)), (5, 5, (.t k131))], none⟩,
 .L 6 ⟨some k133, .load true 7 (.t k16), none⟩,
 .L 8 ⟨some k135, .build [(.int .i64 (.lit 0)), (.int .i64 (.lit 0))] [], none⟩,
 .A 15 ⟨some k19, .new [(.int .i64 (.lit 0)), (.int .i64 (.lit 0)), (.str 0 0), .nils], none⟩,
 .A 16 ⟨some k20, .new [(.int .i64 (.lit 0)), (.int .i64 (.lit 0)), (.int .i64 (.lit 0))], none⟩,
 .H 7 ⟨some k134, .callF n_law12_plenty [], none⟩ [],
 .R [(1, ⟨some k128, .load true 4 (.t k7), none⟩), (3, ⟨some k130, .load true 4 (.t k8), none⟩), (6, ⟨some k133, .load true 7 (.t k16), none⟩)],
 .H 9 ⟨some k136, .callF n_eval_Expr [(.t k127), (.t k132), (.t k133), (.t k134), (.t k135)], none⟩ [5],
 .R [],
 .L 10 ⟨some k126, .mov (.t k136), none⟩,
 .L 11 ⟨some k137, .extract (.t k126) 0, none⟩,
 .L 12 ⟨some k138, .extract (.t k126) 1, none⟩,
 .L 13 ⟨some k139, .extract (.t k126) 2, none⟩,
 .L 14 ⟨some k140, .extract (.t k126) 3, none⟩,
 .H 17 ⟨none, .store 4 (.t k19) (.t k137), none⟩ [5, 15, 16],
 .R [],
 .H 18 ⟨none, .store 3 (.t k20) (.t k138), none⟩ [5, 15, 16],
 .R [],
 .L 19 ⟨some k21, .mov (.t k139), none⟩,
 .L 20 ⟨some k22, .mov (.t k140), none⟩]
def law12_EvalIntegers_r15 : List SItem := [.L 0 ⟨some k141, .mov (.t k22), none⟩,
 .L 1 ⟨some k142, .bin .eql (.t k141) (.v (.int .i64 (.lit 0))), none⟩,
 .L 2 ⟨some k143, .mov (.t k142), none⟩,
 .L 3 ⟨some k144, .fieldA 1 (.t k19), some (k143, true)⟩,
 .L 4 ⟨some k145, .load false 1 (.t k144), some (k143, true)⟩,
 .L 5 ⟨some k146, .bin .eql (.t k145) (.v (.int .i64 (.lit 1))), some (k143, true)⟩,
 .L 6 ⟨some k147, .load true 4 (.t k7), some (k143, true)⟩,
 .L 7 ⟨some k148, .load true 4 (.t k8), some (k143, true)⟩,
 .H 8 ⟨some k149, .callF n_values_Compare [(.t k147), (.t k148)], some (k143, true)⟩ [],
 .R [(4, ⟨some k145, .load false 1 (.t k144), some (k143, true)⟩)],
 .L 9 ⟨some k150, .bin .eql (.t k149) (.v (.int .i64 (.lit 0))), some (k143, true)⟩,
 .L 10 ⟨some k151, .eq false .bool (.t k146) (.t k150), some (k143, true)⟩,
 .L 11 ⟨some k152, .pick (.t k143) (.t k151) (.v (.bool false)), none⟩,
 .L 12 ⟨some k153, .mov (.t k152), none⟩,
 .H 13 ⟨some k154, .callF n_law12_lives [], some (k153, true)⟩ [],
 .R [],
 .L 14 ⟨some k155, .pick (.t k153) (.t k154) (.v (.bool false)), none⟩,
 .L 15 ⟨some k6, .mov (.t k155), none⟩]
def law12_EvalIntegers : PFn := ⟨(.seq (.ops law12_EvalIntegers_r0)
 (.seq (.ops law12_EvalIntegers_r1)
 (.seq (.ops law12_EvalIntegers_r2)
 (.seq (.ops law12_EvalIntegers_r3)
 (.seq (.ops law12_EvalIntegers_r4)
 (.seq (.ops law12_EvalIntegers_r5)
 (.seq (.ops law12_EvalIntegers_r6)
 (.seq (.seq (.ops law12_EvalIntegers_r7)
 (.cond (.t k82)
 (.seq (.ops law12_EvalIntegers_r8)
 .ret)
 .skip))
 (.seq (.seq (.ops law12_EvalIntegers_r9)
 (.cond (.t k101)
 (.seq (.ops law12_EvalIntegers_r10)
 .ret)
 .skip))
 (.seq (.seq (.ops law12_EvalIntegers_r11)
 (.cond (.t k119)
 (.seq (.ops law12_EvalIntegers_r12)
 .ret)
 .skip))
 (.seq (.ops law12_EvalIntegers_r13)
 (.seq (.staged law12_EvalIntegers_r14 ⟨[k127, k128, k129, k130, k131, k132, k133, k134, k135, k136, k126, k137, k138, k139, k140, k19, k20, k21, k22], []⟩)
 (.seq (.staged law12_EvalIntegers_r15 ⟨[k141, k142, k143, k144, k145, k146, k147, k148, k149, k150, k151, k152, k153, k154, k155, k6], []⟩)
 .ret))))))))))))),
 [.tmp k6]⟩
def law12_plenty_r0 : List POper := [⟨some k0, .new [(.int .i64 (.lit 0)), (.int .i64 (.lit 0))], none⟩]
def law12_plenty_r1 : List POper := [⟨some k1, .build [(.int .i64 (.lit 0)), (.int .i64 (.lit 0))] [(0, 1, (.v (.int .i64 (.lit 5000)))), (1, 1, (.v (.int .i64 (.lit 1000))))], none⟩,
 ⟨none, .store 2 (.t k0) (.t k1), none⟩]
def law12_plenty : PFn := ⟨(.seq (.ops law12_plenty_r0)
 (.seq (.ops law12_plenty_r1)
 .ret)),
 [.cell k0 true 2]⟩
def law12_lives_r0 : List POper := [⟨some k0, .mov (.v (.bool false)), none⟩]
def law12_lives_r1 : List POper := [⟨some k18, .callF n_law12_value [(.v (.str 34 1426604426936969834043278272389942903431154044779787788643790660628100077697656425)), (.v (.int .i64 (.lit 100)))], none⟩,
 ⟨some k17, .mov (.t k18), none⟩,
 ⟨some k19, .extract (.t k17) 0, none⟩,
 ⟨some k20, .extract (.t k17) 1, none⟩,
 ⟨some k21, .extract (.t k17) 2, none⟩,
 ⟨some k22, .extract (.t k17) 3, none⟩,
 ⟨some k1, .new [(.int .i64 (.lit 0)), (.int .i64 (.lit 0)), (.str 0 0), .nils], none⟩,
 ⟨some k2, .new [(.int .i64 (.lit 0)), (.int .i64 (.lit 0)), (.int .i64 (.lit 0))], none⟩,
 ⟨none, .store 4 (.t k1) (.t k19), none⟩,
 ⟨none, .store 3 (.t k2) (.t k20), none⟩,
 ⟨some k3, .mov (.t k21), none⟩,
 ⟨some k4, .mov (.t k22), none⟩]
def law12_lives_r2 : List POper := [⟨some k24, .callF n_law12_value [(.v (.str 10 194523234587659154781281)), (.v (.int .i64 (.lit 100)))], none⟩,
 ⟨some k23, .mov (.t k24), none⟩,
 ⟨some k25, .extract (.t k23) 0, none⟩,
 ⟨some k26, .extract (.t k23) 1, none⟩,
 ⟨some k27, .extract (.t k23) 2, none⟩,
 ⟨some k28, .extract (.t k23) 3, none⟩,
 ⟨some k5, .new [(.int .i64 (.lit 0)), (.int .i64 (.lit 0)), (.str 0 0), .nils], none⟩,
 ⟨some k6, .new [(.int .i64 (.lit 0)), (.int .i64 (.lit 0)), (.int .i64 (.lit 0))], none⟩,
 ⟨none, .store 4 (.t k5) (.t k25), none⟩,
 ⟨none, .store 3 (.t k6) (.t k26), none⟩,
 ⟨some k7, .mov (.t k27), none⟩,
 ⟨some k8, .mov (.t k28), none⟩]
def law12_lives_r3 : List POper := [⟨some k30, .callF n_law12_value [(.v (.str 8 7310875413187338289)), (.v (.int .i64 (.lit 100)))], none⟩,
 ⟨some k29, .mov (.t k30), none⟩,
 ⟨some k31, .extract (.t k29) 0, none⟩,
 ⟨some k32, .extract (.t k29) 1, none⟩,
 ⟨some k33, .extract (.t k29) 2, none⟩,
 ⟨some k34, .extract (.t k29) 3, none⟩,
 ⟨some k9, .new [(.int .i64 (.lit 0)), (.int .i64 (.lit 0)), (.str 0 0), .nils], none⟩,
 ⟨some k10, .new [(.int .i64 (.lit 0)), (.int .i64 (.lit 0)), (.int .i64 (.lit 0))], none⟩,
 ⟨none, .store 4 (.t k9) (.t k31), none⟩,
 ⟨none, .store 3 (.t k10) (.t k32), none⟩,
 ⟨some k11, .mov (.t k33), none⟩,
 ⟨some k12, .mov (.t k34), none⟩]
def law12_lives_r4 : List POper := [⟨some k36, .callF n_law12_value [(.v (.str 9 759928442512886751597)), (.v (.int .i64 (.lit 2)))], none⟩,
 ⟨some k35, .mov (.t k36), none⟩,
 ⟨some k37, .extract (.t k35) 0, none⟩,
 ⟨some k38, .extract (.t k35) 1, none⟩,
 ⟨some k39, .extract (.t k35) 2, none⟩,
 ⟨some k40, .extract (.t k35) 3, none⟩,
 ⟨some k13, .new [(.int .i64 (.lit 0)), (.int .i64 (.lit 0)), (.str 0 0), .nils], none⟩,
 ⟨some k14, .new [(.int .i64 (.lit 0)), (.int .i64 (.lit 0)), (.int .i64 (.lit 0))], none⟩,
 ⟨none, .store 4 (.t k13) (.t k37), none⟩,
 ⟨none, .store 3 (.t k14) (.t k38), none⟩,
 ⟨some k15, .mov (.t k39), none⟩,
 ⟨some k16, .mov (.t k40), none⟩]
def law12_lives_r5 : List POper := [⟨some k41, .mov (.t k4), none⟩,
 ⟨some k42, .bin .neq (.t k41) (.v (.int .i64 (.lit 0))), none⟩,
 ⟨some k43, .mov (.t k42), none⟩,
 ⟨some k44, .fieldA 0 (.t k1), some (k43, false)⟩,
 ⟨some k45, .load false 1 (.t k44), some (k43, false)⟩,
 ⟨some k46, .bin .neq (.t k45) (.v (.int .i64 (.lit 0))), some (k43, false)⟩,
 ⟨some k47, .pick (.t k43) (.v (.bool true)) (.t k46), none⟩,
 ⟨some k48, .mov (.t k47), none⟩,
 ⟨some k49, .fieldA 1 (.t k1), some (k48, false)⟩,
 ⟨some k50, .load false 1 (.t k49), some (k48, false)⟩,
 ⟨some k51, .bin .neq (.t k50) (.v (.int .i64 (.lit 6))), some (k48, false)⟩,
 ⟨some k52, .pick (.t k48) (.v (.bool true)) (.t k51), none⟩,
 ⟨some k53, .mov (.t k52), none⟩,
 ⟨some k54, .fieldA 0 (.t k2), some (k53, false)⟩,
 ⟨some k55, .load false 1 (.t k54), some (k53, false)⟩,
 ⟨some k56, .bin .neq (.t k55) (.v (.int .i64 (.lit 9))), some (k53, false)⟩,
 ⟨some k57, .pick (.t k53) (.v (.bool true)) (.t k56), none⟩,
 ⟨some k58, .mov (.t k57), none⟩,
 ⟨some k59, .mov (.t k3), some (k58, false)⟩,
 ⟨some k60, .lenL (.t k59), some (k58, false)⟩,
 ⟨some k61, .bin .neq (.t k60) (.v (.int .i64 (.lit 1))), some (k58, false)⟩,
 ⟨some k62, .pick (.t k58) (.v (.bool true)) (.t k61), none⟩,
 ⟨some k63, .mov (.t k62), none⟩,
 ⟨some k64, .mov (.t k8), some (k63, false)⟩,
 ⟨some k65, .bin .neq (.t k64) (.v (.int .i64 (.lit 13))), some (k63, false)⟩,
 ⟨some k66, .pick (.t k63) (.v (.bool true)) (.t k65), none⟩,
 ⟨some k67, .mov (.t k66), none⟩,
 ⟨some k68, .mov (.t k12), some (k67, false)⟩,
 ⟨some k69, .bin .neq (.t k68) (.v (.int .i64 (.lit 9))), some (k67, false)⟩,
 ⟨some k70, .pick (.t k67) (.v (.bool true)) (.t k69), none⟩,
 ⟨some k71, .mov (.t k70), none⟩,
 ⟨some k72, .fieldA 0 (.t k10), some (k71, false)⟩,
 ⟨some k73, .load false 1 (.t k72), some (k71, false)⟩,
 ⟨some k74, .bin .neq (.t k73) (.v (.int .i64 (.lit 3))), some (k71, false)⟩,
 ⟨some k75, .pick (.t k71) (.v (.bool true)) (.t k74), none⟩,
 ⟨some k76, .mov (.t k75), none⟩,
 ⟨some k77, .mov (.t k16), some (k76, false)⟩,
 ⟨some k78, .bin .neq (.t k77) (.v (.int .i64 (.lit 15))), some (k76, false)⟩,
 ⟨some k79, .pick (.t k76) (.v (.bool true)) (.t k78), none⟩]
def law12_lives_r6 : List POper := [⟨some k0, .mov (.v (.bool false)), none⟩]
def law12_lives_r7 : List POper := [⟨some k80, .mov (.t k3), none⟩,
 ⟨some k81, .indexL 3 (.t k80) (.v (.int .i64 (.lit 0))), none⟩,
 ⟨some k82, .load true 3 (.t k81), none⟩,
 ⟨some k83, .build [(.str 0 0), (.int .i64 (.lit 0)), (.int .i64 (.lit 0))] [(0, 1, (.v (.str 0 0))), (1, 1, (.v (.int .i64 (.lit 0)))), (2, 1, (.v (.int .i64 (.lit 0))))], none⟩,
 ⟨some k84, .eq false (.parts [(0, .str), (1, .int), (2, .int)]) (.t k82) (.t k83), none⟩,
 ⟨some k0, .mov (.t k84), none⟩]
def law12_lives : PFn := ⟨(.seq (.ops law12_lives_r0)
 (.seq (.ops law12_lives_r1)
 (.seq (.ops law12_lives_r2)
 (.seq (.ops law12_lives_r3)
 (.seq (.ops law12_lives_r4)
 (.seq (.seq (.ops law12_lives_r5)
 (.cond (.t k79)
 (.seq (.ops law12_lives_r6)
 .ret)
 .skip))
 (.seq (.ops law12_lives_r7)
 .ret))))))),
 [.tmp k0]⟩
def ref10_Value_r0 : List POper := [⟨some k4, .new [(.int .i64 (.lit 0)), (.int .i64 (.lit 0)), (.str 0 0), .nils], none⟩]
def ref10_Value_r1 : List POper := [⟨some k6, .mov (.t k0), none⟩,
 ⟨some k7, .mov (.t k1), none⟩,
 ⟨some k8, .mx true (.t k7) (.v (.int .i64 (.lit 0))), none⟩,
 ⟨some k9, .mov (.t k0), none⟩,
 ⟨some k10, .lenL (.t k9), none⟩,
 ⟨some k11, .mx false (.t k8) (.t k10), none⟩,
 ⟨some k12, .sliceL 1 (.t k6) (some (.t k11)) none, none⟩,
 ⟨some k13, .build [.nils, (.int .i64 (.lit 0))] [(0, 1, (.t k12))], none⟩,
 ⟨some k14, .box (.t k13), none⟩,
 ⟨some k5, .mov (.t k14), none⟩]
def ref10_Value_r2 : List POper := [⟨some k15, .mov (.t k5), none⟩,
 ⟨some k16, .callF n_ref10_G_Value [(.t k15), (.v (.int .i64 (.lit 2)))], none⟩,
 ⟨none, .store 4 (.t k4) (.t k16), none⟩]
def ref10_Value : PFn := ⟨(.seq (.ops ref10_Value_r0)
 (.seq (.ops ref10_Value_r1)
 (.seq (.ops ref10_Value_r2)
 .ret))),
 [.cell k4 true 4]⟩
def parser_ParseExpr_r0 : List POper := [⟨some k2, .new [(.int .i64 (.lit 0)), (.str 0 0), (.int .i64 (.lit 0)), .nils, .nils, .nils, (.int .i64 (.lit 0))], none⟩,
 ⟨some k3, .mov (.v (.int .i64 (.lit 0))), none⟩,
 ⟨some k4, .mov (.v (.int .i64 (.lit 0))), none⟩]
def parser_ParseExpr_r1 : List POper := [⟨some k10, .mov (.t k0), none⟩,
 ⟨some k11, .callF n_parser_read_Expr [(.t k10), (.v (.fn n_parser_reader_expr [] []))], none⟩,
 ⟨some k9, .mov (.t k11), none⟩,
 ⟨some k12, .extract (.t k9) 0, none⟩,
 ⟨some k13, .extract (.t k9) 1, none⟩,
 ⟨some k14, .extract (.t k9) 2, none⟩,
 ⟨some k5, .new [(.int .i64 (.lit 0)), (.str 0 0), (.int .i64 (.lit 0)), .nils, .nils, .nils, (.int .i64 (.lit 0))], none⟩,
 ⟨none, .store 7 (.t k5) (.t k12), none⟩,
 ⟨some k6, .mov (.t k13), none⟩,
 ⟨some k7, .mov (.t k14), none⟩]
def parser_ParseExpr_r2 : List POper := [⟨some k15, .mov (.t k7), none⟩,
 ⟨some k16, .bin .neq (.t k15) (.v (.int .i64 (.lit 0))), none⟩]
def parser_ParseExpr_r3 : List POper := [⟨some k17, .build [(.int .i64 (.lit 0)), (.str 0 0), (.int .i64 (.lit 0)), .nils, .nils, .nils, (.int .i64 (.lit 0))] [], none⟩,
 ⟨some k18, .mov (.t k6), none⟩,
 ⟨some k19, .mov (.t k7), none⟩,
 ⟨none, .store 7 (.t k2) (.t k17), none⟩,
 ⟨some k3, .mov (.t k18), none⟩,
 ⟨some k4, .mov (.t k19), none⟩]
def parser_ParseExpr_r4 : List POper := [⟨some k8, .new [(.bool false), (.bool false), (.bool false), (.bool false)], none⟩]
def parser_ParseExpr_r5 : List POper := [⟨some k20, .load true 7 (.t k5), none⟩,
 ⟨some k21, .callF n_parser_checker_expr [(.t k8), (.t k20)], none⟩]
def parser_ParseExpr_r6 : List POper := [⟨some k22, .fieldA 0 (.t k8), none⟩,
 ⟨some k23, .load false 1 (.t k22), none⟩]
def parser_ParseExpr_r7 : List POper := [⟨some k24, .build [(.int .i64 (.lit 0)), (.str 0 0), (.int .i64 (.lit 0)), .nils, .nils, .nils, (.int .i64 (.lit 0))] [], none⟩,
 ⟨none, .store 7 (.t k2) (.t k24), none⟩,
 ⟨some k3, .mov (.v (.int .i64 (.lit 0))), none⟩,
 ⟨some k4, .mov (.v (.int .i64 (.lit 4))), none⟩]
def parser_ParseExpr_r8 : List POper := [⟨some k25, .load true 7 (.t k5), none⟩,
 ⟨none, .store 7 (.t k2) (.t k25), none⟩,
 ⟨some k3, .mov (.v (.int .i64 (.lit 0))), none⟩,
 ⟨some k4, .mov (.v (.int .i64 (.lit 0))), none⟩]
def parser_ParseExpr : PFn := ⟨(.seq (.ops parser_ParseExpr_r0)
 (.seq (.ops parser_ParseExpr_r1)
 (.seq (.seq (.ops parser_ParseExpr_r2)
 (.cond (.t k16)
 (.seq (.ops parser_ParseExpr_r3)
 .ret)
 .skip))
 (.seq (.ops parser_ParseExpr_r4)
 (.seq (.ops parser_ParseExpr_r5)
 (.seq (.seq (.ops parser_ParseExpr_r6)
 (.cond (.t k23)
 (.seq (.ops parser_ParseExpr_r7)
 .ret)
 .skip))
 (.seq (.ops parser_ParseExpr_r8)
 .ret))))))),
 [.cell k2 true 7, .tmp k3, .tmp k4]⟩
def eval_Expr_r0 : List POper := [⟨some k5, .box (.t k0), none⟩,
 ⟨some k7, .box (.t k2), none⟩,
 ⟨some k8, .box (.t k3), none⟩,
 ⟨some k9, .box (.t k4), none⟩,
 ⟨some k10, .new [(.int .i64 (.lit 0)), (.int .i64 (.lit 0)), (.str 0 0), .nils], none⟩,
 ⟨some k11, .new [(.int .i64 (.lit 0)), (.int .i64 (.lit 0)), (.int .i64 (.lit 0))], none⟩,
 ⟨some k12, .mov (.v .nils), none⟩,
 ⟨some k13, .mov (.v (.int .i64 (.lit 0))), none⟩]
def eval_Expr_r1 : List POper := [⟨some k18, .load true 1 (.t k5), none⟩,
 ⟨some k19, .load true 2 (.t k8), none⟩,
 ⟨some k20, .load true 2 (.t k9), none⟩,
 ⟨some k21, .callF n_eval_newRun [(.t k18), (.t k19), (.t k20)], none⟩,
 ⟨some k14, .new [.nilp], none⟩,
 ⟨none, .store 1 (.t k14) (.t k21), none⟩]
def eval_Expr_r2 : List POper := [⟨some k15, .new [.nilp], none⟩]
def eval_Expr_r3 : List POper := [⟨some k22, .mov (.t k1), none⟩,
 ⟨some k23, .lenL (.t k22), none⟩,
 ⟨some k24, .mov (.v (.int .i64 (.lit 0))), none⟩]
def eval_Expr_r4 : List POper := [⟨some k25, .bin .lss (.t k24) (.t k23), none⟩]
def eval_Expr_r5 : List POper := [⟨some k26, .indexL 5 (.t k22) (.t k24), none⟩,
 ⟨some k27, .load true 5 (.t k26), none⟩,
 ⟨some k17, .new [(.str 0 0), (.int .i64 (.lit 0)), (.int .i64 (.lit 0)), (.str 0 0), .nils], none⟩,
 ⟨none, .store 5 (.t k17) (.t k27), none⟩]
def eval_Expr_r6 : List SItem := [.L 0 ⟨some k28, .fieldA 0 (.t k17), none⟩,
 .L 1 ⟨some k29, .load false 1 (.t k28), none⟩,
 .L 2 ⟨some k30, .fieldA 1 (.t k17), none⟩,
 .L 3 ⟨some k31, .load true 4 (.t k30), none⟩,
 .L 5 ⟨some k33, .load false 1 (.t k15), none⟩,
 .H 4 ⟨some k32, .callF n_eval_measured [(.t k31)], none⟩ [],
 .R [(1, ⟨some k29, .load false 1 (.t k28), none⟩), (5, ⟨some k33, .load false 1 (.t k15), none⟩)],
 .L 6 ⟨some k34, .build [(.str 0 0), (.int .i64 (.lit 0)), (.int .i64 (.lit 0)), (.str 0 0), .nils, (.int .i64 (.lit 0)), .nilp] [(0, 1, (.t k29)), (1, 5, (.t k32)), (6, 1, (.t k33))], none⟩,
 .A 7 ⟨some k35, .box (.t k34), none⟩,
 .H 8 ⟨none, .store 1 (.t k15) (.t k35), none⟩ [7],
 .R []]
def eval_Expr_r7 : List POper := [⟨some k36, .bin .add (.t k24) (.v (.int .i64 (.lit 1))), none⟩,
 ⟨some k24, .mov (.t k36), none⟩]
def eval_Expr_l0 : PCode := (.seq (.ops eval_Expr_r4)
 (.seq (.cond (.t k25)
 .skip
 (.exit 0))
 (.seq (.block 1 (.seq (.ops eval_Expr_r5)
 (.staged eval_Expr_r6 ⟨[k28, k29, k30, k31, k32, k33, k34, k35], []⟩)))
 (.ops eval_Expr_r7))))
def eval_Expr_r8 : List POper := [⟨some k37, .load false 1 (.t k14), none⟩,
 ⟨some k38, .mkfn n_eval_Expr_c1 [] [(.t k14), (.t k15), (.t k7)], none⟩,
 ⟨some k39, .callF n_eval_run_result [(.t k37), (.t k38)], none⟩,
 ⟨some k40, .extract (.t k39) 0, none⟩,
 ⟨some k41, .extract (.t k39) 1, none⟩,
 ⟨some k42, .extract (.t k39) 2, none⟩,
 ⟨some k43, .extract (.t k39) 3, none⟩,
 ⟨none, .store 4 (.t k10) (.t k40), none⟩,
 ⟨none, .store 3 (.t k11) (.t k41), none⟩,
 ⟨some k12, .mov (.t k42), none⟩,
 ⟨some k13, .mov (.t k43), none⟩]
def eval_Expr : PFn := ⟨(.seq (.ops eval_Expr_r0)
 (.seq (.ops eval_Expr_r1)
 (.seq (.ops eval_Expr_r2)
 (.seq (.seq (.ops eval_Expr_r3)
 (.block 0 (.loop eval_Expr_l0)))
 (.seq (.ops eval_Expr_r8)
 .ret))))),
 [.cell k10 true 4, .cell k11 true 3, .tmp k12, .tmp k13]⟩
def law12_holds_r0 : List POper := [⟨some k5, .box (.t k1), none⟩,
 ⟨some k8, .mov (.v (.bool false)), none⟩]
def law12_holds_r1 : List POper := [⟨some k12, .mov (.t k0), none⟩,
 ⟨some k13, .load true 4 (.t k5), none⟩,
 ⟨some k14, .mov (.t k2), none⟩,
 ⟨some k15, .mov (.t k3), none⟩,
 ⟨some k16, .callF n_law12_run [(.t k12), (.t k13), (.t k14), (.t k15)], none⟩,
 ⟨some k11, .mov (.t k16), none⟩,
 ⟨some k17, .extract (.t k11) 0, none⟩,
 ⟨some k18, .extract (.t k11) 1, none⟩,
 ⟨some k9, .new [(.int .i64 (.lit 0)), (.int .i64 (.lit 0)), (.str 0 0), .nils], none⟩,
 ⟨none, .store 4 (.t k9) (.t k17), none⟩,
 ⟨some k10, .mov (.t k18), none⟩]
def law12_holds_r2 : List POper := [⟨some k19, .mov (.t k10), none⟩,
 ⟨some k20, .bin .eql (.t k19) (.v (.int .i64 (.lit 0))), none⟩,
 ⟨some k21, .mov (.t k20), none⟩,
 ⟨some k22, .fieldA 0 (.t k9), some (k21, true)⟩,
 ⟨some k23, .load false 1 (.t k22), some (k21, true)⟩,
 ⟨some k24, .bin .eql (.t k23) (.v (.int .i64 (.lit 1))), some (k21, true)⟩,
 ⟨some k25, .pick (.t k21) (.t k24) (.v (.bool false)), none⟩,
 ⟨some k26, .mov (.t k25), none⟩,
 ⟨some k27, .fieldA 1 (.t k9), some (k26, true)⟩,
 ⟨some k28, .load false 1 (.t k27), some (k26, true)⟩,
 ⟨some k29, .bin .eql (.t k28) (.v (.int .i64 (.lit 1))), some (k26, true)⟩,
 ⟨some k30, .pick (.t k26) (.t k29) (.v (.bool false)), none⟩,
 ⟨some k8, .mov (.t k30), none⟩]
def law12_holds : PFn := ⟨(.seq (.ops law12_holds_r0)
 (.seq (.ops law12_holds_r1)
 (.seq (.ops law12_holds_r2)
 .ret))),
 [.tmp k8]⟩
def law12_run_r0 : List POper := [⟨some k5, .box (.t k1), none⟩,
 ⟨some k8, .new [(.int .i64 (.lit 0)), (.int .i64 (.lit 0)), (.str 0 0), .nils], none⟩,
 ⟨some k9, .mov (.v (.int .i64 (.lit 0))), none⟩]
def law12_run_r1 : List POper := [⟨some k18, .mov (.t k0), none⟩,
 ⟨some k19, .callF n_parser_ParseExpr [(.t k18)], none⟩,
 ⟨some k17, .mov (.t k19), none⟩,
 ⟨some k20, .extract (.t k17) 0, none⟩,
 ⟨some k21, .extract (.t k17) 1, none⟩,
 ⟨some k22, .extract (.t k17) 2, none⟩,
 ⟨some k10, .new [(.int .i64 (.lit 0)), (.str 0 0), (.int .i64 (.lit 0)), .nils, .nils, .nils, (.int .i64 (.lit 0))], none⟩,
 ⟨none, .store 7 (.t k10) (.t k20), none⟩,
 ⟨some k11, .mov (.t k21), none⟩,
 ⟨some k12, .mov (.t k22), none⟩]
def law12_run_r2 : List POper := [⟨some k23, .mov (.t k12), none⟩,
 ⟨some k24, .bin .neq (.t k23) (.v (.int .i64 (.lit 0))), none⟩]
def law12_run_r3 : List POper := [⟨some k25, .build [(.int .i64 (.lit 0)), (.int .i64 (.lit 0)), (.str 0 0), .nils] [], none⟩,
 ⟨some k26, .mov (.t k12), none⟩,
 ⟨none, .store 4 (.t k8) (.t k25), none⟩,
 ⟨some k9, .mov (.t k26), none⟩]
def law12_run_r4 : List SItem := [.L 0 ⟨some k28, .build [.nils] [], none⟩,
 .L 1 ⟨some k29, .load true 4 (.t k5), none⟩,
 .L 2 ⟨some k30, .build [(.str 0 0), (.int .i64 (.lit 0)), (.int .i64 (.lit 0)), (.str 0 0), .nils] [(0, 1, (.v (.str 1 118))), (1, 4, (.t k29))], none⟩,
 .L 3 ⟨some k31, .mov (.t k2), none⟩,
 .L 4 ⟨some k32, .build [(.int .i64 (.lit 0)), (.int .i64 (.lit 0)), (.str 0 0), .nils] [(1, 1, (.t k31))], none⟩,
 .L 5 ⟨some k33, .build [(.str 0 0), (.int .i64 (.lit 0)), (.int .i64 (.lit 0)), (.str 0 0), .nils] [(0, 1, (.v (.str 1 105))), (1, 4, (.t k32))], none⟩,
 .L 6 ⟨some k34, .mov (.t k3), none⟩,
 .L 7 ⟨some k35, .build [(.int .i64 (.lit 0)), (.int .i64 (.lit 0)), (.str 0 0), .nils] [(1, 1, (.t k34))], none⟩,
 .L 8 ⟨some k36, .build [(.str 0 0), (.int .i64 (.lit 0)), (.int .i64 (.lit 0)), (.str 0 0), .nils] [(0, 1, (.v (.str 1 120))), (1, 4, (.t k35))], none⟩,
 .A 9 ⟨some k37, .bslice 5 3 [(.str 0 0), (.int .i64 (.lit 0)), (.int .i64 (.lit 0)), (.str 0 0), .nils] [(0, 5, (.t k30)), (5, 5, (.t k33)), (10, 5, (.t k36))], none⟩,
 .L 10 ⟨some k38, .load true 7 (.t k10), none⟩,
 .L 12 ⟨some k40, .build [(.int .i64 (.lit 0)), (.int .i64 (.lit 0))] [], none⟩,
 .A 19 ⟨some k13, .new [(.int .i64 (.lit 0)), (.int .i64 (.lit 0)), (.str 0 0), .nils], none⟩,
 .A 20 ⟨some k14, .new [(.int .i64 (.lit 0)), (.int .i64 (.lit 0)), (.int .i64 (.lit 0))], none⟩,
 .H 11 ⟨some k39, .callF n_law12_plenty [], none⟩ [],
 .R [(1, ⟨some k29, .load true 4 (.t k5), none⟩), (10, ⟨some k38, .load true 7 (.t k10), none⟩)],
 .H 13 ⟨some k41, .callF n_eval_Expr [(.t k28), (.t k37), (.t k38), (.t k39), (.t k40)], none⟩ [9],
 .R [],
 .L 14 ⟨some k27, .mov (.t k41), none⟩,
 .L 15 ⟨some k42, .extract (.t k27) 0, none⟩,
 .L 16 ⟨some k43, .extract (.t k27) 1, none⟩,
 .L 17 ⟨some k44, .extract (.t k27) 2, none⟩,
 .L 18 ⟨some k45, .extract (.t k27) 3, none⟩,
 .H 21 ⟨none, .store 4 (.t k13) (.t k42), none⟩ [9, 19, 20],
 .R [],
 .H 22 ⟨none, .store 3 (.t k14) (.t k43), none⟩ [9, 19, 20],
 .R [],
 .L 23 ⟨some k15, .mov (.t k44), none⟩,
 .L 24 ⟨some k16, .mov (.t k45), none⟩]
def law12_run_r5 : List POper := [⟨some k46, .load true 4 (.t k13), none⟩,
 ⟨some k47, .mov (.t k16), none⟩,
 ⟨none, .store 4 (.t k8) (.t k46), none⟩,
 ⟨some k9, .mov (.t k47), none⟩]
def law12_run : PFn := ⟨(.seq (.ops law12_run_r0)
 (.seq (.ops law12_run_r1)
 (.seq (.seq (.ops law12_run_r2)
 (.cond (.t k24)
 (.seq (.ops law12_run_r3)
 .ret)
 .skip))
 (.seq (.staged law12_run_r4 ⟨[k28, k29, k30, k31, k32, k33, k34, k35, k36, k37, k38, k39, k40, k41, k27, k42, k43, k44, k45, k13, k14, k15, k16], []⟩)
 (.seq (.ops law12_run_r5)
 .ret))))),
 [.cell k8 true 4, .tmp k9]⟩
def values_Valid_r0 : List POper := [⟨some k1, .box (.t k0), none⟩,
 ⟨some k2, .mov (.v (.int .i64 (.lit 0))), none⟩]
def values_Valid_r1 : List POper := [⟨some k3, .new [(.int .i64 (.lit 0))], none⟩,
 ⟨some k4, .new [(.bool false)], none⟩,
 ⟨some k5, .new [(.bool false)], none⟩,
 ⟨none, .store 1 (.t k3) (.v (.int .i64 (.lit 0))), none⟩,
 ⟨none, .store 1 (.t k4) (.v (.bool true)), none⟩,
 ⟨none, .store 1 (.t k5) (.v (.bool true)), none⟩]
def values_Valid_r2 : List POper := [⟨some k6, .load true 4 (.t k1), none⟩,
 ⟨some k7, .mkfn n_values_Valid_c1 [] [(.t k3), (.t k4), (.t k5)], none⟩,
 ⟨some k8, .callF n_values_visit [(.t k6), (.t k7)], none⟩]
def values_Valid_r3 : List POper := [⟨some k10, .load false 1 (.t k4), none⟩,
 ⟨some k11, .un .not (.t k10), none⟩,
 ⟨some k9, .mov (.t k11), none⟩]
def values_Valid_r4 : List POper := [⟨some k2, .mov (.v (.int .i64 (.lit 1))), none⟩]
def values_Valid_r5 : List POper := [⟨some k13, .load false 1 (.t k5), none⟩,
 ⟨some k14, .un .not (.t k13), none⟩,
 ⟨some k15, .mov (.t k14), none⟩,
 ⟨some k16, .load false 1 (.t k3), some (k15, false)⟩,
 ⟨some k17, .bin .gtr (.t k16) (.v (.int .i64 (.lit 1024))), some (k15, false)⟩,
 ⟨some k18, .pick (.t k15) (.v (.bool true)) (.t k17), none⟩,
 ⟨some k12, .mov (.t k18), none⟩]
def values_Valid_r6 : List POper := [⟨some k2, .mov (.v (.int .i64 (.lit 4))), none⟩]
def values_Valid_r7 : List POper := [⟨some k2, .mov (.v (.int .i64 (.lit 0))), none⟩]
def values_Valid : PFn := ⟨(.seq (.ops values_Valid_r0)
 (.seq (.ops values_Valid_r1)
 (.seq (.ops values_Valid_r2)
 (.seq (.block 0 (.seq (.ops values_Valid_r3)
 (.cond (.t k9)
 (.seq (.ops values_Valid_r4)
 .ret)
 (.seq (.ops values_Valid_r5)
 (.cond (.t k12)
 (.seq (.ops values_Valid_r6)
 .ret)
 .skip)))))
 (.seq (.ops values_Valid_r7)
 .ret))))),
 [.tmp k2]⟩
def values_Size_r0 : List POper := [⟨some k1, .box (.t k0), none⟩,
 ⟨some k2, .mov (.v (.int .i64 (.lit 0))), none⟩]
def values_Size_r1 : List POper := [⟨some k3, .new [(.int .i64 (.lit 0))], none⟩,
 ⟨none, .store 1 (.t k3) (.v (.int .i64 (.lit 0))), none⟩]
def values_Size_r2 : List POper := [⟨some k4, .load true 4 (.t k1), none⟩,
 ⟨some k5, .mkfn n_values_Size_c1 [] [(.t k3)], none⟩,
 ⟨some k6, .callF n_values_visit [(.t k4), (.t k5)], none⟩]
def values_Size_r3 : List POper := [⟨some k7, .load false 1 (.t k3), none⟩,
 ⟨some k2, .mov (.t k7), none⟩]
def values_Size : PFn := ⟨(.seq (.ops values_Size_r0)
 (.seq (.ops values_Size_r1)
 (.seq (.ops values_Size_r2)
 (.seq (.ops values_Size_r3)
 .ret)))),
 [.tmp k2]⟩
def values_Compare_r0 : List POper := [⟨some k2, .box (.t k0), none⟩,
 ⟨some k3, .box (.t k1), none⟩,
 ⟨some k4, .mov (.v (.int .i64 (.lit 0))), none⟩]
def values_Compare_r1 : List POper := [⟨some k8, .fieldA 0 (.t k2), none⟩,
 ⟨some k9, .load false 1 (.t k8), none⟩,
 ⟨some k10, .fieldA 0 (.t k3), none⟩,
 ⟨some k11, .load false 1 (.t k10), none⟩,
 ⟨some k12, .callF n_cmp_Compare_int [(.t k9), (.t k11)], none⟩,
 ⟨some k5, .mov (.t k12), none⟩]
def values_Compare_r2 : List POper := [⟨some k13, .mov (.t k5), none⟩,
 ⟨some k14, .bin .neq (.t k13) (.v (.int .i64 (.lit 0))), none⟩]
def values_Compare_r3 : List POper := [⟨some k15, .mov (.t k5), none⟩,
 ⟨some k4, .mov (.t k15), none⟩]
def values_Compare_r4 : List POper := [⟨some k16, .fieldA 1 (.t k2), none⟩,
 ⟨some k17, .load false 1 (.t k16), none⟩,
 ⟨some k18, .fieldA 1 (.t k3), none⟩,
 ⟨some k19, .load false 1 (.t k18), none⟩,
 ⟨some k20, .callF n_cmp_Compare_int [(.t k17), (.t k19)], none⟩,
 ⟨some k6, .mov (.t k20), none⟩]
def values_Compare_r5 : List POper := [⟨some k21, .mov (.t k6), none⟩,
 ⟨some k22, .bin .neq (.t k21) (.v (.int .i64 (.lit 0))), none⟩]
def values_Compare_r6 : List POper := [⟨some k23, .mov (.t k6), none⟩,
 ⟨some k4, .mov (.t k23), none⟩]
def values_Compare_r7 : List POper := [⟨some k24, .fieldA 2 (.t k2), none⟩,
 ⟨some k25, .load false 1 (.t k24), none⟩,
 ⟨some k26, .fieldA 2 (.t k3), none⟩,
 ⟨some k27, .load false 1 (.t k26), none⟩,
 ⟨some k28, .callF n_cmp_Compare_string [(.t k25), (.t k27)], none⟩,
 ⟨some k7, .mov (.t k28), none⟩]
def values_Compare_r8 : List POper := [⟨some k29, .mov (.t k7), none⟩,
 ⟨some k30, .bin .neq (.t k29) (.v (.int .i64 (.lit 0))), none⟩]
def values_Compare_r9 : List POper := [⟨some k31, .mov (.t k7), none⟩,
 ⟨some k4, .mov (.t k31), none⟩]
def values_Compare_r10 : List POper := [⟨some k32, .fieldA 3 (.t k2), none⟩,
 ⟨some k33, .load false 1 (.t k32), none⟩,
 ⟨some k34, .fieldA 3 (.t k3), none⟩,
 ⟨some k35, .load false 1 (.t k34), none⟩,
 ⟨some k36, .callF n_slices_CompareFunc_Value_Value_Value_Value [(.t k33), (.t k35), (.v (.fn n_values_Compare [] []))], none⟩,
 ⟨some k4, .mov (.t k36), none⟩]
def values_Compare : PFn := ⟨(.seq (.ops values_Compare_r0)
 (.seq (.seq (.ops values_Compare_r1)
 (.seq (.ops values_Compare_r2)
 (.cond (.t k14)
 (.seq (.ops values_Compare_r3)
 .ret)
 .skip)))
 (.seq (.seq (.ops values_Compare_r4)
 (.seq (.ops values_Compare_r5)
 (.cond (.t k22)
 (.seq (.ops values_Compare_r6)
 .ret)
 .skip)))
 (.seq (.seq (.ops values_Compare_r7)
 (.seq (.ops values_Compare_r8)
 (.cond (.t k30)
 (.seq (.ops values_Compare_r9)
 .ret)
 .skip)))
 (.seq (.ops values_Compare_r10)
 .ret))))),
 [.tmp k4]⟩
def law12_value_r0 : List POper := [⟨some k4, .new [(.int .i64 (.lit 0)), (.int .i64 (.lit 0)), (.str 0 0), .nils], none⟩,
 ⟨some k5, .new [(.int .i64 (.lit 0)), (.int .i64 (.lit 0)), (.int .i64 (.lit 0))], none⟩,
 ⟨some k6, .mov (.v .nils), none⟩,
 ⟨some k7, .mov (.v (.int .i64 (.lit 0))), none⟩]
def law12_value_r1 : List POper := [⟨some k12, .mov (.t k0), none⟩,
 ⟨some k13, .callF n_parser_ParseExpr [(.t k12)], none⟩,
 ⟨some k11, .mov (.t k13), none⟩,
 ⟨some k14, .extract (.t k11) 0, none⟩,
 ⟨some k15, .extract (.t k11) 1, none⟩,
 ⟨some k16, .extract (.t k11) 2, none⟩,
 ⟨some k8, .new [(.int .i64 (.lit 0)), (.str 0 0), (.int .i64 (.lit 0)), .nils, .nils, .nils, (.int .i64 (.lit 0))], none⟩,
 ⟨none, .store 7 (.t k8) (.t k14), none⟩,
 ⟨some k9, .mov (.t k15), none⟩,
 ⟨some k10, .mov (.t k16), none⟩]
def law12_value_r2 : List POper := [⟨some k17, .mov (.t k10), none⟩,
 ⟨some k18, .bin .neq (.t k17) (.v (.int .i64 (.lit 0))), none⟩]
def law12_value_r3 : List POper := [⟨some k19, .build [(.int .i64 (.lit 0)), (.int .i64 (.lit 0)), (.str 0 0), .nils] [], none⟩,
 ⟨some k20, .build [(.int .i64 (.lit 0)), (.int .i64 (.lit 0)), (.int .i64 (.lit 0))] [], none⟩,
 ⟨some k21, .mov (.t k10), none⟩,
 ⟨none, .store 4 (.t k4) (.t k19), none⟩,
 ⟨none, .store 3 (.t k5) (.t k20), none⟩,
 ⟨some k6, .mov (.v .nils), none⟩,
 ⟨some k7, .mov (.t k21), none⟩]
def law12_value_r4 : List POper := [⟨some k22, .build [.nils] [], none⟩,
 ⟨some k23, .load true 7 (.t k8), none⟩,
 ⟨some k24, .mov (.t k1), none⟩,
 ⟨some k25, .build [(.int .i64 (.lit 0)), (.int .i64 (.lit 0))] [(0, 1, (.t k24)), (1, 1, (.v (.int .i64 (.lit 100))))], none⟩,
 ⟨some k26, .build [(.int .i64 (.lit 0)), (.int .i64 (.lit 0))] [], none⟩,
 ⟨some k27, .callF n_eval_Expr [(.t k22), (.v .nils), (.t k23), (.t k25), (.t k26)], none⟩,
 ⟨some k28, .extract (.t k27) 0, none⟩,
 ⟨some k29, .extract (.t k27) 1, none⟩,
 ⟨some k30, .extract (.t k27) 2, none⟩,
 ⟨some k31, .extract (.t k27) 3, none⟩,
 ⟨none, .store 4 (.t k4) (.t k28), none⟩,
 ⟨none, .store 3 (.t k5) (.t k29), none⟩,
 ⟨some k6, .mov (.t k30), none⟩,
 ⟨some k7, .mov (.t k31), none⟩]
def law12_value : PFn := ⟨(.seq (.ops law12_value_r0)
 (.seq (.ops law12_value_r1)
 (.seq (.seq (.ops law12_value_r2)
 (.cond (.t k18)
 (.seq (.ops law12_value_r3)
 .ret)
 .skip))
 (.seq (.ops law12_value_r4)
 .ret)))),
 [.cell k4 true 4, .cell k5 true 3, .tmp k6, .tmp k7]⟩
def ref10_G_Value_r0 : List POper := [⟨some k4, .new [(.int .i64 (.lit 0)), (.int .i64 (.lit 0)), (.str 0 0), .nils], none⟩]
def ref10_G_Value_r1 : List POper := [⟨some k9, .mov (.t k0), none⟩,
 ⟨some k10, .callF n_ref10_G_Next [(.t k9), (.v (.int .i64 (.lit 7)))], none⟩,
 ⟨some k5, .mov (.t k10), none⟩]
def ref10_G_Value_r2 : List POper := [⟨some k11, .mov (.t k1), none⟩,
 ⟨some k12, .bin .eql (.t k11) (.v (.int .i64 (.lit 0))), none⟩]
def ref10_G_Value_r3 : List POper := [⟨some k13, .mov (.t k5), none⟩,
 ⟨some k14, .bin .rem (.t k13) (.v (.int .i64 (.lit 4))), none⟩,
 ⟨some k5, .mov (.t k14), none⟩]
def ref10_G_Value_r4 : List POper := [⟨some k15, .mov (.t k5), none⟩]
def ref10_G_Value_r5 : List POper := [⟨some k17, .bin .eql (.t k15) (.v (.int .i64 (.lit 0))), none⟩,
 ⟨some k16, .mov (.t k17), none⟩]
def ref10_G_Value_r6 : List POper := [⟨some k18, .bin .eql (.t k15) (.v (.int .i64 (.lit 1))), none⟩,
 ⟨some k16, .mov (.t k18), none⟩]
def ref10_G_Value_r7 : List POper := [⟨some k19, .mov (.t k0), none⟩,
 ⟨some k20, .callF n_ref10_G_Next [(.t k19), (.v (.int .i64 (.lit 5)))], none⟩,
 ⟨some k21, .mov (.t k0), none⟩,
 ⟨some k22, .callF n_ref10_G_Next [(.t k21), (.v (.int .i64 (.lit 100)))], none⟩,
 ⟨some k23, .bin .sub (.t k22) (.v (.int .i64 (.lit 50))), none⟩,
 ⟨some k24, .bslice 1 4 [(.int .i64 (.lit 0))] [(0, 1, (.t k20)), (1, 1, (.t k23)), (2, 1, (.v (.int .i64 (.lit 9223372036854775807)))), (3, 1, (.v (.int .i64 (.lit (-9223372036854775808)))))], none⟩,
 ⟨some k25, .bslice 1 7 [(.int .i64 (.lit 0))] [(0, 1, (.v (.int .i64 (.lit 0)))), (1, 1, (.v (.int .i64 (.lit 0)))), (2, 1, (.v (.int .i64 (.lit 0)))), (3, 1, (.v (.int .i64 (.lit 1)))), (4, 1, (.v (.int .i64 (.lit 1)))), (5, 1, (.v (.int .i64 (.lit 2)))), (6, 1, (.v (.int .i64 (.lit 3))))], none⟩,
 ⟨some k26, .mov (.t k0), none⟩,
 ⟨some k27, .callF n_ref10_G_Next [(.t k26), (.v (.int .i64 (.lit 7)))], none⟩,
 ⟨some k28, .indexL 1 (.t k25) (.t k27), none⟩,
 ⟨some k29, .load false 1 (.t k28), none⟩,
 ⟨some k30, .indexL 1 (.t k24) (.t k29), none⟩,
 ⟨some k31, .load false 1 (.t k30), none⟩,
 ⟨some k32, .build [(.int .i64 (.lit 0)), (.int .i64 (.lit 0)), (.str 0 0), .nils] [(1, 1, (.t k31))], none⟩,
 ⟨none, .store 4 (.t k4) (.t k32), none⟩]
def ref10_G_Value_r8 : List POper := [⟨some k34, .bin .eql (.t k15) (.v (.int .i64 (.lit 2))), none⟩,
 ⟨some k33, .mov (.t k34), none⟩]
def ref10_G_Value_r9 : List POper := [⟨some k35, .mov (.t k0), none⟩,
 ⟨some k36, .callF n_ref10_G_Next [(.t k35), (.v (.int .i64 (.lit 2)))], none⟩,
 ⟨some k37, .build [(.int .i64 (.lit 0)), (.int .i64 (.lit 0)), (.str 0 0), .nils] [(0, 1, (.v (.int .i64 (.lit 1)))), (1, 1, (.t k36))], none⟩,
 ⟨none, .store 4 (.t k4) (.t k37), none⟩]
def ref10_G_Value_r10 : List POper := [⟨some k39, .bin .eql (.t k15) (.v (.int .i64 (.lit 3))), none⟩,
 ⟨some k38, .mov (.t k39), none⟩]
def ref10_G_Value_r11 : List POper := [⟨some k40, .bslice 1 4 [(.str 0 0)] [(0, 1, (.v (.str 4 1717658956))), (1, 1, (.v (.str 1 65))), (2, 1, (.v (.str 5 521644567877))), (3, 1, (.v (.str 3 3301186)))], none⟩,
 ⟨some k41, .mov (.t k0), none⟩,
 ⟨some k42, .callF n_ref10_G_Next [(.t k41), (.v (.int .i64 (.lit 4)))], none⟩,
 ⟨some k43, .indexL 1 (.t k40) (.t k42), none⟩,
 ⟨some k44, .load false 1 (.t k43), none⟩,
 ⟨some k45, .build [(.int .i64 (.lit 0)), (.int .i64 (.lit 0)), (.str 0 0), .nils] [(0, 1, (.v (.int .i64 (.lit 3)))), (2, 1, (.t k44))], none⟩,
 ⟨none, .store 4 (.t k4) (.t k45), none⟩]
def ref10_G_Value_r12 : List POper := [⟨some k46, .build [(.int .i64 (.lit 0)), (.int .i64 (.lit 0)), (.str 0 0), .nils] [(0, 1, (.v (.int .i64 (.lit 2))))], none⟩,
 ⟨some k6, .new [(.int .i64 (.lit 0)), (.int .i64 (.lit 0)), (.str 0 0), .nils], none⟩,
 ⟨none, .store 4 (.t k6) (.t k46), none⟩]
def ref10_G_Value_r13 : List POper := [⟨some k47, .mov (.t k5), none⟩,
 ⟨some k48, .bin .eql (.t k47) (.v (.int .i64 (.lit 6))), none⟩]
def ref10_G_Value_r14 : List POper := [⟨some k49, .bslice 1 3 [(.str 0 0)] [(0, 1, (.v (.str 4 1802661702))), (1, 1, (.v (.str 1 65))), (2, 1, (.v (.str 2 31322)))], none⟩,
 ⟨some k50, .mov (.t k0), none⟩,
 ⟨some k51, .callF n_ref10_G_Next [(.t k50), (.v (.int .i64 (.lit 3)))], none⟩,
 ⟨some k52, .indexL 1 (.t k49) (.t k51), none⟩,
 ⟨some k53, .load false 1 (.t k52), none⟩,
 ⟨some k54, .build [(.int .i64 (.lit 0)), (.int .i64 (.lit 0)), (.str 0 0), .nils] [(0, 1, (.v (.int .i64 (.lit 3)))), (2, 1, (.t k53))], none⟩,
 ⟨none, .store 4 (.t k6) (.t k54), none⟩]
def ref10_G_Value_r15 : List POper := [⟨some k55, .mov (.t k0), none⟩,
 ⟨some k56, .callF n_ref10_G_Next [(.t k55), (.v (.int .i64 (.lit 4)))], none⟩,
 ⟨some k7, .mov (.t k56), none⟩]
def ref10_G_Value_r16 : List POper := [⟨some k8, .mov (.v (.int .i64 (.lit 0))), none⟩]
def ref10_G_Value_r17 : List POper := [⟨some k57, .mov (.t k8), none⟩,
 ⟨some k58, .mov (.t k7), none⟩,
 ⟨some k59, .bin .lss (.t k57) (.t k58), none⟩]
def ref10_G_Value_r18 : List SItem := [.L 0 ⟨some k62, .fieldA 3 (.t k6), none⟩,
 .L 1 ⟨some k63, .load false 1 (.t k62), none⟩,
 .L 2 ⟨some k64, .mov (.t k0), none⟩,
 .L 3 ⟨some k65, .mov (.t k1), none⟩,
 .L 4 ⟨some k66, .bin .sub (.t k65) (.v (.int .i64 (.lit 1))), none⟩,
 .H 5 ⟨some k67, .callF n_ref10_G_Value [(.t k64), (.t k66)], none⟩ [],
 .R [(1, ⟨some k63, .load false 1 (.t k62), none⟩)],
 .A 6 ⟨some k68, .bslice 4 1 [(.int .i64 (.lit 0)), (.int .i64 (.lit 0)), (.str 0 0), .nils] [(0, 4, (.t k67))], none⟩,
 .H 7 ⟨some k69, .append 4 (.t k63) (.t k68), none⟩ [6],
 .R [],
 .L 8 ⟨some k70, .fieldA 3 (.t k6), none⟩,
 .H 9 ⟨none, .store 1 (.t k70) (.t k69), none⟩ [6],
 .R []]
def ref10_G_Value_r19 : List POper := [⟨some k60, .mov (.t k8), none⟩,
 ⟨some k61, .bin .add (.t k60) (.v (.int .i64 (.lit 1))), none⟩,
 ⟨some k8, .mov (.t k61), none⟩]
def ref10_G_Value_l0 : PCode := (.seq (.seq (.ops ref10_G_Value_r17)
 (.cond (.t k59)
 .skip
 (.exit 1)))
 (.seq (.block 2 (.staged ref10_G_Value_r18 ⟨[k62, k63, k64, k65, k66, k67, k68, k69, k70], []⟩))
 (.ops ref10_G_Value_r19)))
def ref10_G_Value_r20 : List POper := [⟨some k71, .load true 4 (.t k6), none⟩,
 ⟨none, .store 4 (.t k4) (.t k71), none⟩]
def ref10_G_Value : PFn := ⟨(.seq (.ops ref10_G_Value_r0)
 (.seq (.ops ref10_G_Value_r1)
 (.seq (.seq (.ops ref10_G_Value_r2)
 (.cond (.t k12)
 (.ops ref10_G_Value_r3)
 .skip))
 (.seq (.seq (.ops ref10_G_Value_r4)
 (.block 0 (.seq (.seq (.ops ref10_G_Value_r5)
 (.cond (.t k16)
 .skip
 (.ops ref10_G_Value_r6)))
 (.cond (.t k16)
 (.seq (.ops ref10_G_Value_r7)
 .ret)
 (.seq (.ops ref10_G_Value_r8)
 (.cond (.t k33)
 (.seq (.ops ref10_G_Value_r9)
 .ret)
 (.seq (.ops ref10_G_Value_r10)
 (.cond (.t k38)
 (.seq (.ops ref10_G_Value_r11)
 .ret)
 .skip))))))))
 (.seq (.ops ref10_G_Value_r12)
 (.seq (.seq (.ops ref10_G_Value_r13)
 (.cond (.t k48)
 (.ops ref10_G_Value_r14)
 .skip))
 (.seq (.ops ref10_G_Value_r15)
 (.seq (.seq (.ops ref10_G_Value_r16)
 (.block 1 (.loop ref10_G_Value_l0)))
 (.seq (.ops ref10_G_Value_r20)
 .ret))))))))),
 [.cell k4 true 4]⟩
def parser_read_Expr_r0 : List POper := [⟨some k4, .new [(.int .i64 (.lit 0)), (.str 0 0), (.int .i64 (.lit 0)), .nils, .nils, .nils, (.int .i64 (.lit 0))], none⟩,
 ⟨some k5, .new [(.int .i64 (.lit 0))], none⟩,
 ⟨some k6, .new [(.int .i64 (.lit 0))], none⟩]
def parser_read_Expr_r1 : List POper := [⟨some k10, .mov (.t k0), none⟩,
 ⟨some k11, .callF n_lexer_Tokens [(.t k10)], none⟩,
 ⟨some k9, .mov (.t k11), none⟩,
 ⟨some k12, .extract (.t k9) 0, none⟩,
 ⟨some k13, .extract (.t k9) 1, none⟩,
 ⟨some k14, .extract (.t k9) 2, none⟩,
 ⟨some k7, .mov (.t k12), none⟩,
 ⟨none, .store 1 (.t k5) (.t k13), none⟩,
 ⟨none, .store 1 (.t k6) (.t k14), none⟩]
def parser_read_Expr_r2 : List POper := [⟨some k15, .load false 1 (.t k6), none⟩,
 ⟨some k16, .bin .neq (.t k15) (.v (.int .i64 (.lit 0))), none⟩]
def parser_read_Expr_r3 : List SItem := [.L 0 ⟨some k17, .load true 7 (.t k4), none⟩,
 .L 1 ⟨some k18, .load false 1 (.t k5), none⟩,
 .L 2 ⟨some k19, .load false 1 (.t k6), none⟩,
 .H 3 ⟨none, .store 7 (.t k4) (.t k17), none⟩ [],
 .R [(1, ⟨some k18, .load false 1 (.t k5), none⟩), (2, ⟨some k19, .load false 1 (.t k6), none⟩)],
 .H 4 ⟨none, .store 1 (.t k5) (.t k18), none⟩ [],
 .R [(2, ⟨some k19, .load false 1 (.t k6), none⟩)],
 .H 5 ⟨none, .store 1 (.t k6) (.t k19), none⟩ [],
 .R []]
def parser_read_Expr_r4 : List POper := [⟨some k20, .mkfn n_parser_read_Expr_c1 [] [(.t k4), (.t k5), (.t k6)], none⟩,
 ⟨none, .dfr (.t k20) [], none⟩]
def parser_read_Expr_r5 : List POper := [⟨some k21, .mov (.t k7), none⟩,
 ⟨some k22, .mov (.t k0), none⟩,
 ⟨some k23, .lenS (.t k22), none⟩,
 ⟨some k24, .build [.nils, (.int .i64 (.lit 0)), (.int .i64 (.lit 0))] [(0, 1, (.t k21)), (2, 1, (.t k23))], none⟩,
 ⟨some k25, .box (.t k24), none⟩,
 ⟨some k8, .mov (.t k25), none⟩]
def parser_read_Expr_r6 : List POper := [⟨some k26, .mov (.t k1), none⟩,
 ⟨some k27, .mov (.t k8), none⟩,
 ⟨some k28, .callV (.t k26) [(.t k27)], none⟩,
 ⟨none, .store 7 (.t k4) (.t k28), none⟩]
def parser_read_Expr_r7 : List SItem := [.L 0 ⟨some k29, .mov (.t k8), none⟩,
 .L 1 ⟨some k30, .nilc (.t k29), none⟩,
 .L 2 ⟨some k31, .fieldA 1 (.t k30), none⟩,
 .L 3 ⟨some k32, .load false 1 (.t k31), none⟩,
 .L 4 ⟨some k33, .mov (.t k8), none⟩,
 .L 5 ⟨some k34, .nilc (.t k33), none⟩,
 .L 6 ⟨some k35, .fieldA 0 (.t k34), none⟩,
 .L 7 ⟨some k36, .load false 1 (.t k35), none⟩,
 .L 8 ⟨some k37, .lenL (.t k36), none⟩,
 .L 9 ⟨some k38, .bin .lss (.t k32) (.t k37), none⟩]
def parser_read_Expr_r8 : List POper := [⟨some k39, .mov (.t k8), none⟩,
 ⟨some k40, .callF 117 [(.t k39)], none⟩]
def parser_read_Expr_r9 : List POper := [⟨some k41, .load true 7 (.t k4), none⟩,
 ⟨none, .store 7 (.t k4) (.t k41), none⟩,
 ⟨none, .store 1 (.t k5) (.v (.int .i64 (.lit 0))), none⟩,
 ⟨none, .store 1 (.t k6) (.v (.int .i64 (.lit 0))), none⟩]
def parser_read_Expr : PFn := ⟨(.seq (.ops parser_read_Expr_r0)
 (.seq (.ops parser_read_Expr_r1)
 (.seq (.seq (.ops parser_read_Expr_r2)
 (.cond (.t k16)
 (.seq (.staged parser_read_Expr_r3 ⟨[k17, k18, k19], []⟩)
 .ret)
 .skip))
 (.seq (.ops parser_read_Expr_r4)
 (.seq (.ops parser_read_Expr_r5)
 (.seq (.ops parser_read_Expr_r6)
 (.seq (.seq (.staged parser_read_Expr_r7 ⟨[k29, k30, k31, k32, k33, k34, k35, k36, k37, k38], []⟩)
 (.cond (.t k38)
 (.ops parser_read_Expr_r8)
 .skip))
 (.seq (.ops parser_read_Expr_r9)
 .ret)))))))),
 [.cell k4 true 7, .cell k5 false 1, .cell k6 false 1]⟩
def parser_reader_expr_r0 : List POper := [⟨some k2, .new [(.int .i64 (.lit 0)), (.str 0 0), (.int .i64 (.lit 0)), .nils, .nils, .nils, (.int .i64 (.lit 0))], none⟩]
def parser_reader_expr_r1 : List POper := [⟨some k6, .mov (.t k0), none⟩,
 ⟨some k7, .callF n_parser_reader_offset [(.t k6)], none⟩,
 ⟨some k3, .mov (.t k7), none⟩]
def parser_reader_expr_r2 : List POper := [⟨some k9, .mov (.t k0), none⟩,
 ⟨some k10, .callF n_parser_reader_accept [(.t k9), (.v (.str 2 26217))], none⟩,
 ⟨some k8, .mov (.t k10), none⟩]
def parser_reader_expr_r3 : List POper := [⟨some k11, .mov (.t k3), none⟩,
 ⟨some k12, .mov (.t k0), none⟩,
 ⟨some k13, .callF n_parser_reader_expr [(.t k12)], none⟩,
 ⟨some k14, .bslice 7 1 [(.int .i64 (.lit 0)), (.str 0 0), (.int .i64 (.lit 0)), .nils, .nils, .nils, (.int .i64 (.lit 0))] [(0, 7, (.t k13))], none⟩,
 ⟨some k15, .build [(.int .i64 (.lit 0)), (.str 0 0), (.int .i64 (.lit 0)), .nils, .nils, .nils, (.int .i64 (.lit 0))] [(0, 1, (.v (.int .i64 (.lit 6)))), (6, 1, (.t k11)), (5, 1, (.t k14))], none⟩,
 ⟨some k4, .new [(.int .i64 (.lit 0)), (.str 0 0), (.int .i64 (.lit 0)), .nils, .nils, .nils, (.int .i64 (.lit 0))], none⟩,
 ⟨none, .store 7 (.t k4) (.t k15), none⟩]
def parser_reader_expr_r4 : List POper := [⟨some k16, .mov (.t k0), none⟩,
 ⟨some k17, .callF n_parser_reader_expect [(.t k16), (.v (.str 4 1852139636))], none⟩]
def parser_reader_expr_r5 : List SItem := [.L 0 ⟨some k18, .fieldA 5 (.t k4), none⟩,
 .L 1 ⟨some k19, .load false 1 (.t k18), none⟩,
 .L 2 ⟨some k20, .mov (.t k0), none⟩,
 .H 3 ⟨some k21, .callF n_parser_reader_expr [(.t k20)], none⟩ [],
 .R [(1, ⟨some k19, .load false 1 (.t k18), none⟩)],
 .A 4 ⟨some k22, .bslice 7 1 [(.int .i64 (.lit 0)), (.str 0 0), (.int .i64 (.lit 0)), .nils, .nils, .nils, (.int .i64 (.lit 0))] [(0, 7, (.t k21))], none⟩,
 .H 5 ⟨some k23, .append 7 (.t k19) (.t k22), none⟩ [4],
 .R [],
 .L 6 ⟨some k24, .fieldA 5 (.t k4), none⟩,
 .H 7 ⟨none, .store 1 (.t k24) (.t k23), none⟩ [4],
 .R []]
def parser_reader_expr_r6 : List POper := [⟨some k25, .mov (.t k0), none⟩,
 ⟨some k26, .callF n_parser_reader_expect [(.t k25), (.v (.str 4 1702063205))], none⟩]
def parser_reader_expr_r7 : List SItem := [.L 0 ⟨some k27, .fieldA 5 (.t k4), none⟩,
 .L 1 ⟨some k28, .load false 1 (.t k27), none⟩,
 .L 2 ⟨some k29, .mov (.t k0), none⟩,
 .H 3 ⟨some k30, .callF n_parser_reader_expr [(.t k29)], none⟩ [],
 .R [(1, ⟨some k28, .load false 1 (.t k27), none⟩)],
 .A 4 ⟨some k31, .bslice 7 1 [(.int .i64 (.lit 0)), (.str 0 0), (.int .i64 (.lit 0)), .nils, .nils, .nils, (.int .i64 (.lit 0))] [(0, 7, (.t k30))], none⟩,
 .H 5 ⟨some k32, .append 7 (.t k28) (.t k31), none⟩ [4],
 .R [],
 .L 6 ⟨some k33, .fieldA 5 (.t k4), none⟩,
 .H 7 ⟨none, .store 1 (.t k33) (.t k32), none⟩ [4],
 .R []]
def parser_reader_expr_r8 : List POper := [⟨some k34, .load true 7 (.t k4), none⟩,
 ⟨none, .store 7 (.t k2) (.t k34), none⟩]
def parser_reader_expr_r9 : List POper := [⟨some k36, .mov (.t k0), none⟩,
 ⟨some k37, .callF n_parser_reader_accept [(.t k36), (.v (.str 3 7628140))], none⟩,
 ⟨some k35, .mov (.t k37), none⟩]
def parser_reader_expr_r10 : List POper := [⟨some k38, .mov (.t k3), none⟩,
 ⟨some k39, .mov (.t k0), none⟩,
 ⟨some k40, .callF n_parser_reader_name [(.t k39)], none⟩,
 ⟨some k41, .build [(.int .i64 (.lit 0)), (.str 0 0), (.int .i64 (.lit 0)), .nils, .nils, .nils, (.int .i64 (.lit 0))] [(0, 1, (.v (.int .i64 (.lit 7)))), (6, 1, (.t k38)), (1, 1, (.t k40))], none⟩,
 ⟨some k5, .new [(.int .i64 (.lit 0)), (.str 0 0), (.int .i64 (.lit 0)), .nils, .nils, .nils, (.int .i64 (.lit 0))], none⟩,
 ⟨none, .store 7 (.t k5) (.t k41), none⟩]
def parser_reader_expr_r11 : List POper := [⟨some k42, .mov (.t k0), none⟩,
 ⟨some k43, .callF n_parser_reader_expect [(.t k42), (.v (.str 1 61))], none⟩]
def parser_reader_expr_r12 : List SItem := [.L 0 ⟨some k44, .fieldA 5 (.t k5), none⟩,
 .L 1 ⟨some k45, .load false 1 (.t k44), none⟩,
 .L 2 ⟨some k46, .mov (.t k0), none⟩,
 .H 3 ⟨some k47, .callF n_parser_reader_expr [(.t k46)], none⟩ [],
 .R [(1, ⟨some k45, .load false 1 (.t k44), none⟩)],
 .A 4 ⟨some k48, .bslice 7 1 [(.int .i64 (.lit 0)), (.str 0 0), (.int .i64 (.lit 0)), .nils, .nils, .nils, (.int .i64 (.lit 0))] [(0, 7, (.t k47))], none⟩,
 .H 5 ⟨some k49, .append 7 (.t k45) (.t k48), none⟩ [4],
 .R [],
 .L 6 ⟨some k50, .fieldA 5 (.t k5), none⟩,
 .H 7 ⟨none, .store 1 (.t k50) (.t k49), none⟩ [4],
 .R []]
def parser_reader_expr_r13 : List POper := [⟨some k51, .mov (.t k0), none⟩,
 ⟨some k52, .callF n_parser_reader_expect [(.t k51), (.v (.str 2 28265))], none⟩]
def parser_reader_expr_r14 : List SItem := [.L 0 ⟨some k53, .fieldA 5 (.t k5), none⟩,
 .L 1 ⟨some k54, .load false 1 (.t k53), none⟩,
 .L 2 ⟨some k55, .mov (.t k0), none⟩,
 .H 3 ⟨some k56, .callF n_parser_reader_expr [(.t k55)], none⟩ [],
 .R [(1, ⟨some k54, .load false 1 (.t k53), none⟩)],
 .A 4 ⟨some k57, .bslice 7 1 [(.int .i64 (.lit 0)), (.str 0 0), (.int .i64 (.lit 0)), .nils, .nils, .nils, (.int .i64 (.lit 0))] [(0, 7, (.t k56))], none⟩,
 .H 5 ⟨some k58, .append 7 (.t k54) (.t k57), none⟩ [4],
 .R [],
 .L 6 ⟨some k59, .fieldA 5 (.t k5), none⟩,
 .H 7 ⟨none, .store 1 (.t k59) (.t k58), none⟩ [4],
 .R []]
def parser_reader_expr_r15 : List POper := [⟨some k60, .load true 7 (.t k5), none⟩,
 ⟨none, .store 7 (.t k2) (.t k60), none⟩]
def parser_reader_expr_r16 : List POper := [⟨some k62, .mov (.t k0), none⟩,
 ⟨some k63, .callF n_parser_reader_accept [(.t k62), (.v (.str 5 448345170285))], none⟩,
 ⟨some k61, .mov (.t k63), none⟩]
def parser_reader_expr_r17 : List POper := [⟨some k64, .mov (.t k0), none⟩,
 ⟨some k65, .mov (.t k3), none⟩,
 ⟨some k66, .callF 122 [(.t k64), (.t k65)], none⟩,
 ⟨none, .store 7 (.t k2) (.t k66), none⟩]
def parser_reader_expr_r18 : List POper := [⟨some k67, .mov (.t k0), none⟩,
 ⟨some k68, .callF n_parser_reader_or [(.t k67)], none⟩,
 ⟨none, .store 7 (.t k2) (.t k68), none⟩]
def parser_reader_expr : PFn := ⟨(.seq (.ops parser_reader_expr_r0)
 (.seq (.ops parser_reader_expr_r1)
 (.seq (.block 0 (.seq (.ops parser_reader_expr_r2)
 (.cond (.t k8)
 (.seq (.ops parser_reader_expr_r3)
 (.seq (.ops parser_reader_expr_r4)
 (.seq (.staged parser_reader_expr_r5 ⟨[k18, k19, k20, k21, k22, k23, k24], []⟩)
 (.seq (.ops parser_reader_expr_r6)
 (.seq (.staged parser_reader_expr_r7 ⟨[k27, k28, k29, k30, k31, k32, k33], []⟩)
 (.seq (.ops parser_reader_expr_r8)
 .ret))))))
 (.seq (.ops parser_reader_expr_r9)
 (.cond (.t k35)
 (.seq (.ops parser_reader_expr_r10)
 (.seq (.ops parser_reader_expr_r11)
 (.seq (.staged parser_reader_expr_r12 ⟨[k44, k45, k46, k47, k48, k49, k50], []⟩)
 (.seq (.ops parser_reader_expr_r13)
 (.seq (.staged parser_reader_expr_r14 ⟨[k53, k54, k55, k56, k57, k58, k59], []⟩)
 (.seq (.ops parser_reader_expr_r15)
 .ret))))))
 (.seq (.ops parser_reader_expr_r16)
 (.cond (.t k61)
 (.seq (.ops parser_reader_expr_r17)
 .ret)
 .skip)))))))
 (.seq (.ops parser_reader_expr_r18)
 .ret)))),
 [.cell k2 true 7]⟩
def parser_checker_expr_r0 : List POper := [⟨some k3, .box (.t k1), none⟩]
def parser_checker_expr_r1 : List POper := [⟨some k4, .mov (.t k0), none⟩,
 ⟨some k5, .mov (.t k0), none⟩,
 ⟨some k6, .load true 7 (.t k3), none⟩,
 ⟨some k7, .callF n_parser_checker_exprDepth [(.t k5), (.t k6)], none⟩,
 ⟨some k8, .callF n_parser_checker_most [(.t k4), (.t k7), (.v (.int .i64 (.lit 32)))], none⟩]
def parser_checker_expr : PFn := ⟨(.seq (.ops parser_checker_expr_r0)
 (.ops parser_checker_expr_r1)),
 []⟩
def eval_newRun_r0 : List POper := [⟨some k3, .box (.t k0), none⟩,
 ⟨some k4, .box (.t k1), none⟩,
 ⟨some k5, .box (.t k2), none⟩,
 ⟨some k6, .mov (.v .nilp), none⟩]
def eval_newRun_r1 : List SItem := [.A 0 ⟨some k16, .mkmap, none⟩,
 .A 1 ⟨some k17, .mkmap, none⟩,
 .L 3 ⟨some k19, .fieldA 0 (.t k4), none⟩,
 .L 4 ⟨some k20, .load false 1 (.t k19), none⟩,
 .L 5 ⟨some k21, .mx true (.t k20) (.v (.int .i64 (.lit 0))), none⟩,
 .L 6 ⟨some k22, .mx false (.t k21) (.v (.int .i64 (.lit 1048576))), none⟩,
 .L 7 ⟨some k23, .fieldA 1 (.t k4), none⟩,
 .L 8 ⟨some k24, .load false 1 (.t k23), none⟩,
 .L 9 ⟨some k25, .mx true (.t k24) (.v (.int .i64 (.lit 0))), none⟩,
 .L 10 ⟨some k26, .mx false (.t k25) (.v (.int .i64 (.lit 1024))), none⟩,
 .L 11 ⟨some k27, .load true 2 (.t k5), none⟩,
 .H 2 ⟨some k18, .callF n_eval_builtins [], none⟩ [],
 .R [(4, ⟨some k20, .load false 1 (.t k19), none⟩), (8, ⟨some k24, .load false 1 (.t k23), none⟩), (11, ⟨some k27, .load true 2 (.t k5), none⟩)],
 .L 12 ⟨some k28, .build [.nilm, .nilm, .nilm, (.int .i64 (.lit 0)), (.int .i64 (.lit 0)), (.int .i64 (.lit 0)), (.int .i64 (.lit 0)), (.int .i64 (.lit 0)), (.int .i64 (.lit 0)), (.int .i64 (.lit 0)), (.int .i64 (.lit 0)), .nils] [(0, 1, (.t k16)), (1, 1, (.t k17)), (2, 1, (.t k18)), (3, 1, (.t k22)), (4, 1, (.t k26)), (5, 2, (.t k27))], none⟩,
 .A 13 ⟨some k29, .box (.t k28), none⟩,
 .L 14 ⟨some k7, .mov (.t k29), none⟩]
def eval_newRun_r2 : List POper := [⟨some k30, .fieldA 0 (.t k3), none⟩,
 ⟨some k31, .load false 1 (.t k30), none⟩,
 ⟨some k32, .lenL (.t k31), none⟩,
 ⟨some k33, .mov (.v (.int .i64 (.lit 0))), none⟩]
def eval_newRun_r3 : List POper := [⟨some k34, .bin .lss (.t k33) (.t k32), none⟩]
def eval_newRun_r4 : List POper := [⟨some k35, .mov (.t k33), none⟩,
 ⟨some k8, .mov (.t k35), none⟩]
def eval_newRun_r5 : List POper := [⟨some k36, .fieldA 0 (.t k3), none⟩,
 ⟨some k37, .load false 1 (.t k36), none⟩,
 ⟨some k38, .mov (.t k8), none⟩,
 ⟨some k39, .indexL 45 (.t k37) (.t k38), none⟩,
 ⟨some k9, .mov (.t k39), none⟩]
def eval_newRun_r6 : List POper := [⟨some k40, .mov (.t k9), none⟩,
 ⟨some k41, .nilc (.t k40), none⟩,
 ⟨some k42, .fieldA 0 (.t k41), none⟩,
 ⟨some k43, .load false 1 (.t k42), none⟩]
def eval_newRun_r7 : List POper := [⟨some k45, .bin .eql (.t k43) (.v (.int .i64 (.lit 1))), none⟩,
 ⟨some k44, .mov (.t k45), none⟩]
def eval_newRun_r8 : List SItem := [.L 0 ⟨some k47, .mov (.t k7), none⟩,
 .L 1 ⟨some k48, .nilc (.t k47), none⟩,
 .L 2 ⟨some k49, .fieldA 0 (.t k48), none⟩,
 .L 3 ⟨some k50, .load false 1 (.t k49), none⟩,
 .L 4 ⟨some k51, .mov (.t k9), none⟩,
 .L 5 ⟨some k52, .nilc (.t k51), none⟩,
 .L 6 ⟨some k53, .fieldA 1 (.t k52), none⟩,
 .L 7 ⟨some k54, .load false 1 (.t k53), none⟩,
 .L 8 ⟨some k55, .lookup true .nilp true (.t k50) (.t k54), none⟩,
 .L 9 ⟨some k46, .mov (.t k55), none⟩,
 .L 10 ⟨some k56, .extract (.t k46) 0, none⟩,
 .L 11 ⟨some k57, .extract (.t k46) 1, none⟩,
 .L 12 ⟨some k10, .mov (.t k56), none⟩,
 .L 13 ⟨some k11, .mov (.t k57), none⟩]
def eval_newRun_r9 : List POper := [⟨some k58, .mov (.t k11), none⟩,
 ⟨some k59, .un .not (.t k58), none⟩]
def eval_newRun_r10 : List SItem := [.L 0 ⟨some k60, .mov (.t k7), none⟩,
 .L 1 ⟨some k61, .nilc (.t k60), none⟩,
 .L 2 ⟨some k62, .fieldA 0 (.t k61), none⟩,
 .L 3 ⟨some k63, .load false 1 (.t k62), none⟩,
 .L 4 ⟨some k64, .mov (.t k9), none⟩,
 .L 5 ⟨some k65, .nilc (.t k64), none⟩,
 .L 6 ⟨some k66, .fieldA 1 (.t k65), none⟩,
 .L 7 ⟨some k67, .load false 1 (.t k66), none⟩,
 .L 8 ⟨some k68, .mov (.t k9), none⟩,
 .H 9 ⟨none, .mapupd true (.t k63) (.t k67) (.t k68), none⟩ [],
 .R []]
def eval_newRun_r11 : List POper := [⟨some k70, .bin .eql (.t k43) (.v (.int .i64 (.lit 0))), none⟩,
 ⟨some k69, .mov (.t k70), none⟩]
def eval_newRun_r12 : List POper := [⟨some k71, .mov (.t k9), none⟩,
 ⟨some k72, .nilc (.t k71), none⟩,
 ⟨some k73, .fieldA 3 (.t k72), none⟩,
 ⟨some k74, .load false 1 (.t k73), none⟩,
 ⟨some k75, .lenL (.t k74), none⟩,
 ⟨some k76, .mov (.v (.int .i64 (.lit 0))), none⟩]
def eval_newRun_r13 : List POper := [⟨some k77, .bin .lss (.t k76) (.t k75), none⟩]
def eval_newRun_r14 : List POper := [⟨some k78, .indexL 2 (.t k74) (.t k76), none⟩,
 ⟨some k79, .load true 2 (.t k78), none⟩,
 ⟨some k13, .new [(.str 0 0), .nils], none⟩,
 ⟨none, .store 2 (.t k13) (.t k79), none⟩]
def eval_newRun_r15 : List SItem := [.L 0 ⟨some k81, .mov (.t k7), none⟩,
 .L 1 ⟨some k82, .nilc (.t k81), none⟩,
 .L 2 ⟨some k83, .fieldA 1 (.t k82), none⟩,
 .L 3 ⟨some k84, .load false 1 (.t k83), none⟩,
 .L 4 ⟨some k85, .fieldA 0 (.t k13), none⟩,
 .L 5 ⟨some k86, .load false 1 (.t k85), none⟩,
 .L 6 ⟨some k87, .lookup true (.int .i64 (.lit 0)) true (.t k84) (.t k86), none⟩,
 .L 7 ⟨some k80, .mov (.t k87), none⟩,
 .L 8 ⟨some k88, .extract (.t k80) 0, none⟩,
 .L 9 ⟨some k89, .extract (.t k80) 1, none⟩,
 .L 10 ⟨some k14, .mov (.t k88), none⟩,
 .L 11 ⟨some k15, .mov (.t k89), none⟩]
def eval_newRun_r16 : List POper := [⟨some k90, .mov (.t k15), none⟩,
 ⟨some k91, .un .not (.t k90), none⟩]
def eval_newRun_r17 : List SItem := [.L 0 ⟨some k92, .mov (.t k7), none⟩,
 .L 1 ⟨some k93, .nilc (.t k92), none⟩,
 .L 2 ⟨some k94, .fieldA 1 (.t k93), none⟩,
 .L 3 ⟨some k95, .load false 1 (.t k94), none⟩,
 .L 4 ⟨some k96, .fieldA 0 (.t k13), none⟩,
 .L 5 ⟨some k97, .load false 1 (.t k96), none⟩,
 .L 6 ⟨some k98, .fieldA 1 (.t k13), none⟩,
 .L 7 ⟨some k99, .load false 1 (.t k98), none⟩,
 .L 8 ⟨some k100, .lenL (.t k99), none⟩,
 .H 9 ⟨none, .mapupd true (.t k95) (.t k97) (.t k100), none⟩ [],
 .R []]
def eval_newRun_r18 : List POper := [⟨some k101, .bin .add (.t k76) (.v (.int .i64 (.lit 1))), none⟩,
 ⟨some k76, .mov (.t k101), none⟩]
def eval_newRun_l1 : PCode := (.seq (.ops eval_newRun_r13)
 (.seq (.cond (.t k77)
 .skip
 (.exit 3))
 (.seq (.block 4 (.seq (.ops eval_newRun_r14)
 (.seq (.staged eval_newRun_r15 ⟨[k81, k82, k83, k84, k85, k86, k87, k80, k88, k89, k14, k15], []⟩)
 (.seq (.ops eval_newRun_r16)
 (.cond (.t k91)
 (.staged eval_newRun_r17 ⟨[k92, k93, k94, k95, k96, k97, k98, k99, k100], []⟩)
 .skip)))))
 (.ops eval_newRun_r18))))
def eval_newRun_r19 : List POper := [⟨some k102, .bin .add (.t k33) (.v (.int .i64 (.lit 1))), none⟩,
 ⟨some k33, .mov (.t k102), none⟩]
def eval_newRun_l0 : PCode := (.seq (.ops eval_newRun_r3)
 (.seq (.cond (.t k34)
 .skip
 (.exit 0))
 (.seq (.block 1 (.seq (.ops eval_newRun_r4)
 (.seq (.ops eval_newRun_r5)
 (.seq (.ops eval_newRun_r6)
 (.block 2 (.seq (.ops eval_newRun_r7)
 (.cond (.t k44)
 (.seq (.staged eval_newRun_r8 ⟨[k47, k48, k49, k50, k51, k52, k53, k54, k55, k46, k56, k57, k10, k11], []⟩)
 (.seq (.ops eval_newRun_r9)
 (.cond (.t k59)
 (.staged eval_newRun_r10 ⟨[k60, k61, k62, k63, k64, k65, k66, k67, k68], []⟩)
 .skip)))
 (.seq (.ops eval_newRun_r11)
 (.cond (.t k69)
 (.seq (.ops eval_newRun_r12)
 (.block 3 (.loop eval_newRun_l1)))
 .skip)))))))))
 (.ops eval_newRun_r19))))
def eval_newRun_r20 : List POper := [⟨some k103, .mov (.t k7), none⟩,
 ⟨some k6, .mov (.t k103), none⟩]
def eval_newRun : PFn := ⟨(.seq (.ops eval_newRun_r0)
 (.seq (.staged eval_newRun_r1 ⟨[k16, k17, k18, k19, k20, k21, k22, k23, k24, k25, k26, k27, k28, k29, k7], []⟩)
 (.seq (.seq (.ops eval_newRun_r2)
 (.block 0 (.loop eval_newRun_l0)))
 (.seq (.ops eval_newRun_r20)
 .ret)))),
 [.tmp k6]⟩
def eval_measured_r0 : List POper := [⟨some k1, .box (.t k0), none⟩,
 ⟨some k2, .new [(.int .i64 (.lit 0)), (.int .i64 (.lit 0)), (.str 0 0), .nils, (.int .i64 (.lit 0))], none⟩]
def eval_measured_r1 : List SItem := [.L 0 ⟨some k3, .load true 4 (.t k1), none⟩,
 .L 1 ⟨some k4, .load true 4 (.t k1), none⟩,
 .H 2 ⟨some k5, .callF n_values_Size [(.t k4)], none⟩ [],
 .R [(0, ⟨some k3, .load true 4 (.t k1), none⟩)],
 .L 3 ⟨some k6, .build [(.int .i64 (.lit 0)), (.int .i64 (.lit 0)), (.str 0 0), .nils, (.int .i64 (.lit 0))] [(0, 4, (.t k3)), (4, 1, (.t k5))], none⟩,
 .H 4 ⟨none, .store 5 (.t k2) (.t k6), none⟩ [],
 .R []]
def eval_measured : PFn := ⟨(.seq (.ops eval_measured_r0)
 (.seq (.staged eval_measured_r1 ⟨[k3, k4, k5, k6], []⟩)
 .ret)),
 [.cell k2 true 5]⟩
def eval_run_result_r0 : List POper := [⟨some k2, .box (.t k0), none⟩,
 ⟨some k4, .new [(.int .i64 (.lit 0)), (.int .i64 (.lit 0)), (.str 0 0), .nils], none⟩,
 ⟨some k5, .new [(.int .i64 (.lit 0)), (.int .i64 (.lit 0)), (.int .i64 (.lit 0))], none⟩,
 ⟨some k6, .new [.nils], none⟩,
 ⟨some k7, .new [(.int .i64 (.lit 0))], none⟩]
def eval_run_result_r1 : List POper := [⟨some k8, .mkfn n_eval_run_result_c1 [] [(.t k2), (.t k4), (.t k5), (.t k6), (.t k7)], none⟩,
 ⟨none, .dfr (.t k8) [], none⟩]
def eval_run_result_r2 : List POper := [⟨some k9, .mov (.t k1), none⟩,
 ⟨some k10, .callV (.t k9) [], none⟩,
 ⟨some k11, .field true 0 4 (.t k10), none⟩,
 ⟨some k12, .callF n_clone_Value [(.t k11)], none⟩,
 ⟨none, .store 4 (.t k4) (.t k12), none⟩]
def eval_run_result_r3 : List SItem := [.L 0 ⟨some k13, .load true 4 (.t k4), none⟩,
 .L 1 ⟨some k14, .load false 1 (.t k2), none⟩,
 .L 2 ⟨some k15, .nilc (.t k14), none⟩,
 .L 3 ⟨some k16, .fieldA 7 (.t k15), none⟩,
 .L 4 ⟨some k17, .load true 3 (.t k16), none⟩,
 .L 5 ⟨some k18, .load false 1 (.t k2), none⟩,
 .L 6 ⟨some k19, .nilc (.t k18), none⟩,
 .L 7 ⟨some k20, .fieldA 11 (.t k19), none⟩,
 .L 8 ⟨some k21, .load false 1 (.t k20), none⟩,
 .H 9 ⟨none, .store 4 (.t k4) (.t k13), none⟩ [],
 .R [(1, ⟨some k14, .load false 1 (.t k2), none⟩), (4, ⟨some k17, .load true 3 (.t k16), none⟩), (5, ⟨some k18, .load false 1 (.t k2), none⟩), (8, ⟨some k21, .load false 1 (.t k20), none⟩)],
 .H 10 ⟨none, .store 3 (.t k5) (.t k17), none⟩ [],
 .R [(5, ⟨some k18, .load false 1 (.t k2), none⟩), (8, ⟨some k21, .load false 1 (.t k20), none⟩)],
 .H 11 ⟨none, .store 1 (.t k6) (.t k21), none⟩ [],
 .R [],
 .H 12 ⟨none, .store 1 (.t k7) (.v (.int .i64 (.lit 0))), none⟩ [],
 .R []]
def eval_run_result : PFn := ⟨(.seq (.ops eval_run_result_r0)
 (.seq (.ops eval_run_result_r1)
 (.seq (.ops eval_run_result_r2)
 (.seq (.staged eval_run_result_r3 ⟨[k13, k14, k15, k16, k17, k18, k19, k20, k21], []⟩)
 .ret)))),
 [.cell k4 true 4, .cell k5 true 3, .cell k6 false 1, .cell k7 false 1]⟩
def eval_Expr_c1_r0 : List POper := [⟨some k3, .new [(.int .i64 (.lit 0)), (.int .i64 (.lit 0)), (.str 0 0), .nils, (.int .i64 (.lit 0))], none⟩]
def eval_Expr_c1_r1 : List POper := [⟨some k4, .load false 1 (.t k0), none⟩,
 ⟨some k5, .load false 1 (.t k1), none⟩,
 ⟨some k6, .callF n_eval_run_eval [(.t k4), (.v (.str 0 0)), (.t k5), (.t k2)], none⟩,
 ⟨none, .store 5 (.t k3) (.t k6), none⟩]
def eval_Expr_c1 : PFn := ⟨(.seq (.ops eval_Expr_c1_r0)
 (.seq (.ops eval_Expr_c1_r1)
 .ret)),
 [.cell k3 true 5]⟩
def eval_run_eval_r0 : List POper := [⟨some k8, .new [(.int .i64 (.lit 0)), (.int .i64 (.lit 0)), (.str 0 0), .nils, (.int .i64 (.lit 0))], none⟩]
def eval_run_eval_r1 : List SItem := [.L 0 ⟨some k10, .mov (.t k0), none⟩,
 .L 1 ⟨some k11, .nilc (.t k10), none⟩,
 .L 2 ⟨some k12, .fieldA 7 (.t k11), none⟩,
 .L 3 ⟨some k13, .fieldA 0 (.t k12), none⟩,
 .L 4 ⟨some k14, .load false 1 (.t k13), none⟩,
 .L 5 ⟨some k15, .mov (.t k0), none⟩,
 .L 6 ⟨some k16, .nilc (.t k15), none⟩,
 .L 7 ⟨some k17, .fieldA 3 (.t k16), none⟩,
 .L 8 ⟨some k18, .load false 1 (.t k17), none⟩,
 .L 9 ⟨some k19, .bin .geq (.t k14) (.t k18), none⟩]
def eval_run_eval_r2 : List POper := [⟨some k20, .callF n_eval_end [(.v (.int .i64 (.lit 15)))], none⟩]
def eval_run_eval_r3 : List POper := [⟨some k21, .mov (.t k0), none⟩,
 ⟨some k22, .nilc (.t k21), none⟩,
 ⟨some k23, .fieldA 7 (.t k22), none⟩,
 ⟨some k24, .fieldA 0 (.t k23), none⟩,
 ⟨some k25, .load false 1 (.t k24), none⟩,
 ⟨some k26, .bin .add (.t k25) (.v (.int .i64 (.lit 1))), none⟩,
 ⟨some k27, .nilc (.t k21), none⟩,
 ⟨some k28, .fieldA 7 (.t k27), none⟩,
 ⟨some k29, .fieldA 0 (.t k28), none⟩,
 ⟨none, .store 1 (.t k29) (.t k26), none⟩]
def eval_run_eval_r4 : List POper := [⟨some k30, .mov (.t k0), none⟩,
 ⟨some k31, .mov (.t k1), none⟩,
 ⟨some k32, .mov (.t k2), none⟩,
 ⟨some k33, .mov (.t k3), none⟩,
 ⟨some k34, .callF n_eval_run_value [(.t k30), (.t k31), (.t k32), (.t k33)], none⟩,
 ⟨some k9, .new [(.int .i64 (.lit 0)), (.int .i64 (.lit 0)), (.str 0 0), .nils, (.int .i64 (.lit 0))], none⟩,
 ⟨none, .store 5 (.t k9) (.t k34), none⟩]
def eval_run_eval_r5 : List SItem := [.L 0 ⟨some k35, .mov (.t k0), none⟩,
 .L 1 ⟨some k36, .mov (.t k0), none⟩,
 .L 2 ⟨some k37, .nilc (.t k36), none⟩,
 .L 3 ⟨some k38, .fieldA 7 (.t k37), none⟩,
 .L 4 ⟨some k39, .fieldA 1 (.t k38), none⟩,
 .L 5 ⟨some k40, .load false 1 (.t k39), none⟩,
 .L 6 ⟨some k41, .fieldA 4 (.t k9), none⟩,
 .L 7 ⟨some k42, .load false 1 (.t k41), none⟩,
 .L 8 ⟨some k43, .mx true (.t k40) (.t k42), none⟩,
 .L 9 ⟨some k44, .nilc (.t k35), none⟩,
 .L 10 ⟨some k45, .fieldA 7 (.t k44), none⟩,
 .L 11 ⟨some k46, .fieldA 1 (.t k45), none⟩,
 .H 12 ⟨none, .store 1 (.t k46) (.t k43), none⟩ [],
 .R []]
def eval_run_eval_r6 : List SItem := [.L 0 ⟨some k47, .fieldA 4 (.t k9), none⟩,
 .L 1 ⟨some k48, .load false 1 (.t k47), none⟩,
 .L 2 ⟨some k49, .mov (.t k0), none⟩,
 .L 3 ⟨some k50, .nilc (.t k49), none⟩,
 .L 4 ⟨some k51, .fieldA 4 (.t k50), none⟩,
 .L 5 ⟨some k52, .load false 1 (.t k51), none⟩,
 .L 6 ⟨some k53, .bin .gtr (.t k48) (.t k52), none⟩,
 .L 7 ⟨some k54, .mov (.t k53), none⟩,
 .L 8 ⟨some k55, .fieldA 0 (.t k9), some (k54, false)⟩,
 .L 9 ⟨some k56, .fieldA 0 (.t k55), some (k54, false)⟩,
 .L 10 ⟨some k57, .load false 1 (.t k56), some (k54, false)⟩,
 .L 11 ⟨some k58, .bin .eql (.t k57) (.v (.int .i64 (.lit 2))), some (k54, false)⟩,
 .L 12 ⟨some k59, .mov (.t k58), some (k54, false)⟩,
 .L 13 ⟨some k60, .fieldA 0 (.t k9), some (k59, true)⟩,
 .L 14 ⟨some k61, .fieldA 3 (.t k60), some (k59, true)⟩,
 .L 15 ⟨some k62, .load false 1 (.t k61), some (k59, true)⟩,
 .L 16 ⟨some k63, .lenL (.t k62), some (k59, true)⟩,
 .L 17 ⟨some k64, .bin .gtr (.t k63) (.v (.int .i64 (.lit 256))), some (k59, true)⟩,
 .L 18 ⟨some k65, .pick (.t k59) (.t k64) (.v (.bool false)), some (k54, false)⟩,
 .L 19 ⟨some k66, .pick (.t k54) (.v (.bool true)) (.t k65), none⟩]
def eval_run_eval_r7 : List POper := [⟨some k67, .callF n_eval_end [(.v (.int .i64 (.lit 16)))], none⟩]
def eval_run_eval_r8 : List POper := [⟨some k68, .load true 5 (.t k9), none⟩,
 ⟨none, .store 5 (.t k8) (.t k68), none⟩]
def eval_run_eval : PFn := ⟨(.seq (.ops eval_run_eval_r0)
 (.seq (.seq (.staged eval_run_eval_r1 ⟨[k10, k11, k12, k13, k14, k15, k16, k17, k18, k19], []⟩)
 (.cond (.t k19)
 (.ops eval_run_eval_r2)
 .skip))
 (.seq (.ops eval_run_eval_r3)
 (.seq (.ops eval_run_eval_r4)
 (.seq (.staged eval_run_eval_r5 ⟨[k35, k36, k37, k38, k39, k40, k41, k42, k43, k44, k45, k46], []⟩)
 (.seq (.seq (.staged eval_run_eval_r6 ⟨[k47, k48, k49, k50, k51, k52, k53, k54, k55, k56, k57, k58, k59, k60, k61, k62, k63, k64, k65, k66], []⟩)
 (.cond (.t k66)
 (.ops eval_run_eval_r7)
 .skip))
 (.seq (.ops eval_run_eval_r8)
 .ret))))))),
 [.cell k8 true 5]⟩
def values_visit_r0 : List POper := [⟨some k2, .box (.t k0), none⟩,
 ⟨some k3, .box (.t k1), none⟩]
def values_visit_r1 : List POper := [⟨some k4, .new [.nilf], none⟩]
def values_visit_r2 : List POper := [⟨some k5, .mkfn n_values_visit_c1 [] [(.t k3), (.t k4)], none⟩,
 ⟨none, .store 1 (.t k4) (.t k5), none⟩]
def values_visit_r3 : List POper := [⟨some k6, .load false 1 (.t k4), none⟩,
 ⟨some k7, .load true 4 (.t k2), none⟩,
 ⟨some k8, .callV (.t k6) [(.t k7), (.v (.int .i64 (.lit 1)))], none⟩]
def values_visit : PFn := ⟨(.seq (.ops values_visit_r0)
 (.seq (.ops values_visit_r1)
 (.seq (.ops values_visit_r2)
 (.ops values_visit_r3)))),
 []⟩
def values_Valid_c1_r0 : List POper := [⟨some k5, .box (.t k0), none⟩,
 ⟨some k7, .mov (.v (.bool false)), none⟩]
def values_Valid_c1_r1 : List POper := [⟨some k8, .load false 1 (.t k2), none⟩,
 ⟨some k9, .bin .add (.t k8) (.v (.int .i64 (.lit 1))), none⟩,
 ⟨none, .store 1 (.t k2) (.t k9), none⟩]
def values_Valid_c1_r2 : List POper := [⟨some k10, .load false 1 (.t k3), none⟩,
 ⟨some k11, .mov (.t k10), none⟩,
 ⟨some k12, .load true 4 (.t k5), some (k11, true)⟩,
 ⟨some k13, .callF n_values_formed [(.t k12)], some (k11, true)⟩,
 ⟨some k14, .pick (.t k11) (.t k13) (.v (.bool false)), none⟩,
 ⟨none, .store 1 (.t k3) (.t k14), none⟩]
def values_Valid_c1_r3 : List POper := [⟨some k15, .load false 1 (.t k4), none⟩,
 ⟨some k16, .mov (.t k15), none⟩,
 ⟨some k17, .load true 4 (.t k5), some (k16, true)⟩,
 ⟨some k18, .callF n_values_fits [(.t k17)], some (k16, true)⟩,
 ⟨some k19, .pick (.t k16) (.t k18) (.v (.bool false)), none⟩,
 ⟨none, .store 1 (.t k4) (.t k19), none⟩]
def values_Valid_c1_r4 : List POper := [⟨some k20, .load false 1 (.t k3), none⟩,
 ⟨some k7, .mov (.t k20), none⟩]
def values_Valid_c1 : PFn := ⟨(.seq (.ops values_Valid_c1_r0)
 (.seq (.ops values_Valid_c1_r1)
 (.seq (.ops values_Valid_c1_r2)
 (.seq (.ops values_Valid_c1_r3)
 (.seq (.ops values_Valid_c1_r4)
 .ret))))),
 [.tmp k7]⟩
def values_formed_r0 : List POper := [⟨some k1, .box (.t k0), none⟩,
 ⟨some k2, .mov (.v (.bool false)), none⟩]
def values_formed_r1 : List POper := [⟨some k3, .fieldA 0 (.t k1), none⟩,
 ⟨some k4, .load false 1 (.t k3), none⟩]
def values_formed_r2 : List POper := [⟨some k6, .bin .eql (.t k4) (.v (.int .i64 (.lit 0))), none⟩,
 ⟨some k5, .mov (.t k6), none⟩]
def values_formed_r3 : List POper := [⟨some k7, .fieldA 2 (.t k1), none⟩,
 ⟨some k8, .load false 1 (.t k7), none⟩,
 ⟨some k9, .bin .eql (.t k8) (.v (.str 0 0)), none⟩,
 ⟨some k10, .mov (.t k9), none⟩,
 ⟨some k11, .fieldA 3 (.t k1), some (k10, true)⟩,
 ⟨some k12, .load false 1 (.t k11), some (k10, true)⟩,
 ⟨some k13, .lenL (.t k12), some (k10, true)⟩,
 ⟨some k14, .bin .eql (.t k13) (.v (.int .i64 (.lit 0))), some (k10, true)⟩,
 ⟨some k15, .pick (.t k10) (.t k14) (.v (.bool false)), none⟩,
 ⟨some k2, .mov (.t k15), none⟩]
def values_formed_r4 : List POper := [⟨some k17, .bin .eql (.t k4) (.v (.int .i64 (.lit 1))), none⟩,
 ⟨some k16, .mov (.t k17), none⟩]
def values_formed_r5 : List POper := [⟨some k18, .fieldA 1 (.t k1), none⟩,
 ⟨some k19, .load false 1 (.t k18), none⟩,
 ⟨some k20, .bin .eql (.t k19) (.v (.int .i64 (.lit 0))), none⟩,
 ⟨some k21, .mov (.t k20), none⟩,
 ⟨some k22, .fieldA 1 (.t k1), some (k21, false)⟩,
 ⟨some k23, .load false 1 (.t k22), some (k21, false)⟩,
 ⟨some k24, .bin .eql (.t k23) (.v (.int .i64 (.lit 1))), some (k21, false)⟩,
 ⟨some k25, .pick (.t k21) (.v (.bool true)) (.t k24), none⟩,
 ⟨some k26, .mov (.t k25), none⟩,
 ⟨some k27, .fieldA 2 (.t k1), some (k26, true)⟩,
 ⟨some k28, .load false 1 (.t k27), some (k26, true)⟩,
 ⟨some k29, .bin .eql (.t k28) (.v (.str 0 0)), some (k26, true)⟩,
 ⟨some k30, .pick (.t k26) (.t k29) (.v (.bool false)), none⟩,
 ⟨some k31, .mov (.t k30), none⟩,
 ⟨some k32, .fieldA 3 (.t k1), some (k31, true)⟩,
 ⟨some k33, .load false 1 (.t k32), some (k31, true)⟩,
 ⟨some k34, .lenL (.t k33), some (k31, true)⟩,
 ⟨some k35, .bin .eql (.t k34) (.v (.int .i64 (.lit 0))), some (k31, true)⟩,
 ⟨some k36, .pick (.t k31) (.t k35) (.v (.bool false)), none⟩,
 ⟨some k2, .mov (.t k36), none⟩]
def values_formed_r6 : List POper := [⟨some k38, .bin .eql (.t k4) (.v (.int .i64 (.lit 2))), none⟩,
 ⟨some k37, .mov (.t k38), none⟩]
def values_formed_r7 : List POper := [⟨some k39, .fieldA 1 (.t k1), none⟩,
 ⟨some k40, .load false 1 (.t k39), none⟩,
 ⟨some k41, .bin .eql (.t k40) (.v (.int .i64 (.lit 0))), none⟩,
 ⟨some k42, .mov (.t k41), none⟩,
 ⟨some k43, .fieldA 2 (.t k1), some (k42, true)⟩,
 ⟨some k44, .load false 1 (.t k43), some (k42, true)⟩,
 ⟨some k45, .bin .eql (.t k44) (.v (.str 0 0)), some (k42, true)⟩,
 ⟨some k46, .pick (.t k42) (.t k45) (.v (.bool false)), none⟩,
 ⟨some k2, .mov (.t k46), none⟩]
def values_formed_r8 : List POper := [⟨some k48, .bin .eql (.t k4) (.v (.int .i64 (.lit 3))), none⟩,
 ⟨some k47, .mov (.t k48), none⟩]
def values_formed_r9 : List POper := [⟨some k49, .fieldA 1 (.t k1), none⟩,
 ⟨some k50, .load false 1 (.t k49), none⟩,
 ⟨some k51, .bin .eql (.t k50) (.v (.int .i64 (.lit 0))), none⟩,
 ⟨some k52, .mov (.t k51), none⟩,
 ⟨some k53, .fieldA 2 (.t k1), some (k52, true)⟩,
 ⟨some k54, .load false 1 (.t k53), some (k52, true)⟩,
 ⟨some k55, .callF n_values_capital [(.t k54)], some (k52, true)⟩,
 ⟨some k56, .pick (.t k52) (.t k55) (.v (.bool false)), none⟩,
 ⟨some k2, .mov (.t k56), none⟩]
def values_formed_r10 : List POper := [⟨some k2, .mov (.v (.bool false)), none⟩]
def values_formed : PFn := ⟨(.seq (.ops values_formed_r0)
 (.seq (.seq (.ops values_formed_r1)
 (.block 0 (.seq (.ops values_formed_r2)
 (.cond (.t k5)
 (.seq (.ops values_formed_r3)
 .ret)
 (.seq (.ops values_formed_r4)
 (.cond (.t k16)
 (.seq (.ops values_formed_r5)
 .ret)
 (.seq (.ops values_formed_r6)
 (.cond (.t k37)
 (.seq (.ops values_formed_r7)
 .ret)
 (.seq (.ops values_formed_r8)
 (.cond (.t k47)
 (.seq (.ops values_formed_r9)
 .ret)
 .skip))))))))))
 (.seq (.ops values_formed_r10)
 .ret))),
 [.tmp k2]⟩
def values_fits_r0 : List POper := [⟨some k1, .box (.t k0), none⟩,
 ⟨some k2, .mov (.v (.bool false)), none⟩]
def values_fits_r1 : List POper := [⟨some k3, .fieldA 3 (.t k1), none⟩,
 ⟨some k4, .load false 1 (.t k3), none⟩,
 ⟨some k5, .lenL (.t k4), none⟩,
 ⟨some k6, .bin .leq (.t k5) (.v (.int .i64 (.lit 256))), none⟩,
 ⟨some k7, .mov (.t k6), none⟩,
 ⟨some k8, .fieldA 0 (.t k1), some (k7, true)⟩,
 ⟨some k9, .load false 1 (.t k8), some (k7, true)⟩,
 ⟨some k10, .bin .neq (.t k9) (.v (.int .i64 (.lit 3))), some (k7, true)⟩,
 ⟨some k11, .mov (.t k10), some (k7, true)⟩,
 ⟨some k12, .fieldA 3 (.t k1), some (k11, false)⟩,
 ⟨some k13, .load false 1 (.t k12), some (k11, false)⟩,
 ⟨some k14, .lenL (.t k13), some (k11, false)⟩,
 ⟨some k15, .bin .leq (.t k14) (.v (.int .i64 (.lit 16))), some (k11, false)⟩,
 ⟨some k16, .pick (.t k11) (.v (.bool true)) (.t k15), some (k7, true)⟩,
 ⟨some k17, .pick (.t k7) (.t k16) (.v (.bool false)), none⟩,
 ⟨some k2, .mov (.t k17), none⟩]
def values_fits : PFn := ⟨(.seq (.ops values_fits_r0)
 (.seq (.ops values_fits_r1)
 .ret)),
 [.tmp k2]⟩
def values_Size_c1_r0 : List POper := [⟨some k3, .box (.t k0), none⟩,
 ⟨some k5, .mov (.v (.bool false)), none⟩]
def values_Size_c1_r1 : List POper := [⟨some k6, .load false 1 (.t k2), none⟩,
 ⟨some k7, .bin .add (.t k6) (.v (.int .i64 (.lit 1))), none⟩,
 ⟨none, .store 1 (.t k2) (.t k7), none⟩]
def values_Size_c1_r2 : List POper := [⟨some k5, .mov (.v (.bool true)), none⟩]
def values_Size_c1 : PFn := ⟨(.seq (.ops values_Size_c1_r0)
 (.seq (.ops values_Size_c1_r1)
 (.seq (.ops values_Size_c1_r2)
 .ret))),
 [.tmp k5]⟩
def cmp_Compare_int_r0 : List POper := [⟨some k4, .mov (.v (.int .i64 (.lit 0))), none⟩]
def cmp_Compare_int_r1 : List POper := [⟨some k7, .mov (.t k0), none⟩,
 ⟨some k8, .callF n_cmp_isNaN_int [(.t k7)], none⟩,
 ⟨some k5, .mov (.t k8), none⟩]
def cmp_Compare_int_r2 : List POper := [⟨some k9, .mov (.t k1), none⟩,
 ⟨some k10, .callF n_cmp_isNaN_int [(.t k9)], none⟩,
 ⟨some k6, .mov (.t k10), none⟩]
def cmp_Compare_int_r3 : List POper := [⟨some k11, .mov (.t k5), none⟩]
def cmp_Compare_int_r4 : List POper := [⟨some k12, .mov (.t k6), none⟩]
def cmp_Compare_int_r5 : List POper := [⟨some k4, .mov (.v (.int .i64 (.lit 0))), none⟩]
def cmp_Compare_int_r6 : List POper := [⟨some k4, .mov (.v (.int .i64 (.lit (-1)))), none⟩]
def cmp_Compare_int_r7 : List POper := [⟨some k13, .mov (.t k6), none⟩]
def cmp_Compare_int_r8 : List POper := [⟨some k4, .mov (.v (.int .i64 (.lit 1))), none⟩]
def cmp_Compare_int_r9 : List POper := [⟨some k14, .mov (.t k0), none⟩,
 ⟨some k15, .mov (.t k1), none⟩,
 ⟨some k16, .bin .lss (.t k14) (.t k15), none⟩]
def cmp_Compare_int_r10 : List POper := [⟨some k4, .mov (.v (.int .i64 (.lit (-1)))), none⟩]
def cmp_Compare_int_r11 : List POper := [⟨some k17, .mov (.t k0), none⟩,
 ⟨some k18, .mov (.t k1), none⟩,
 ⟨some k19, .bin .gtr (.t k17) (.t k18), none⟩]
def cmp_Compare_int_r12 : List POper := [⟨some k4, .mov (.v (.int .i64 (.lit 1))), none⟩]
def cmp_Compare_int_r13 : List POper := [⟨some k4, .mov (.v (.int .i64 (.lit 0))), none⟩]
def cmp_Compare_int : PFn := ⟨(.seq (.ops cmp_Compare_int_r0)
 (.seq (.ops cmp_Compare_int_r1)
 (.seq (.ops cmp_Compare_int_r2)
 (.seq (.seq (.ops cmp_Compare_int_r3)
 (.cond (.t k11)
 (.seq (.seq (.ops cmp_Compare_int_r4)
 (.cond (.t k12)
 (.seq (.ops cmp_Compare_int_r5)
 .ret)
 .skip))
 (.seq (.ops cmp_Compare_int_r6)
 .ret))
 .skip))
 (.seq (.seq (.ops cmp_Compare_int_r7)
 (.cond (.t k13)
 (.seq (.ops cmp_Compare_int_r8)
 .ret)
 .skip))
 (.seq (.seq (.ops cmp_Compare_int_r9)
 (.cond (.t k16)
 (.seq (.ops cmp_Compare_int_r10)
 .ret)
 .skip))
 (.seq (.seq (.ops cmp_Compare_int_r11)
 (.cond (.t k19)
 (.seq (.ops cmp_Compare_int_r12)
 .ret)
 .skip))
 (.seq (.ops cmp_Compare_int_r13)
 .ret)))))))),
 [.tmp k4]⟩
def cmp_Compare_string_r0 : List POper := [⟨some k4, .mov (.v (.int .i64 (.lit 0))), none⟩]
def cmp_Compare_string_r1 : List POper := [⟨some k7, .mov (.t k0), none⟩,
 ⟨some k8, .callF n_cmp_isNaN_string [(.t k7)], none⟩,
 ⟨some k5, .mov (.t k8), none⟩]
def cmp_Compare_string_r2 : List POper := [⟨some k9, .mov (.t k1), none⟩,
 ⟨some k10, .callF n_cmp_isNaN_string [(.t k9)], none⟩,
 ⟨some k6, .mov (.t k10), none⟩]
def cmp_Compare_string_r3 : List POper := [⟨some k11, .mov (.t k5), none⟩]
def cmp_Compare_string_r4 : List POper := [⟨some k12, .mov (.t k6), none⟩]
def cmp_Compare_string_r5 : List POper := [⟨some k4, .mov (.v (.int .i64 (.lit 0))), none⟩]
def cmp_Compare_string_r6 : List POper := [⟨some k4, .mov (.v (.int .i64 (.lit (-1)))), none⟩]
def cmp_Compare_string_r7 : List POper := [⟨some k13, .mov (.t k6), none⟩]
def cmp_Compare_string_r8 : List POper := [⟨some k4, .mov (.v (.int .i64 (.lit 1))), none⟩]
def cmp_Compare_string_r9 : List POper := [⟨some k14, .mov (.t k0), none⟩,
 ⟨some k15, .mov (.t k1), none⟩,
 ⟨some k16, .bin .lss (.t k14) (.t k15), none⟩]
def cmp_Compare_string_r10 : List POper := [⟨some k4, .mov (.v (.int .i64 (.lit (-1)))), none⟩]
def cmp_Compare_string_r11 : List POper := [⟨some k17, .mov (.t k0), none⟩,
 ⟨some k18, .mov (.t k1), none⟩,
 ⟨some k19, .bin .gtr (.t k17) (.t k18), none⟩]
def cmp_Compare_string_r12 : List POper := [⟨some k4, .mov (.v (.int .i64 (.lit 1))), none⟩]
def cmp_Compare_string_r13 : List POper := [⟨some k4, .mov (.v (.int .i64 (.lit 0))), none⟩]
def cmp_Compare_string : PFn := ⟨(.seq (.ops cmp_Compare_string_r0)
 (.seq (.ops cmp_Compare_string_r1)
 (.seq (.ops cmp_Compare_string_r2)
 (.seq (.seq (.ops cmp_Compare_string_r3)
 (.cond (.t k11)
 (.seq (.seq (.ops cmp_Compare_string_r4)
 (.cond (.t k12)
 (.seq (.ops cmp_Compare_string_r5)
 .ret)
 .skip))
 (.seq (.ops cmp_Compare_string_r6)
 .ret))
 .skip))
 (.seq (.seq (.ops cmp_Compare_string_r7)
 (.cond (.t k13)
 (.seq (.ops cmp_Compare_string_r8)
 .ret)
 .skip))
 (.seq (.seq (.ops cmp_Compare_string_r9)
 (.cond (.t k16)
 (.seq (.ops cmp_Compare_string_r10)
 .ret)
 .skip))
 (.seq (.seq (.ops cmp_Compare_string_r11)
 (.cond (.t k19)
 (.seq (.ops cmp_Compare_string_r12)
 .ret)
 .skip))
 (.seq (.ops cmp_Compare_string_r13)
 .ret)))))))),
 [.tmp k4]⟩
def slices_CompareFunc_Value_Value_Value_Value_r0 : List POper := [⟨some k6, .mov (.v (.int .i64 (.lit 0))), none⟩]
def slices_CompareFunc_Value_Value_Value_Value_r1 : List POper := [⟨some k11, .mov (.t k0), none⟩,
 ⟨some k12, .lenL (.t k11), none⟩,
 ⟨some k13, .mov (.v (.int .i64 (.lit 0))), none⟩]
def slices_CompareFunc_Value_Value_Value_Value_r2 : List POper := [⟨some k14, .bin .lss (.t k13) (.t k12), none⟩]
def slices_CompareFunc_Value_Value_Value_Value_r3 : List POper := [⟨some k15, .mov (.t k13), none⟩,
 ⟨some k16, .indexL 4 (.t k11) (.t k13), none⟩,
 ⟨some k17, .load true 4 (.t k16), none⟩,
 ⟨some k8, .new [(.int .i64 (.lit 0)), (.int .i64 (.lit 0)), (.str 0 0), .nils], none⟩,
 ⟨some k7, .mov (.t k15), none⟩,
 ⟨none, .store 4 (.t k8) (.t k17), none⟩]
def slices_CompareFunc_Value_Value_Value_Value_r4 : List POper := [⟨some k18, .mov (.t k7), none⟩,
 ⟨some k19, .mov (.t k1), none⟩,
 ⟨some k20, .lenL (.t k19), none⟩,
 ⟨some k21, .bin .geq (.t k18) (.t k20), none⟩]
def slices_CompareFunc_Value_Value_Value_Value_r5 : List POper := [⟨some k6, .mov (.v (.int .i64 (.lit 1))), none⟩]
def slices_CompareFunc_Value_Value_Value_Value_r6 : List POper := [⟨some k22, .mov (.t k1), none⟩,
 ⟨some k23, .mov (.t k7), none⟩,
 ⟨some k24, .indexL 4 (.t k22) (.t k23), none⟩,
 ⟨some k25, .load true 4 (.t k24), none⟩,
 ⟨some k9, .new [(.int .i64 (.lit 0)), (.int .i64 (.lit 0)), (.str 0 0), .nils], none⟩,
 ⟨none, .store 4 (.t k9) (.t k25), none⟩]
def slices_CompareFunc_Value_Value_Value_Value_r7 : List POper := [⟨some k26, .mov (.t k2), none⟩,
 ⟨some k27, .load true 4 (.t k8), none⟩,
 ⟨some k28, .load true 4 (.t k9), none⟩,
 ⟨some k29, .callV (.t k26) [(.t k27), (.t k28)], none⟩,
 ⟨some k10, .mov (.t k29), none⟩]
def slices_CompareFunc_Value_Value_Value_Value_r8 : List POper := [⟨some k30, .mov (.t k10), none⟩,
 ⟨some k31, .bin .neq (.t k30) (.v (.int .i64 (.lit 0))), none⟩]
def slices_CompareFunc_Value_Value_Value_Value_r9 : List POper := [⟨some k32, .mov (.t k10), none⟩,
 ⟨some k6, .mov (.t k32), none⟩]
def slices_CompareFunc_Value_Value_Value_Value_r10 : List POper := [⟨some k33, .bin .add (.t k13) (.v (.int .i64 (.lit 1))), none⟩,
 ⟨some k13, .mov (.t k33), none⟩]
def slices_CompareFunc_Value_Value_Value_Value_l0 : PCode := (.seq (.ops slices_CompareFunc_Value_Value_Value_Value_r2)
 (.seq (.cond (.t k14)
 .skip
 (.exit 0))
 (.seq (.block 1 (.seq (.ops slices_CompareFunc_Value_Value_Value_Value_r3)
 (.seq (.seq (.ops slices_CompareFunc_Value_Value_Value_Value_r4)
 (.cond (.t k21)
 (.seq (.ops slices_CompareFunc_Value_Value_Value_Value_r5)
 .ret)
 .skip))
 (.seq (.ops slices_CompareFunc_Value_Value_Value_Value_r6)
 (.seq (.ops slices_CompareFunc_Value_Value_Value_Value_r7)
 (.seq (.ops slices_CompareFunc_Value_Value_Value_Value_r8)
 (.cond (.t k31)
 (.seq (.ops slices_CompareFunc_Value_Value_Value_Value_r9)
 .ret)
 .skip)))))))
 (.ops slices_CompareFunc_Value_Value_Value_Value_r10))))
def slices_CompareFunc_Value_Value_Value_Value_r11 : List POper := [⟨some k34, .mov (.t k0), none⟩,
 ⟨some k35, .lenL (.t k34), none⟩,
 ⟨some k36, .mov (.t k1), none⟩,
 ⟨some k37, .lenL (.t k36), none⟩,
 ⟨some k38, .bin .lss (.t k35) (.t k37), none⟩]
def slices_CompareFunc_Value_Value_Value_Value_r12 : List POper := [⟨some k6, .mov (.v (.int .i64 (.lit (-1)))), none⟩]
def slices_CompareFunc_Value_Value_Value_Value_r13 : List POper := [⟨some k6, .mov (.v (.int .i64 (.lit 0))), none⟩]
def slices_CompareFunc_Value_Value_Value_Value : PFn := ⟨(.seq (.ops slices_CompareFunc_Value_Value_Value_Value_r0)
 (.seq (.seq (.ops slices_CompareFunc_Value_Value_Value_Value_r1)
 (.block 0 (.loop slices_CompareFunc_Value_Value_Value_Value_l0)))
 (.seq (.seq (.ops slices_CompareFunc_Value_Value_Value_Value_r11)
 (.cond (.t k38)
 (.seq (.ops slices_CompareFunc_Value_Value_Value_Value_r12)
 .ret)
 .skip))
 (.seq (.ops slices_CompareFunc_Value_Value_Value_Value_r13)
 .ret)))),
 [.tmp k6]⟩
def ref10_G_Next_r0 : List POper := [⟨some k4, .mov (.v (.int .i64 (.lit 0))), none⟩]
def ref10_G_Next_r1 : List SItem := [.L 0 ⟨some k6, .mov (.t k0), none⟩,
 .L 1 ⟨some k7, .nilc (.t k6), none⟩,
 .L 2 ⟨some k8, .fieldA 1 (.t k7), none⟩,
 .L 3 ⟨some k9, .load false 1 (.t k8), none⟩,
 .L 4 ⟨some k10, .mov (.t k0), none⟩,
 .L 5 ⟨some k11, .nilc (.t k10), none⟩,
 .L 6 ⟨some k12, .fieldA 0 (.t k11), none⟩,
 .L 7 ⟨some k13, .load false 1 (.t k12), none⟩,
 .L 8 ⟨some k14, .lenL (.t k13), none⟩,
 .L 9 ⟨some k15, .bin .geq (.t k9) (.t k14), none⟩,
 .L 10 ⟨some k16, .mov (.t k15), none⟩,
 .L 11 ⟨some k17, .mov (.t k1), some (k16, false)⟩,
 .L 12 ⟨some k18, .bin .lss (.t k17) (.v (.int .i64 (.lit 2))), some (k16, false)⟩,
 .L 13 ⟨some k19, .pick (.t k16) (.v (.bool true)) (.t k18), none⟩]
def ref10_G_Next_r2 : List POper := [⟨some k20, .mov (.t k0), none⟩,
 ⟨some k21, .nilc (.t k20), none⟩,
 ⟨some k22, .fieldA 1 (.t k21), none⟩,
 ⟨some k23, .load false 1 (.t k22), none⟩,
 ⟨some k24, .bin .add (.t k23) (.v (.int .i64 (.lit 1))), none⟩,
 ⟨some k25, .nilc (.t k20), none⟩,
 ⟨some k26, .fieldA 1 (.t k25), none⟩,
 ⟨none, .store 1 (.t k26) (.t k24), none⟩]
def ref10_G_Next_r3 : List POper := [⟨some k4, .mov (.v (.int .i64 (.lit 0))), none⟩]
def ref10_G_Next_r4 : List SItem := [.L 0 ⟨some k27, .mov (.t k0), none⟩,
 .L 1 ⟨some k28, .nilc (.t k27), none⟩,
 .L 2 ⟨some k29, .fieldA 0 (.t k28), none⟩,
 .L 3 ⟨some k30, .load false 1 (.t k29), none⟩,
 .L 4 ⟨some k31, .mov (.t k0), none⟩,
 .L 5 ⟨some k32, .nilc (.t k31), none⟩,
 .L 6 ⟨some k33, .fieldA 1 (.t k32), none⟩,
 .L 7 ⟨some k34, .load false 1 (.t k33), none⟩,
 .L 8 ⟨some k35, .indexL 1 (.t k30) (.t k34), none⟩,
 .L 9 ⟨some k36, .load false 1 (.t k35), none⟩,
 .L 10 ⟨some k37, .mov (.t k1), none⟩,
 .L 11 ⟨some k38, .bin .rem (.t k36) (.t k37), none⟩,
 .L 12 ⟨some k5, .mov (.t k38), none⟩]
def ref10_G_Next_r5 : List POper := [⟨some k39, .mov (.t k0), none⟩,
 ⟨some k40, .nilc (.t k39), none⟩,
 ⟨some k41, .fieldA 1 (.t k40), none⟩,
 ⟨some k42, .load false 1 (.t k41), none⟩,
 ⟨some k43, .bin .add (.t k42) (.v (.int .i64 (.lit 1))), none⟩,
 ⟨some k44, .nilc (.t k39), none⟩,
 ⟨some k45, .fieldA 1 (.t k44), none⟩,
 ⟨none, .store 1 (.t k45) (.t k43), none⟩]
def ref10_G_Next_r6 : List POper := [⟨some k46, .mov (.t k5), none⟩,
 ⟨some k47, .bin .lss (.t k46) (.v (.int .i64 (.lit 0))), none⟩]
def ref10_G_Next_r7 : List POper := [⟨some k48, .mov (.t k5), none⟩,
 ⟨some k49, .mov (.t k1), none⟩,
 ⟨some k50, .bin .add (.t k48) (.t k49), none⟩,
 ⟨some k5, .mov (.t k50), none⟩]
def ref10_G_Next_r8 : List POper := [⟨some k51, .mov (.t k5), none⟩,
 ⟨some k4, .mov (.t k51), none⟩]
def ref10_G_Next : PFn := ⟨(.seq (.ops ref10_G_Next_r0)
 (.seq (.seq (.staged ref10_G_Next_r1 ⟨[k6, k7, k8, k9, k10, k11, k12, k13, k14, k15, k16, k17, k18, k19], []⟩)
 (.cond (.t k19)
 (.seq (.ops ref10_G_Next_r2)
 (.seq (.ops ref10_G_Next_r3)
 .ret))
 .skip))
 (.seq (.staged ref10_G_Next_r4 ⟨[k27, k28, k29, k30, k31, k32, k33, k34, k35, k36, k37, k38, k5], []⟩)
 (.seq (.ops ref10_G_Next_r5)
 (.seq (.seq (.ops ref10_G_Next_r6)
 (.cond (.t k47)
 (.ops ref10_G_Next_r7)
 .skip))
 (.seq (.ops ref10_G_Next_r8)
 .ret)))))),
 [.tmp k4]⟩
def lexer_Tokens_r0 : List POper := [⟨some k2, .new [.nils], none⟩,
 ⟨some k3, .new [(.int .i64 (.lit 0))], none⟩,
 ⟨some k4, .new [(.int .i64 (.lit 0))], none⟩]
def lexer_Tokens_r1 : List POper := [⟨some k8, .mov (.t k0), none⟩,
 ⟨some k9, .lenS (.t k8), none⟩,
 ⟨some k10, .bin .gtr (.t k9) (.v (.int .i64 (.lit 8192))), none⟩]
def lexer_Tokens_r2 : List POper := [⟨none, .store 1 (.t k2) (.v .nils), none⟩,
 ⟨none, .store 1 (.t k3) (.v (.int .i64 (.lit 0))), none⟩,
 ⟨none, .store 1 (.t k4) (.v (.int .i64 (.lit 4))), none⟩]
def lexer_Tokens_r3 : List POper := [⟨some k5, .new [.nils], none⟩]
def lexer_Tokens_r4 : List POper := [⟨some k11, .mov (.t k0), none⟩,
 ⟨some k12, .callF n_lexer_tokens [(.t k11)], none⟩]
def lexer_Tokens_r5 : List POper := [⟨some k6, .new [(.int .i64 (.lit 0)), (.int .i64 (.lit 0)), (.int .i64 (.lit 0)), (.str 0 0)], none⟩,
 ⟨none, .store 4 (.t k6) (.t k13), none⟩]
def lexer_Tokens_r6 : List POper := [⟨some k7, .mov (.t k14), none⟩]
def lexer_Tokens_r7 : List POper := [⟨some k15, .mov (.t k7), none⟩,
 ⟨some k16, .bin .neq (.t k15) (.v (.int .i64 (.lit 0))), none⟩]
def lexer_Tokens_r8 : List SItem := [.L 0 ⟨some k17, .fieldA 1 (.t k6), none⟩,
 .L 1 ⟨some k18, .load false 1 (.t k17), none⟩,
 .L 2 ⟨some k19, .mov (.t k7), none⟩,
 .H 3 ⟨none, .store 1 (.t k2) (.v .nils), none⟩ [],
 .R [(1, ⟨some k18, .load false 1 (.t k17), none⟩)],
 .H 4 ⟨none, .store 1 (.t k3) (.t k18), none⟩ [],
 .R [],
 .H 5 ⟨none, .store 1 (.t k4) (.t k19), none⟩ [],
 .R []]
def lexer_Tokens_r9 : List POper := [⟨some k20, .load false 1 (.t k5), none⟩,
 ⟨some k21, .load true 4 (.t k6), none⟩,
 ⟨some k22, .bslice 4 1 [(.int .i64 (.lit 0)), (.int .i64 (.lit 0)), (.int .i64 (.lit 0)), (.str 0 0)] [(0, 4, (.t k21))], none⟩,
 ⟨some k23, .append 4 (.t k20) (.t k22), none⟩,
 ⟨none, .store 1 (.t k5) (.t k23), none⟩]
def lexer_Tokens_r10 : List POper := [⟨some k24, .load false 1 (.t k5), none⟩,
 ⟨none, .store 1 (.t k2) (.t k24), none⟩,
 ⟨none, .store 1 (.t k3) (.v (.int .i64 (.lit 0))), none⟩,
 ⟨none, .store 1 (.t k4) (.v (.int .i64 (.lit 0))), none⟩]
def lexer_Tokens : PFn := ⟨(.seq (.ops lexer_Tokens_r0)
 (.seq (.seq (.ops lexer_Tokens_r1)
 (.cond (.t k10)
 (.seq (.ops lexer_Tokens_r2)
 .ret)
 .skip))
 (.seq (.ops lexer_Tokens_r3)
 (.seq (.seq (.ops lexer_Tokens_r4)
 (.block 0 (.rangeF (.t k12) [k13, k14] (.seq (.ops lexer_Tokens_r5)
 (.ops lexer_Tokens_r6)) (.block 1 (.seq (.seq (.ops lexer_Tokens_r7)
 (.cond (.t k16)
 (.seq (.staged lexer_Tokens_r8 ⟨[k17, k18, k19], []⟩)
 .ret)
 .skip))
 (.ops lexer_Tokens_r9))))))
 (.seq (.ops lexer_Tokens_r10)
 .ret))))),
 [.cell k2 false 1, .cell k3 false 1, .cell k4 false 1]⟩
def parser_read_Expr_c1_r0 : List POper := [⟨some k7, .recover, none⟩,
 ⟨some k3, .mov (.t k7), none⟩]
def parser_read_Expr_c1_r1 : List POper := [⟨some k8, .mov (.t k3), none⟩,
 ⟨some k9, .eq true .iface (.t k8) (.v .nili), none⟩]
def parser_read_Expr_c1_r2 : List POper := [⟨some k11, .mov (.t k3), none⟩,
 ⟨some k12, .assert ty_parser_misfit (.agg [(.int .i64 (.lit 0))]) true (.t k11), none⟩,
 ⟨some k10, .mov (.t k12), none⟩,
 ⟨some k13, .extract (.t k10) 0, none⟩,
 ⟨some k14, .extract (.t k10) 1, none⟩,
 ⟨some k4, .new [(.int .i64 (.lit 0))], none⟩,
 ⟨none, .store 1 (.t k4) (.t k13), none⟩,
 ⟨some k5, .mov (.t k14), none⟩]
def parser_read_Expr_c1_r3 : List POper := [⟨some k15, .mov (.t k5), none⟩,
 ⟨some k16, .un .not (.t k15), none⟩]
def parser_read_Expr_c1_r4 : List POper := [⟨some k17, .mov (.t k3), none⟩,
 ⟨none, .panic (.t k17), none⟩]
def parser_read_Expr_c1_r5 : List POper := [⟨some k6, .new [(.int .i64 (.lit 0)), (.str 0 0), (.int .i64 (.lit 0)), .nils, .nils, .nils, (.int .i64 (.lit 0))], none⟩]
def parser_read_Expr_c1_r6 : List SItem := [.L 0 ⟨some k18, .load true 7 (.t k6), none⟩,
 .L 1 ⟨some k19, .fieldA 0 (.t k4), none⟩,
 .L 2 ⟨some k20, .load false 1 (.t k19), none⟩,
 .H 3 ⟨none, .store 7 (.t k0) (.t k18), none⟩ [],
 .R [(2, ⟨some k20, .load false 1 (.t k19), none⟩)],
 .H 4 ⟨none, .store 1 (.t k1) (.t k20), none⟩ [],
 .R [],
 .H 5 ⟨none, .store 1 (.t k2) (.v (.int .i64 (.lit 2))), none⟩ [],
 .R []]
def parser_read_Expr_c1 : PFn := ⟨(.seq (.ops parser_read_Expr_c1_r0)
 (.seq (.ops parser_read_Expr_c1_r1)
 (.cond (.t k9)
 (.seq (.ops parser_read_Expr_c1_r2)
 (.seq (.seq (.ops parser_read_Expr_c1_r3)
 (.cond (.t k16)
 (.ops parser_read_Expr_c1_r4)
 .skip))
 (.seq (.ops parser_read_Expr_c1_r5)
 (.staged parser_read_Expr_c1_r6 ⟨[k18, k19, k20], []⟩))))
 .skip))),
 []⟩
def parser_reader_offset_r0 : List POper := [⟨some k2, .mov (.v (.int .i64 (.lit 0))), none⟩]
def parser_reader_offset_r1 : List SItem := [.L 0 ⟨some k3, .mov (.t k0), none⟩,
 .L 1 ⟨some k4, .nilc (.t k3), none⟩,
 .L 2 ⟨some k5, .fieldA 1 (.t k4), none⟩,
 .L 3 ⟨some k6, .load false 1 (.t k5), none⟩,
 .L 4 ⟨some k7, .mov (.t k0), none⟩,
 .L 5 ⟨some k8, .nilc (.t k7), none⟩,
 .L 6 ⟨some k9, .fieldA 0 (.t k8), none⟩,
 .L 7 ⟨some k10, .load false 1 (.t k9), none⟩,
 .L 8 ⟨some k11, .lenL (.t k10), none⟩,
 .L 9 ⟨some k12, .bin .lss (.t k6) (.t k11), none⟩]
def parser_reader_offset_r2 : List SItem := [.L 0 ⟨some k13, .mov (.t k0), none⟩,
 .L 1 ⟨some k14, .nilc (.t k13), none⟩,
 .L 2 ⟨some k15, .fieldA 0 (.t k14), none⟩,
 .L 3 ⟨some k16, .load false 1 (.t k15), none⟩,
 .L 4 ⟨some k17, .mov (.t k0), none⟩,
 .L 5 ⟨some k18, .nilc (.t k17), none⟩,
 .L 6 ⟨some k19, .fieldA 1 (.t k18), none⟩,
 .L 7 ⟨some k20, .load false 1 (.t k19), none⟩,
 .L 8 ⟨some k21, .indexL 4 (.t k16) (.t k20), none⟩,
 .L 9 ⟨some k22, .fieldA 1 (.t k21), none⟩,
 .L 10 ⟨some k23, .load false 1 (.t k22), none⟩,
 .L 11 ⟨some k2, .mov (.t k23), none⟩]
def parser_reader_offset_r3 : List POper := [⟨some k24, .mov (.t k0), none⟩,
 ⟨some k25, .nilc (.t k24), none⟩,
 ⟨some k26, .fieldA 2 (.t k25), none⟩,
 ⟨some k27, .load false 1 (.t k26), none⟩,
 ⟨some k2, .mov (.t k27), none⟩]
def parser_reader_offset : PFn := ⟨(.seq (.ops parser_reader_offset_r0)
 (.seq (.seq (.staged parser_reader_offset_r1 ⟨[k3, k4, k5, k6, k7, k8, k9, k10, k11, k12], []⟩)
 (.cond (.t k12)
 (.seq (.staged parser_reader_offset_r2 ⟨[k13, k14, k15, k16, k17, k18, k19, k20, k21, k22, k23, k2], []⟩)
 .ret)
 .skip))
 (.seq (.ops parser_reader_offset_r3)
 .ret))),
 [.tmp k2]⟩
def parser_reader_accept_r0 : List POper := [⟨some k4, .mov (.v (.bool false)), none⟩]
def parser_reader_accept_r1 : List POper := [⟨some k5, .mov (.t k0), none⟩,
 ⟨some k6, .mov (.t k1), none⟩,
 ⟨some k7, .callF n_parser_reader_is [(.t k5), (.t k6)], none⟩,
 ⟨some k8, .un .not (.t k7), none⟩]
def parser_reader_accept_r2 : List POper := [⟨some k4, .mov (.v (.bool false)), none⟩]
def parser_reader_accept_r3 : List POper := [⟨some k9, .mov (.t k0), none⟩,
 ⟨some k10, .nilc (.t k9), none⟩,
 ⟨some k11, .fieldA 1 (.t k10), none⟩,
 ⟨some k12, .load false 1 (.t k11), none⟩,
 ⟨some k13, .bin .add (.t k12) (.v (.int .i64 (.lit 1))), none⟩,
 ⟨some k14, .nilc (.t k9), none⟩,
 ⟨some k15, .fieldA 1 (.t k14), none⟩,
 ⟨none, .store 1 (.t k15) (.t k13), none⟩]
def parser_reader_accept_r4 : List POper := [⟨some k4, .mov (.v (.bool true)), none⟩]
def parser_reader_accept : PFn := ⟨(.seq (.ops parser_reader_accept_r0)
 (.seq (.seq (.ops parser_reader_accept_r1)
 (.cond (.t k8)
 (.seq (.ops parser_reader_accept_r2)
 .ret)
 .skip))
 (.seq (.ops parser_reader_accept_r3)
 (.seq (.ops parser_reader_accept_r4)
 .ret)))),
 [.tmp k4]⟩
def parser_reader_expect_r0 : List POper := [⟨some k4, .mov (.t k0), none⟩,
 ⟨some k5, .mov (.t k1), none⟩,
 ⟨some k6, .callF n_parser_reader_accept [(.t k4), (.t k5)], none⟩,
 ⟨some k7, .un .not (.t k6), none⟩]
def parser_reader_expect_r1 : List POper := [⟨some k8, .mov (.t k0), none⟩,
 ⟨some k9, .callF 117 [(.t k8)], none⟩]
def parser_reader_expect : PFn := ⟨(.seq (.ops parser_reader_expect_r0)
 (.cond (.t k7)
 (.ops parser_reader_expect_r1)
 .skip)),
 []⟩
def parser_reader_name_r0 : List POper := [⟨some k2, .mov (.v (.str 0 0)), none⟩]
def parser_reader_name_r1 : List POper := [⟨some k3, .mov (.t k0), none⟩,
 ⟨some k4, .callF n_parser_reader_named [(.t k3)], none⟩,
 ⟨some k5, .un .not (.t k4), none⟩]
def parser_reader_name_r2 : List POper := [⟨some k6, .mov (.t k0), none⟩,
 ⟨some k7, .callF 117 [(.t k6)], none⟩]
def parser_reader_name_r3 : List POper := [⟨some k8, .mov (.t k0), none⟩,
 ⟨some k9, .callF n_parser_reader_take [(.t k8), (.v (.int .i64 (.lit 0)))], none⟩,
 ⟨some k10, .field false 3 1 (.t k9), none⟩,
 ⟨some k2, .mov (.t k10), none⟩]
def parser_reader_name : PFn := ⟨(.seq (.ops parser_reader_name_r0)
 (.seq (.seq (.ops parser_reader_name_r1)
 (.cond (.t k5)
 (.ops parser_reader_name_r2)
 .skip))
 (.seq (.ops parser_reader_name_r3)
 .ret))),
 [.tmp k2]⟩
def parser_reader_or_r0 : List POper := [⟨some k2, .new [(.int .i64 (.lit 0)), (.str 0 0), (.int .i64 (.lit 0)), .nils, .nils, .nils, (.int .i64 (.lit 0))], none⟩]
def parser_reader_or_r1 : List POper := [⟨some k3, .mov (.t k0), none⟩,
 ⟨some k4, .mov (.t k0), none⟩,
 ⟨some k5, .mkfn n_parser_reader_and [(.t k4)] [], none⟩,
 ⟨some k6, .bslice 1 1 [(.str 0 0)] [(0, 1, (.v (.str 2 29295)))], none⟩,
 ⟨some k7, .callF n_parser_reader_grouped [(.t k3), (.t k5), (.t k6)], none⟩,
 ⟨none, .store 7 (.t k2) (.t k7), none⟩]
def parser_reader_or : PFn := ⟨(.seq (.ops parser_reader_or_r0)
 (.seq (.ops parser_reader_or_r1)
 .ret)),
 [.cell k2 true 7]⟩
def parser_checker_most_r0 : List POper := [⟨some k6, .mov (.t k1), none⟩,
 ⟨some k7, .mov (.t k2), none⟩,
 ⟨some k8, .bin .gtr (.t k6) (.t k7), none⟩]
def parser_checker_most_r1 : List POper := [⟨some k9, .mov (.t k0), none⟩,
 ⟨some k10, .nilc (.t k9), none⟩,
 ⟨some k11, .fieldA 0 (.t k10), none⟩,
 ⟨none, .store 1 (.t k11) (.v (.bool true)), none⟩]
def parser_checker_most : PFn := ⟨(.seq (.ops parser_checker_most_r0)
 (.cond (.t k8)
 (.ops parser_checker_most_r1)
 .skip)),
 []⟩
def parser_checker_exprDepth_r0 : List POper := [⟨some k3, .box (.t k1), none⟩,
 ⟨some k4, .mov (.v (.int .i64 (.lit 0))), none⟩]
def parser_checker_exprDepth_r1 : List POper := [⟨some k5, .mov (.v (.int .i64 (.lit 0))), none⟩]
def parser_checker_exprDepth_r2 : List POper := [⟨some k9, .fieldA 5 (.t k3), none⟩,
 ⟨some k10, .load false 1 (.t k9), none⟩,
 ⟨some k11, .lenL (.t k10), none⟩,
 ⟨some k12, .mov (.v (.int .i64 (.lit 0))), none⟩]
def parser_checker_exprDepth_r3 : List POper := [⟨some k13, .bin .lss (.t k12) (.t k11), none⟩]
def parser_checker_exprDepth_r4 : List POper := [⟨some k14, .indexL 7 (.t k10) (.t k12), none⟩,
 ⟨some k15, .load true 7 (.t k14), none⟩,
 ⟨some k7, .new [(.int .i64 (.lit 0)), (.str 0 0), (.int .i64 (.lit 0)), .nils, .nils, .nils, (.int .i64 (.lit 0))], none⟩,
 ⟨none, .store 7 (.t k7) (.t k15), none⟩]
def parser_checker_exprDepth_r5 : List POper := [⟨some k16, .mov (.t k5), none⟩,
 ⟨some k17, .mov (.t k0), none⟩,
 ⟨some k18, .load true 7 (.t k7), none⟩,
 ⟨some k19, .callF n_parser_checker_exprDepth [(.t k17), (.t k18)], none⟩,
 ⟨some k20, .mx true (.t k16) (.t k19), none⟩,
 ⟨some k5, .mov (.t k20), none⟩]
def parser_checker_exprDepth_r6 : List POper := [⟨some k21, .bin .add (.t k12) (.v (.int .i64 (.lit 1))), none⟩,
 ⟨some k12, .mov (.t k21), none⟩]
def parser_checker_exprDepth_l0 : PCode := (.seq (.ops parser_checker_exprDepth_r3)
 (.seq (.cond (.t k13)
 .skip
 (.exit 0))
 (.seq (.block 1 (.seq (.ops parser_checker_exprDepth_r4)
 (.ops parser_checker_exprDepth_r5)))
 (.ops parser_checker_exprDepth_r6))))
def parser_checker_exprDepth_r7 : List POper := [⟨some k22, .fieldA 5 (.t k3), none⟩,
 ⟨some k23, .load false 1 (.t k22), none⟩,
 ⟨some k24, .lenL (.t k23), none⟩,
 ⟨some k8, .mov (.t k24), none⟩]
def parser_checker_exprDepth_r8 : List POper := [⟨some k25, .mov (.t k0), none⟩,
 ⟨some k26, .fieldA 0 (.t k3), none⟩,
 ⟨some k27, .load false 1 (.t k26), none⟩,
 ⟨some k28, .bin .eql (.t k27) (.v (.int .i64 (.lit 8))), none⟩,
 ⟨some k29, .mov (.t k28), none⟩,
 ⟨some k30, .fieldA 3 (.t k3), some (k29, false)⟩,
 ⟨some k31, .load false 1 (.t k30), some (k29, false)⟩,
 ⟨some k32, .lenL (.t k31), some (k29, false)⟩,
 ⟨some k33, .bin .eql (.t k32) (.v (.int .i64 (.lit 0))), some (k29, false)⟩,
 ⟨some k34, .mov (.t k33), some (k29, false)⟩,
 ⟨some k35, .fieldA 4 (.t k3), some (k34, true)⟩,
 ⟨some k36, .load false 1 (.t k35), some (k34, true)⟩,
 ⟨some k37, .lenL (.t k36), some (k34, true)⟩,
 ⟨some k38, .bin .eql (.t k37) (.v (.int .i64 (.lit 0))), some (k34, true)⟩,
 ⟨some k39, .pick (.t k34) (.t k38) (.v (.bool false)), some (k29, false)⟩,
 ⟨some k40, .pick (.t k29) (.v (.bool true)) (.t k39), none⟩,
 ⟨some k41, .callF n_parser_checker_need [(.t k25), (.t k40)], none⟩]
def parser_checker_exprDepth_r9 : List POper := [⟨some k42, .mov (.t k0), none⟩,
 ⟨some k43, .fieldA 0 (.t k3), none⟩,
 ⟨some k44, .load false 1 (.t k43), none⟩,
 ⟨some k45, .bin .eql (.t k44) (.v (.int .i64 (.lit 0))), none⟩,
 ⟨some k46, .mov (.t k45), none⟩,
 ⟨some k47, .fieldA 0 (.t k3), some (k46, false)⟩,
 ⟨some k48, .load false 1 (.t k47), some (k46, false)⟩,
 ⟨some k49, .bin .eql (.t k48) (.v (.int .i64 (.lit 1))), some (k46, false)⟩,
 ⟨some k50, .pick (.t k46) (.v (.bool true)) (.t k49), none⟩,
 ⟨some k51, .mov (.t k50), none⟩,
 ⟨some k52, .fieldA 2 (.t k3), some (k51, false)⟩,
 ⟨some k53, .load false 1 (.t k52), some (k51, false)⟩,
 ⟨some k54, .bin .eql (.t k53) (.v (.int .i64 (.lit 0))), some (k51, false)⟩,
 ⟨some k55, .pick (.t k51) (.v (.bool true)) (.t k54), none⟩,
 ⟨some k56, .callF n_parser_checker_need [(.t k42), (.t k55)], none⟩]
def parser_checker_exprDepth_r10 : List POper := [⟨some k57, .fieldA 0 (.t k3), none⟩,
 ⟨some k58, .load false 1 (.t k57), none⟩]
def parser_checker_exprDepth_r11 : List POper := [⟨some k62, .bin .eql (.t k58) (.v (.int .i64 (.lit 0))), none⟩,
 ⟨some k61, .mov (.t k62), none⟩]
def parser_checker_exprDepth_r12 : List POper := [⟨some k63, .mov (.t k0), none⟩,
 ⟨some k64, .fieldA 1 (.t k3), none⟩,
 ⟨some k65, .load false 1 (.t k64), none⟩,
 ⟨some k66, .bin .eql (.t k65) (.v (.str 0 0)), none⟩,
 ⟨some k67, .mov (.t k66), none⟩,
 ⟨some k68, .mov (.t k8), some (k67, true)⟩,
 ⟨some k69, .bin .eql (.t k68) (.v (.int .i64 (.lit 0))), some (k67, true)⟩,
 ⟨some k70, .pick (.t k67) (.t k69) (.v (.bool false)), none⟩,
 ⟨some k71, .callF n_parser_checker_need [(.t k63), (.t k70)], none⟩]
def parser_checker_exprDepth_r13 : List POper := [⟨some k72, .mov (.t k0), none⟩,
 ⟨some k73, .fieldA 2 (.t k3), none⟩,
 ⟨some k74, .load false 1 (.t k73), none⟩,
 ⟨some k75, .callF n_parser_checker_between [(.t k72), (.t k74), (.v (.int .i64 (.lit (-1099511627776)))), (.v (.int .i64 (.lit 1099511627776)))], none⟩]
def parser_checker_exprDepth_r14 : List POper := [⟨some k77, .bin .eql (.t k58) (.v (.int .i64 (.lit 1))), none⟩,
 ⟨some k76, .mov (.t k77), none⟩]
def parser_checker_exprDepth_r15 : List POper := [⟨some k78, .mov (.t k0), none⟩,
 ⟨some k79, .fieldA 1 (.t k3), none⟩,
 ⟨some k80, .load false 1 (.t k79), none⟩,
 ⟨some k81, .bin .eql (.t k80) (.v (.str 0 0)), none⟩,
 ⟨some k82, .mov (.t k81), none⟩,
 ⟨some k83, .mov (.t k8), some (k82, true)⟩,
 ⟨some k84, .bin .eql (.t k83) (.v (.int .i64 (.lit 0))), some (k82, true)⟩,
 ⟨some k85, .pick (.t k82) (.t k84) (.v (.bool false)), none⟩,
 ⟨some k86, .mov (.t k85), none⟩,
 ⟨some k87, .fieldA 2 (.t k3), some (k86, true)⟩,
 ⟨some k88, .load false 1 (.t k87), some (k86, true)⟩,
 ⟨some k89, .bin .eql (.t k88) (.v (.int .i64 (.lit 0))), some (k86, true)⟩,
 ⟨some k90, .mov (.t k89), some (k86, true)⟩,
 ⟨some k91, .fieldA 2 (.t k3), some (k90, false)⟩,
 ⟨some k92, .load false 1 (.t k91), some (k90, false)⟩,
 ⟨some k93, .bin .eql (.t k92) (.v (.int .i64 (.lit 1))), some (k90, false)⟩,
 ⟨some k94, .pick (.t k90) (.v (.bool true)) (.t k93), some (k86, true)⟩,
 ⟨some k95, .pick (.t k86) (.t k94) (.v (.bool false)), none⟩,
 ⟨some k96, .callF n_parser_checker_need [(.t k78), (.t k95)], none⟩]
def parser_checker_exprDepth_r16 : List POper := [⟨some k98, .bin .eql (.t k58) (.v (.int .i64 (.lit 2))), none⟩,
 ⟨some k97, .mov (.t k98), none⟩]
def parser_checker_exprDepth_r17 : List POper := [⟨some k99, .mov (.t k0), none⟩,
 ⟨some k100, .mov (.t k8), none⟩,
 ⟨some k101, .bin .eql (.t k100) (.v (.int .i64 (.lit 0))), none⟩,
 ⟨some k102, .callF n_parser_checker_need [(.t k99), (.t k101)], none⟩]
def parser_checker_exprDepth_r18 : List POper := [⟨some k103, .mov (.t k0), none⟩,
 ⟨some k104, .fieldA 1 (.t k3), none⟩,
 ⟨some k105, .load false 1 (.t k104), none⟩,
 ⟨some k106, .callF n_parser_checker_word [(.t k103), (.t k105)], none⟩]
def parser_checker_exprDepth_r19 : List POper := [⟨some k108, .bin .eql (.t k58) (.v (.int .i64 (.lit 3))), none⟩,
 ⟨some k107, .mov (.t k108), none⟩]
def parser_checker_exprDepth_r20 : List POper := [⟨some k109, .mov (.t k0), none⟩,
 ⟨some k110, .mov (.t k8), none⟩,
 ⟨some k111, .callF n_parser_checker_most [(.t k109), (.t k110), (.v (.int .i64 (.lit 16)))], none⟩]
def parser_checker_exprDepth_r21 : List POper := [⟨some k112, .mov (.t k0), none⟩,
 ⟨some k113, .fieldA 1 (.t k3), none⟩,
 ⟨some k114, .load false 1 (.t k113), none⟩,
 ⟨some k115, .callF n_parser_checker_word [(.t k112), (.t k114)], none⟩]
def parser_checker_exprDepth_r22 : List POper := [⟨some k117, .bin .eql (.t k58) (.v (.int .i64 (.lit 4))), none⟩,
 ⟨some k116, .mov (.t k117), none⟩]
def parser_checker_exprDepth_r23 : List POper := [⟨some k118, .mov (.t k0), none⟩,
 ⟨some k119, .mov (.t k8), none⟩,
 ⟨some k120, .callF n_parser_checker_most [(.t k118), (.t k119), (.v (.int .i64 (.lit 16)))], none⟩]
def parser_checker_exprDepth_r24 : List POper := [⟨some k121, .mov (.t k0), none⟩,
 ⟨some k122, .fieldA 1 (.t k3), none⟩,
 ⟨some k123, .load false 1 (.t k122), none⟩,
 ⟨some k124, .callF 179 [(.t k121), (.t k123)], none⟩]
def parser_checker_exprDepth_r25 : List POper := [⟨some k126, .bin .eql (.t k58) (.v (.int .i64 (.lit 5))), none⟩,
 ⟨some k125, .mov (.t k126), none⟩]
def parser_checker_exprDepth_r26 : List POper := [⟨some k127, .mov (.t k0), none⟩,
 ⟨some k128, .mov (.t k8), none⟩,
 ⟨some k129, .callF n_parser_checker_most [(.t k127), (.t k128), (.v (.int .i64 (.lit 256)))], none⟩]
def parser_checker_exprDepth_r27 : List POper := [⟨some k130, .mov (.t k0), none⟩,
 ⟨some k131, .fieldA 1 (.t k3), none⟩,
 ⟨some k132, .load false 1 (.t k131), none⟩,
 ⟨some k133, .bin .eql (.t k132) (.v (.str 0 0)), none⟩,
 ⟨some k134, .callF n_parser_checker_need [(.t k130), (.t k133)], none⟩]
def parser_checker_exprDepth_r28 : List POper := [⟨some k136, .bin .eql (.t k58) (.v (.int .i64 (.lit 6))), none⟩,
 ⟨some k135, .mov (.t k136), none⟩]
def parser_checker_exprDepth_r29 : List POper := [⟨some k137, .mov (.t k0), none⟩,
 ⟨some k138, .fieldA 1 (.t k3), none⟩,
 ⟨some k139, .load false 1 (.t k138), none⟩,
 ⟨some k140, .bin .eql (.t k139) (.v (.str 0 0)), none⟩,
 ⟨some k141, .mov (.t k140), none⟩,
 ⟨some k142, .mov (.t k8), some (k141, true)⟩,
 ⟨some k143, .bin .eql (.t k142) (.v (.int .i64 (.lit 3))), some (k141, true)⟩,
 ⟨some k144, .pick (.t k141) (.t k143) (.v (.bool false)), none⟩,
 ⟨some k145, .callF n_parser_checker_need [(.t k137), (.t k144)], none⟩]
def parser_checker_exprDepth_r30 : List POper := [⟨some k147, .bin .eql (.t k58) (.v (.int .i64 (.lit 7))), none⟩,
 ⟨some k146, .mov (.t k147), none⟩]
def parser_checker_exprDepth_r31 : List POper := [⟨some k148, .mov (.t k0), none⟩,
 ⟨some k149, .mov (.t k8), none⟩,
 ⟨some k150, .bin .eql (.t k149) (.v (.int .i64 (.lit 2))), none⟩,
 ⟨some k151, .callF n_parser_checker_need [(.t k148), (.t k150)], none⟩]
def parser_checker_exprDepth_r32 : List POper := [⟨some k152, .mov (.t k0), none⟩,
 ⟨some k153, .fieldA 1 (.t k3), none⟩,
 ⟨some k154, .load false 1 (.t k153), none⟩,
 ⟨some k155, .callF n_parser_checker_word [(.t k152), (.t k154)], none⟩]
def parser_checker_exprDepth_r33 : List POper := [⟨some k157, .bin .eql (.t k58) (.v (.int .i64 (.lit 8))), none⟩,
 ⟨some k156, .mov (.t k157), none⟩]
def parser_checker_exprDepth_r34 : List POper := [⟨some k158, .mov (.t k0), none⟩,
 ⟨some k159, .load true 7 (.t k3), none⟩,
 ⟨some k160, .callF 180 [(.t k158), (.t k159)], none⟩]
def parser_checker_exprDepth_r35 : List POper := [⟨some k162, .bin .eql (.t k58) (.v (.int .i64 (.lit 9))), none⟩,
 ⟨some k161, .mov (.t k162), none⟩]
def parser_checker_exprDepth_r36 : List POper := [⟨some k163, .mov (.t k0), none⟩,
 ⟨some k164, .fieldA 1 (.t k3), none⟩,
 ⟨some k165, .load false 1 (.t k164), none⟩,
 ⟨some k166, .callF n_parser_rank [(.t k165)], none⟩,
 ⟨some k167, .bin .eql (.t k166) (.v (.int .i64 (.lit 3))), none⟩,
 ⟨some k168, .mov (.t k167), none⟩,
 ⟨some k169, .mov (.t k8), some (k168, true)⟩,
 ⟨some k170, .bin .eql (.t k169) (.v (.int .i64 (.lit 1))), some (k168, true)⟩,
 ⟨some k171, .pick (.t k168) (.t k170) (.v (.bool false)), none⟩,
 ⟨some k172, .mov (.t k171), none⟩,
 ⟨some k173, .fieldA 1 (.t k3), some (k172, false)⟩,
 ⟨some k174, .load false 1 (.t k173), some (k172, false)⟩,
 ⟨some k175, .callF n_parser_rank [(.t k174)], some (k172, false)⟩,
 ⟨some k176, .bin .gtr (.t k175) (.v (.int .i64 (.lit 0))), some (k172, false)⟩,
 ⟨some k177, .mov (.t k176), some (k172, false)⟩,
 ⟨some k178, .fieldA 1 (.t k3), some (k177, true)⟩,
 ⟨some k179, .load false 1 (.t k178), some (k177, true)⟩,
 ⟨some k180, .callF n_parser_rank [(.t k179)], some (k177, true)⟩,
 ⟨some k181, .bin .neq (.t k180) (.v (.int .i64 (.lit 3))), some (k177, true)⟩,
 ⟨some k182, .pick (.t k177) (.t k181) (.v (.bool false)), some (k172, false)⟩,
 ⟨some k183, .mov (.t k182), some (k172, false)⟩,
 ⟨some k184, .mov (.t k8), some (k183, true)⟩,
 ⟨some k185, .bin .eql (.t k184) (.v (.int .i64 (.lit 2))), some (k183, true)⟩,
 ⟨some k186, .pick (.t k183) (.t k185) (.v (.bool false)), some (k172, false)⟩,
 ⟨some k187, .pick (.t k172) (.v (.bool true)) (.t k186), none⟩,
 ⟨some k188, .callF n_parser_checker_need [(.t k163), (.t k187)], none⟩]
def parser_checker_exprDepth_r37 : List POper := [⟨some k59, .mov (.t k0), none⟩,
 ⟨some k60, .callF n_parser_checker_need [(.t k59), (.v (.bool false))], none⟩]
def parser_checker_exprDepth_r38 : List POper := [⟨some k189, .mov (.t k5), none⟩,
 ⟨some k190, .bin .add (.t k189) (.v (.int .i64 (.lit 1))), none⟩,
 ⟨some k4, .mov (.t k190), none⟩]
def parser_checker_exprDepth : PFn := ⟨(.seq (.ops parser_checker_exprDepth_r0)
 (.seq (.ops parser_checker_exprDepth_r1)
 (.seq (.seq (.ops parser_checker_exprDepth_r2)
 (.block 0 (.loop parser_checker_exprDepth_l0)))
 (.seq (.ops parser_checker_exprDepth_r7)
 (.seq (.ops parser_checker_exprDepth_r8)
 (.seq (.ops parser_checker_exprDepth_r9)
 (.seq (.seq (.ops parser_checker_exprDepth_r10)
 (.block 2 (.seq (.ops parser_checker_exprDepth_r11)
 (.cond (.t k61)
 (.seq (.ops parser_checker_exprDepth_r12)
 (.ops parser_checker_exprDepth_r13))
 (.seq (.ops parser_checker_exprDepth_r14)
 (.cond (.t k76)
 (.ops parser_checker_exprDepth_r15)
 (.seq (.ops parser_checker_exprDepth_r16)
 (.cond (.t k97)
 (.seq (.ops parser_checker_exprDepth_r17)
 (.ops parser_checker_exprDepth_r18))
 (.seq (.ops parser_checker_exprDepth_r19)
 (.cond (.t k107)
 (.seq (.ops parser_checker_exprDepth_r20)
 (.ops parser_checker_exprDepth_r21))
 (.seq (.ops parser_checker_exprDepth_r22)
 (.cond (.t k116)
 (.seq (.ops parser_checker_exprDepth_r23)
 (.ops parser_checker_exprDepth_r24))
 (.seq (.ops parser_checker_exprDepth_r25)
 (.cond (.t k125)
 (.seq (.ops parser_checker_exprDepth_r26)
 (.ops parser_checker_exprDepth_r27))
 (.seq (.ops parser_checker_exprDepth_r28)
 (.cond (.t k135)
 (.ops parser_checker_exprDepth_r29)
 (.seq (.ops parser_checker_exprDepth_r30)
 (.cond (.t k146)
 (.seq (.ops parser_checker_exprDepth_r31)
 (.ops parser_checker_exprDepth_r32))
 (.seq (.ops parser_checker_exprDepth_r33)
 (.cond (.t k156)
 (.ops parser_checker_exprDepth_r34)
 (.seq (.ops parser_checker_exprDepth_r35)
 (.cond (.t k161)
 (.ops parser_checker_exprDepth_r36)
 (.ops parser_checker_exprDepth_r37)))))))))))))))))))))))
 (.seq (.ops parser_checker_exprDepth_r38)
 .ret)))))))),
 [.tmp k4]⟩
def eval_builtins_r0 : List POper := [⟨some k0, .mov (.v .nilm), none⟩]
def eval_builtins_r1 : List POper := [⟨some k1, .mkmap, none⟩,
 ⟨some k2, .build [(.int .i64 (.lit 0)), .nilf] [(0, 1, (.v (.int .i64 (.lit 1)))), (1, 1, (.v (.fn n_eval_builtins_c1 [] [])))], none⟩,
 ⟨none, .mapupd true (.t k1) (.v (.str 4 1702521203)) (.t k2), none⟩,
 ⟨some k3, .build [(.int .i64 (.lit 0)), .nilf] [(0, 1, (.v (.int .i64 (.lit 2)))), (1, 1, (.v (.fn n_eval_at [] [])))], none⟩,
 ⟨none, .mapupd true (.t k1) (.v (.str 2 29793)) (.t k3), none⟩,
 ⟨some k4, .build [(.int .i64 (.lit 0)), .nilf] [(0, 1, (.v (.int .i64 (.lit 2)))), (1, 1, (.v (.fn n_eval_builtins_c2 [] [])))], none⟩,
 ⟨none, .mapupd true (.t k1) (.v (.str 4 1752397168)) (.t k4), none⟩,
 ⟨some k5, .build [(.int .i64 (.lit 0)), .nilf] [(0, 1, (.v (.int .i64 (.lit 2)))), (1, 1, (.v (.fn n_eval_builtins_c3 [] [])))], none⟩,
 ⟨none, .mapupd true (.t k1) (.v (.str 4 1701536116)) (.t k5), none⟩,
 ⟨some k6, .build [(.int .i64 (.lit 0)), .nilf] [(0, 1, (.v (.int .i64 (.lit 2)))), (1, 1, (.v (.fn n_eval_builtins_c4 [] [])))], none⟩,
 ⟨none, .mapupd true (.t k1) (.v (.str 4 1886351972)) (.t k6), none⟩,
 ⟨some k7, .build [(.int .i64 (.lit 0)), .nilf] [(0, 1, (.v (.int .i64 (.lit 3)))), (1, 1, (.v (.fn n_eval_set [] [])))], none⟩,
 ⟨none, .mapupd true (.t k1) (.v (.str 3 7628147)) (.t k7), none⟩,
 ⟨some k8, .build [(.int .i64 (.lit 0)), .nilf] [(0, 1, (.v (.int .i64 (.lit 2)))), (1, 1, (.v (.fn n_eval_builtins_c5 [] [])))], none⟩,
 ⟨none, .mapupd true (.t k1) (.v (.str 3 7889261)) (.t k8), none⟩,
 ⟨some k9, .build [(.int .i64 (.lit 0)), .nilf] [(0, 1, (.v (.int .i64 (.lit 2)))), (1, 1, (.v (.fn n_eval_builtins_c6 [] [])))], none⟩,
 ⟨none, .mapupd true (.t k1) (.v (.str 3 7235949)) (.t k9), none⟩,
 ⟨some k10, .build [(.int .i64 (.lit 0)), .nilf] [(0, 1, (.v (.int .i64 (.lit 1)))), (1, 1, (.v (.fn n_eval_flip [] [])))], none⟩,
 ⟨none, .mapupd true (.t k1) (.v (.str 4 1885957222)) (.t k10), none⟩,
 ⟨some k11, .mov (.t k1), none⟩,
 ⟨some k0, .mov (.t k11), none⟩]
def eval_builtins : PFn := ⟨(.seq (.ops eval_builtins_r0)
 (.seq (.ops eval_builtins_r1)
 .ret)),
 [.tmp k0]⟩
def eval_run_result_c1_r0 : List POper := [⟨some k8, .recover, none⟩,
 ⟨some k5, .mov (.t k8), none⟩]
def eval_run_result_c1_r1 : List POper := [⟨some k9, .mov (.t k5), none⟩,
 ⟨some k10, .eq true .iface (.t k9) (.v .nili), none⟩]
def eval_run_result_c1_r2 : List POper := [⟨some k12, .mov (.t k5), none⟩,
 ⟨some k13, .assert ty_eval_stop (.agg [(.int .i64 (.lit 0))]) true (.t k12), none⟩,
 ⟨some k11, .mov (.t k13), none⟩,
 ⟨some k14, .extract (.t k11) 0, none⟩,
 ⟨some k15, .extract (.t k11) 1, none⟩,
 ⟨some k6, .new [(.int .i64 (.lit 0))], none⟩,
 ⟨none, .store 1 (.t k6) (.t k14), none⟩,
 ⟨some k7, .mov (.t k15), none⟩]
def eval_run_result_c1_r3 : List POper := [⟨some k16, .mov (.t k7), none⟩,
 ⟨some k17, .un .not (.t k16), none⟩]
def eval_run_result_c1_r4 : List POper := [⟨some k18, .mov (.t k5), none⟩,
 ⟨none, .panic (.t k18), none⟩]
def eval_run_result_c1_r5 : List SItem := [.L 0 ⟨some k19, .build [(.int .i64 (.lit 0)), (.int .i64 (.lit 0)), (.str 0 0), .nils] [], none⟩,
 .L 1 ⟨some k20, .load false 1 (.t k0), none⟩,
 .L 2 ⟨some k21, .nilc (.t k20), none⟩,
 .L 3 ⟨some k22, .fieldA 7 (.t k21), none⟩,
 .L 4 ⟨some k23, .load true 3 (.t k22), none⟩,
 .L 5 ⟨some k24, .load false 1 (.t k0), none⟩,
 .L 6 ⟨some k25, .nilc (.t k24), none⟩,
 .L 7 ⟨some k26, .fieldA 11 (.t k25), none⟩,
 .L 8 ⟨some k27, .load false 1 (.t k26), none⟩,
 .L 9 ⟨some k28, .fieldA 0 (.t k6), none⟩,
 .L 10 ⟨some k29, .load false 1 (.t k28), none⟩,
 .H 11 ⟨none, .store 4 (.t k1) (.t k19), none⟩ [],
 .R [(10, ⟨some k29, .load false 1 (.t k28), none⟩)],
 .H 12 ⟨none, .store 3 (.t k2) (.t k23), none⟩ [],
 .R [(10, ⟨some k29, .load false 1 (.t k28), none⟩)],
 .H 13 ⟨none, .store 1 (.t k3) (.t k27), none⟩ [],
 .R [(10, ⟨some k29, .load false 1 (.t k28), none⟩)],
 .H 14 ⟨none, .store 1 (.t k4) (.t k29), none⟩ [],
 .R []]
def eval_run_result_c1 : PFn := ⟨(.seq (.ops eval_run_result_c1_r0)
 (.seq (.ops eval_run_result_c1_r1)
 (.cond (.t k10)
 (.seq (.ops eval_run_result_c1_r2)
 (.seq (.seq (.ops eval_run_result_c1_r3)
 (.cond (.t k17)
 (.ops eval_run_result_c1_r4)
 .skip))
 (.staged eval_run_result_c1_r5 ⟨[k19, k20, k21, k22, k23, k24, k25, k26, k27, k28, k29], []⟩)))
 .skip))),
 []⟩
def clone_Value_r0 : List POper := [⟨some k1, .box (.t k0), none⟩,
 ⟨some k2, .new [(.int .i64 (.lit 0)), (.int .i64 (.lit 0)), (.str 0 0), .nils], none⟩]
def clone_Value_r1 : List POper := [⟨some k3, .fieldA 3 (.t k1), none⟩,
 ⟨some k4, .load false 1 (.t k3), none⟩,
 ⟨some k5, .callF n_clone_List_Value [(.t k4), (.v (.fn n_clone_Value [] []))], none⟩,
 ⟨some k6, .fieldA 3 (.t k1), none⟩,
 ⟨none, .store 1 (.t k6) (.t k5), none⟩]
def clone_Value_r2 : List POper := [⟨some k7, .load true 4 (.t k1), none⟩,
 ⟨none, .store 4 (.t k2) (.t k7), none⟩]
def clone_Value : PFn := ⟨(.seq (.ops clone_Value_r0)
 (.seq (.ops clone_Value_r1)
 (.seq (.ops clone_Value_r2)
 .ret))),
 [.cell k2 true 4]⟩
def eval_end_r0 : List POper := [⟨some k2, .mov (.t k0), none⟩,
 ⟨some k3, .build [(.int .i64 (.lit 0))] [(0, 1, (.t k2))], none⟩,
 ⟨some k4, .mkif ty_eval_stop (.t k3), none⟩,
 ⟨none, .panic (.t k4), none⟩]
def eval_end : PFn := ⟨(.ops eval_end_r0),
 []⟩
def eval_run_value_r0 : List POper := [⟨some k8, .new [(.int .i64 (.lit 0)), (.int .i64 (.lit 0)), (.str 0 0), .nils, (.int .i64 (.lit 0))], none⟩]
def eval_run_value_r1 : List POper := [⟨some k12, .mov (.t k3), none⟩,
 ⟨some k13, .nilc (.t k12), none⟩,
 ⟨some k14, .fieldA 0 (.t k13), none⟩,
 ⟨some k15, .load false 1 (.t k14), none⟩]
def eval_run_value_r2 : List POper := [⟨some k17, .bin .eql (.t k15) (.v (.int .i64 (.lit 0))), none⟩,
 ⟨some k16, .mov (.t k17), none⟩]
def eval_run_value_r3 : List POper := [⟨some k18, .mov (.t k3), none⟩,
 ⟨some k19, .nilc (.t k18), none⟩,
 ⟨some k20, .fieldA 2 (.t k19), none⟩,
 ⟨some k21, .load false 1 (.t k20), none⟩,
 ⟨some k22, .callF n_eval_number [(.t k21)], none⟩,
 ⟨none, .store 5 (.t k8) (.t k22), none⟩]
def eval_run_value_r4 : List POper := [⟨some k24, .bin .eql (.t k15) (.v (.int .i64 (.lit 1))), none⟩,
 ⟨some k23, .mov (.t k24), none⟩]
def eval_run_value_r5 : List POper := [⟨some k25, .mov (.t k3), none⟩,
 ⟨some k26, .nilc (.t k25), none⟩,
 ⟨some k27, .fieldA 2 (.t k26), none⟩,
 ⟨some k28, .load false 1 (.t k27), none⟩,
 ⟨some k29, .bin .eql (.t k28) (.v (.int .i64 (.lit 0))), none⟩,
 ⟨some k30, .mov (.t k29), none⟩,
 ⟨some k31, .mov (.t k3), some (k30, false)⟩,
 ⟨some k32, .nilc (.t k31), some (k30, false)⟩,
 ⟨some k33, .fieldA 2 (.t k32), some (k30, false)⟩,
 ⟨some k34, .load false 1 (.t k33), some (k30, false)⟩,
 ⟨some k35, .bin .eql (.t k34) (.v (.int .i64 (.lit 1))), some (k30, false)⟩,
 ⟨some k36, .pick (.t k30) (.v (.bool true)) (.t k35), none⟩,
 ⟨some k37, .callF n_eval_need [(.t k36)], none⟩]
def eval_run_value_r6 : List POper := [⟨some k38, .mov (.t k3), none⟩,
 ⟨some k39, .nilc (.t k38), none⟩,
 ⟨some k40, .fieldA 2 (.t k39), none⟩,
 ⟨some k41, .load false 1 (.t k40), none⟩,
 ⟨some k42, .bin .eql (.t k41) (.v (.int .i64 (.lit 1))), none⟩,
 ⟨some k43, .callF n_eval_truth [(.t k42)], none⟩,
 ⟨none, .store 5 (.t k8) (.t k43), none⟩]
def eval_run_value_r7 : List POper := [⟨some k45, .bin .eql (.t k15) (.v (.int .i64 (.lit 2))), none⟩,
 ⟨some k44, .mov (.t k45), none⟩]
def eval_run_value_r8 : List POper := [⟨some k46, .mov (.t k2), none⟩,
 ⟨some k47, .eq true .ptr (.t k46) (.v .nilp), none⟩]
def eval_run_value_r9 : List SItem := [.L 0 ⟨some k52, .mov (.t k2), none⟩,
 .L 1 ⟨some k53, .nilc (.t k52), none⟩,
 .L 2 ⟨some k54, .fieldA 0 (.t k53), none⟩,
 .L 3 ⟨some k55, .load false 1 (.t k54), none⟩,
 .L 4 ⟨some k56, .mov (.t k3), none⟩,
 .L 5 ⟨some k57, .nilc (.t k56), none⟩,
 .L 6 ⟨some k58, .fieldA 1 (.t k57), none⟩,
 .L 7 ⟨some k59, .load false 1 (.t k58), none⟩,
 .L 8 ⟨some k60, .bin .eql (.t k55) (.t k59), none⟩]
def eval_run_value_r10 : List POper := [⟨some k61, .mov (.t k2), none⟩,
 ⟨some k62, .nilc (.t k61), none⟩,
 ⟨some k63, .fieldA 1 (.t k62), none⟩,
 ⟨some k64, .load true 5 (.t k63), none⟩,
 ⟨none, .store 5 (.t k8) (.t k64), none⟩]
def eval_run_value_r11 : List POper := [⟨some k48, .mov (.t k2), none⟩,
 ⟨some k49, .nilc (.t k48), none⟩,
 ⟨some k50, .fieldA 6 (.t k49), none⟩,
 ⟨some k51, .load false 1 (.t k50), none⟩,
 ⟨some k2, .mov (.t k51), none⟩]
def eval_run_value_l0 : PCode := (.seq (.seq (.ops eval_run_value_r8)
 (.cond (.t k47)
 .skip
 (.exit 1)))
 (.seq (.block 2 (.seq (.staged eval_run_value_r9 ⟨[k52, k53, k54, k55, k56, k57, k58, k59, k60], []⟩)
 (.cond (.t k60)
 (.seq (.ops eval_run_value_r10)
 .ret)
 .skip)))
 (.ops eval_run_value_r11)))
def eval_run_value_r12 : List POper := [⟨some k65, .callF n_eval_end [(.v (.int .i64 (.lit 6)))], none⟩]
def eval_run_value_r13 : List POper := [⟨some k67, .bin .eql (.t k15) (.v (.int .i64 (.lit 3))), none⟩,
 ⟨some k66, .mov (.t k67), none⟩]
def eval_run_value_r14 : List POper := [⟨some k68, .mov (.t k0), none⟩,
 ⟨some k69, .mov (.t k1), none⟩,
 ⟨some k70, .mov (.t k2), none⟩,
 ⟨some k71, .mov (.t k3), none⟩,
 ⟨some k72, .callF n_eval_run_apply [(.t k68), (.t k69), (.t k70), (.t k71)], none⟩,
 ⟨none, .store 5 (.t k8) (.t k72), none⟩]
def eval_run_value_r15 : List POper := [⟨some k74, .bin .eql (.t k15) (.v (.int .i64 (.lit 4))), none⟩,
 ⟨some k73, .mov (.t k74), none⟩]
def eval_run_value_r16 : List SItem := [.L 0 ⟨some k76, .mov (.t k0), none⟩,
 .L 1 ⟨some k77, .nilc (.t k76), none⟩,
 .L 2 ⟨some k78, .fieldA 1 (.t k77), none⟩,
 .L 3 ⟨some k79, .load false 1 (.t k78), none⟩,
 .L 4 ⟨some k80, .mov (.t k3), none⟩,
 .L 5 ⟨some k81, .nilc (.t k80), none⟩,
 .L 6 ⟨some k82, .fieldA 1 (.t k81), none⟩,
 .L 7 ⟨some k83, .load false 1 (.t k82), none⟩,
 .L 8 ⟨some k84, .lookup true (.int .i64 (.lit 0)) true (.t k79) (.t k83), none⟩,
 .L 9 ⟨some k75, .mov (.t k84), none⟩,
 .L 10 ⟨some k85, .extract (.t k75) 0, none⟩,
 .L 11 ⟨some k86, .extract (.t k75) 1, none⟩,
 .L 12 ⟨some k9, .mov (.t k85), none⟩,
 .L 13 ⟨some k10, .mov (.t k86), none⟩]
def eval_run_value_r17 : List POper := [⟨some k87, .mov (.t k10), none⟩,
 ⟨some k88, .un .not (.t k87), none⟩]
def eval_run_value_r18 : List POper := [⟨some k89, .callF n_eval_end [(.v (.int .i64 (.lit 6)))], none⟩]
def eval_run_value_r19 : List POper := [⟨some k90, .mov (.t k3), none⟩,
 ⟨some k91, .nilc (.t k90), none⟩,
 ⟨some k92, .fieldA 5 (.t k91), none⟩,
 ⟨some k93, .load false 1 (.t k92), none⟩,
 ⟨some k94, .lenL (.t k93), none⟩,
 ⟨some k95, .mov (.t k9), none⟩,
 ⟨some k96, .bin .eql (.t k94) (.t k95), none⟩,
 ⟨some k97, .callF n_eval_need [(.t k96)], none⟩]
def eval_run_value_r20 : List SItem := [.L 0 ⟨some k98, .mov (.t k3), none⟩,
 .L 1 ⟨some k99, .nilc (.t k98), none⟩,
 .L 2 ⟨some k100, .fieldA 1 (.t k99), none⟩,
 .L 3 ⟨some k101, .load false 1 (.t k100), none⟩,
 .L 4 ⟨some k102, .build [(.int .i64 (.lit 0)), (.int .i64 (.lit 0)), (.str 0 0), .nils] [(0, 1, (.v (.int .i64 (.lit 3)))), (2, 1, (.t k101))], none⟩,
 .L 5 ⟨some k103, .mov (.t k0), none⟩,
 .L 6 ⟨some k104, .mov (.t k1), none⟩,
 .L 7 ⟨some k105, .mov (.t k2), none⟩,
 .L 8 ⟨some k106, .mov (.t k3), none⟩,
 .L 9 ⟨some k107, .nilc (.t k106), none⟩,
 .L 10 ⟨some k108, .fieldA 5 (.t k107), none⟩,
 .L 11 ⟨some k109, .load false 1 (.t k108), none⟩,
 .H 12 ⟨some k110, .callF n_eval_run_all [(.t k103), (.t k104), (.t k105), (.t k109)], none⟩ [],
 .R [(3, ⟨some k101, .load false 1 (.t k100), none⟩)],
 .H 13 ⟨some k111, .callF n_eval_joined [(.t k102), (.t k110)], none⟩ [],
 .R [],
 .H 14 ⟨none, .store 5 (.t k8) (.t k111), none⟩ [],
 .R []]
def eval_run_value_r21 : List POper := [⟨some k113, .bin .eql (.t k15) (.v (.int .i64 (.lit 5))), none⟩,
 ⟨some k112, .mov (.t k113), none⟩]
def eval_run_value_r22 : List POper := [⟨some k114, .build [(.int .i64 (.lit 0)), (.int .i64 (.lit 0)), (.str 0 0), .nils] [(0, 1, (.v (.int .i64 (.lit 2))))], none⟩,
 ⟨some k115, .mov (.t k0), none⟩,
 ⟨some k116, .mov (.t k1), none⟩,
 ⟨some k117, .mov (.t k2), none⟩,
 ⟨some k118, .mov (.t k3), none⟩,
 ⟨some k119, .nilc (.t k118), none⟩,
 ⟨some k120, .fieldA 5 (.t k119), none⟩,
 ⟨some k121, .load false 1 (.t k120), none⟩,
 ⟨some k122, .callF n_eval_run_all [(.t k115), (.t k116), (.t k117), (.t k121)], none⟩,
 ⟨some k123, .callF n_eval_joined [(.t k114), (.t k122)], none⟩,
 ⟨none, .store 5 (.t k8) (.t k123), none⟩]
def eval_run_value_r23 : List POper := [⟨some k125, .bin .eql (.t k15) (.v (.int .i64 (.lit 6))), none⟩,
 ⟨some k124, .mov (.t k125), none⟩]
def eval_run_value_r24 : List POper := [⟨some k126, .mov (.t k3), none⟩,
 ⟨some k127, .nilc (.t k126), none⟩,
 ⟨some k128, .fieldA 5 (.t k127), none⟩,
 ⟨some k129, .load false 1 (.t k128), none⟩,
 ⟨some k130, .lenL (.t k129), none⟩,
 ⟨some k131, .bin .eql (.t k130) (.v (.int .i64 (.lit 3))), none⟩,
 ⟨some k132, .callF n_eval_need [(.t k131)], none⟩]
def eval_run_value_r25 : List POper := [⟨some k11, .mov (.v (.int .i64 (.lit 1))), none⟩]
def eval_run_value_r26 : List POper := [⟨some k133, .mov (.t k0), none⟩,
 ⟨some k134, .mov (.t k1), none⟩,
 ⟨some k135, .mov (.t k2), none⟩,
 ⟨some k136, .mov (.t k3), none⟩,
 ⟨some k137, .nilc (.t k136), none⟩,
 ⟨some k138, .fieldA 5 (.t k137), none⟩,
 ⟨some k139, .load false 1 (.t k138), none⟩,
 ⟨some k140, .indexL 7 (.t k139) (.v (.int .i64 (.lit 0))), none⟩,
 ⟨some k141, .callF n_eval_run_truth [(.t k133), (.t k134), (.t k135), (.t k140)], none⟩]
def eval_run_value_r27 : List POper := [⟨some k11, .mov (.v (.int .i64 (.lit 0))), none⟩]
def eval_run_value_r28 : List SItem := [.L 0 ⟨some k142, .mov (.t k0), none⟩,
 .L 1 ⟨some k143, .mov (.t k0), none⟩,
 .L 2 ⟨some k144, .nilc (.t k143), none⟩,
 .L 3 ⟨some k145, .fieldA 11 (.t k144), none⟩,
 .L 4 ⟨some k146, .load false 1 (.t k145), none⟩,
 .L 5 ⟨some k147, .mov (.t k1), none⟩,
 .L 6 ⟨some k148, .mov (.t k3), none⟩,
 .L 7 ⟨some k149, .nilc (.t k148), none⟩,
 .L 8 ⟨some k150, .fieldA 6 (.t k149), none⟩,
 .L 9 ⟨some k151, .load false 1 (.t k150), none⟩,
 .L 10 ⟨some k152, .mov (.t k11), none⟩,
 .L 11 ⟨some k153, .build [(.str 0 0), (.int .i64 (.lit 0)), (.int .i64 (.lit 0))] [(0, 1, (.t k147)), (1, 1, (.t k151)), (2, 1, (.t k152))], none⟩,
 .A 12 ⟨some k154, .bslice 3 1 [(.str 0 0), (.int .i64 (.lit 0)), (.int .i64 (.lit 0))] [(0, 3, (.t k153))], none⟩,
 .H 13 ⟨some k155, .append 3 (.t k146) (.t k154), none⟩ [12],
 .R [],
 .L 14 ⟨some k156, .nilc (.t k142), none⟩,
 .L 15 ⟨some k157, .fieldA 11 (.t k156), none⟩,
 .H 16 ⟨none, .store 1 (.t k157) (.t k155), none⟩ [12],
 .R []]
def eval_run_value_r29 : List POper := [⟨some k158, .mov (.t k0), none⟩,
 ⟨some k159, .mov (.t k1), none⟩,
 ⟨some k160, .mov (.t k2), none⟩,
 ⟨some k161, .mov (.t k3), none⟩,
 ⟨some k162, .nilc (.t k161), none⟩,
 ⟨some k163, .fieldA 5 (.t k162), none⟩,
 ⟨some k164, .load false 1 (.t k163), none⟩,
 ⟨some k165, .mov (.t k11), none⟩,
 ⟨some k166, .bin .add (.v (.int .i64 (.lit 1))) (.t k165), none⟩,
 ⟨some k167, .indexL 7 (.t k164) (.t k166), none⟩,
 ⟨some k168, .callF n_eval_run_eval [(.t k158), (.t k159), (.t k160), (.t k167)], none⟩,
 ⟨none, .store 5 (.t k8) (.t k168), none⟩]
def eval_run_value_r30 : List POper := [⟨some k170, .bin .eql (.t k15) (.v (.int .i64 (.lit 7))), none⟩,
 ⟨some k169, .mov (.t k170), none⟩]
def eval_run_value_r31 : List POper := [⟨some k171, .mov (.t k3), none⟩,
 ⟨some k172, .nilc (.t k171), none⟩,
 ⟨some k173, .fieldA 5 (.t k172), none⟩,
 ⟨some k174, .load false 1 (.t k173), none⟩,
 ⟨some k175, .lenL (.t k174), none⟩,
 ⟨some k176, .bin .eql (.t k175) (.v (.int .i64 (.lit 2))), none⟩,
 ⟨some k177, .callF n_eval_need [(.t k176)], none⟩]
def eval_run_value_r32 : List SItem := [.L 0 ⟨some k178, .mov (.t k0), none⟩,
 .L 1 ⟨some k179, .mov (.t k1), none⟩,
 .L 2 ⟨some k180, .mov (.t k3), none⟩,
 .L 3 ⟨some k181, .nilc (.t k180), none⟩,
 .L 4 ⟨some k182, .fieldA 1 (.t k181), none⟩,
 .L 5 ⟨some k183, .load false 1 (.t k182), none⟩,
 .L 6 ⟨some k184, .mov (.t k0), none⟩,
 .L 7 ⟨some k185, .mov (.t k1), none⟩,
 .L 8 ⟨some k186, .mov (.t k2), none⟩,
 .L 9 ⟨some k187, .mov (.t k3), none⟩,
 .L 10 ⟨some k188, .nilc (.t k187), none⟩,
 .L 11 ⟨some k189, .fieldA 5 (.t k188), none⟩,
 .L 12 ⟨some k190, .load false 1 (.t k189), none⟩,
 .L 13 ⟨some k191, .indexL 7 (.t k190) (.v (.int .i64 (.lit 0))), none⟩,
 .L 15 ⟨some k193, .mov (.t k2), none⟩,
 .L 18 ⟨some k196, .mov (.t k3), none⟩,
 .L 19 ⟨some k197, .nilc (.t k196), none⟩,
 .L 20 ⟨some k198, .fieldA 5 (.t k197), none⟩,
 .L 21 ⟨some k199, .load false 1 (.t k198), none⟩,
 .L 22 ⟨some k200, .indexL 7 (.t k199) (.v (.int .i64 (.lit 1))), none⟩,
 .H 14 ⟨some k192, .callF n_eval_run_eval [(.t k184), (.t k185), (.t k186), (.t k191)], none⟩ [],
 .R [(5, ⟨some k183, .load false 1 (.t k182), none⟩), (21, ⟨some k199, .load false 1 (.t k198), none⟩)],
 .L 16 ⟨some k194, .build [(.str 0 0), (.int .i64 (.lit 0)), (.int .i64 (.lit 0)), (.str 0 0), .nils, (.int .i64 (.lit 0)), .nilp] [(0, 1, (.t k183)), (1, 5, (.t k192)), (6, 1, (.t k193))], none⟩,
 .A 17 ⟨some k195, .box (.t k194), none⟩,
 .H 23 ⟨some k201, .callF n_eval_run_eval [(.t k178), (.t k179), (.t k195), (.t k200)], none⟩ [17],
 .R [],
 .H 24 ⟨none, .store 5 (.t k8) (.t k201), none⟩ [17],
 .R []]
def eval_run_value_r33 : List POper := [⟨some k203, .bin .eql (.t k15) (.v (.int .i64 (.lit 8))), none⟩,
 ⟨some k202, .mov (.t k203), none⟩]
def eval_run_value_r34 : List POper := [⟨some k204, .mov (.t k0), none⟩,
 ⟨some k205, .mov (.t k1), none⟩,
 ⟨some k206, .mov (.t k2), none⟩,
 ⟨some k207, .mov (.t k3), none⟩,
 ⟨some k208, .callF 202 [(.t k204), (.t k205), (.t k206), (.t k207)], none⟩,
 ⟨none, .store 5 (.t k8) (.t k208), none⟩]
def eval_run_value_r35 : List POper := [⟨some k210, .bin .eql (.t k15) (.v (.int .i64 (.lit 9))), none⟩,
 ⟨some k209, .mov (.t k210), none⟩]
def eval_run_value_r36 : List POper := [⟨some k211, .mov (.t k0), none⟩,
 ⟨some k212, .mov (.t k1), none⟩,
 ⟨some k213, .mov (.t k2), none⟩,
 ⟨some k214, .mov (.t k3), none⟩,
 ⟨some k215, .callF n_eval_run_op [(.t k211), (.t k212), (.t k213), (.t k214)], none⟩,
 ⟨none, .store 5 (.t k8) (.t k215), none⟩]
def eval_run_value_r37 : List POper := [⟨some k216, .callF n_eval_end [(.v (.int .i64 (.lit 9)))], none⟩]
def eval_run_value_r38 : List POper := [⟨some k217, .build [(.int .i64 (.lit 0)), (.int .i64 (.lit 0)), (.str 0 0), .nils, (.int .i64 (.lit 0))] [], none⟩,
 ⟨none, .store 5 (.t k8) (.t k217), none⟩]
def eval_run_value : PFn := ⟨(.seq (.ops eval_run_value_r0)
 (.seq (.seq (.ops eval_run_value_r1)
 (.block 0 (.seq (.ops eval_run_value_r2)
 (.cond (.t k16)
 (.seq (.ops eval_run_value_r3)
 .ret)
 (.seq (.ops eval_run_value_r4)
 (.cond (.t k23)
 (.seq (.ops eval_run_value_r5)
 (.seq (.ops eval_run_value_r6)
 .ret))
 (.seq (.ops eval_run_value_r7)
 (.cond (.t k44)
 (.seq (.block 1 (.loop eval_run_value_l0))
 (.ops eval_run_value_r12))
 (.seq (.ops eval_run_value_r13)
 (.cond (.t k66)
 (.seq (.ops eval_run_value_r14)
 .ret)
 (.seq (.ops eval_run_value_r15)
 (.cond (.t k73)
 (.seq (.staged eval_run_value_r16 ⟨[k76, k77, k78, k79, k80, k81, k82, k83, k84, k75, k85, k86, k9, k10], []⟩)
 (.seq (.seq (.ops eval_run_value_r17)
 (.cond (.t k88)
 (.ops eval_run_value_r18)
 .skip))
 (.seq (.ops eval_run_value_r19)
 (.seq (.staged eval_run_value_r20 ⟨[k98, k99, k100, k101, k102, k103, k104, k105, k106, k107, k108, k109, k110, k111], []⟩)
 .ret))))
 (.seq (.ops eval_run_value_r21)
 (.cond (.t k112)
 (.seq (.ops eval_run_value_r22)
 .ret)
 (.seq (.ops eval_run_value_r23)
 (.cond (.t k124)
 (.seq (.ops eval_run_value_r24)
 (.seq (.ops eval_run_value_r25)
 (.seq (.seq (.ops eval_run_value_r26)
 (.cond (.t k141)
 (.ops eval_run_value_r27)
 .skip))
 (.seq (.staged eval_run_value_r28 ⟨[k142, k143, k144, k145, k146, k147, k148, k149, k150, k151, k152, k153, k154, k155, k156, k157], []⟩)
 (.seq (.ops eval_run_value_r29)
 .ret)))))
 (.seq (.ops eval_run_value_r30)
 (.cond (.t k169)
 (.seq (.ops eval_run_value_r31)
 (.seq (.staged eval_run_value_r32 ⟨[k178, k179, k180, k181, k182, k183, k184, k185, k186, k187, k188, k189, k190, k191, k192, k193, k194, k195, k196, k197, k198, k199, k200, k201], []⟩)
 .ret))
 (.seq (.ops eval_run_value_r33)
 (.cond (.t k202)
 (.seq (.ops eval_run_value_r34)
 .ret)
 (.seq (.ops eval_run_value_r35)
 (.cond (.t k209)
 (.seq (.ops eval_run_value_r36)
 .ret)
 .skip))))))))))))))))))))))
 (.seq (.ops eval_run_value_r37)
 (.seq (.ops eval_run_value_r38)
 .ret)))),
 [.cell k8 true 5]⟩
def values_visit_c1_r0 : List POper := [⟨some k4, .box (.t k0), none⟩,
 ⟨some k6, .mov (.v (.bool false)), none⟩]
def values_visit_c1_r1 : List POper := [⟨some k9, .load false 1 (.t k2), none⟩,
 ⟨some k10, .load true 4 (.t k4), none⟩,
 ⟨some k11, .mov (.t k1), none⟩,
 ⟨some k12, .callV (.t k9) [(.t k10), (.t k11)], none⟩,
 ⟨some k13, .un .not (.t k12), none⟩]
def values_visit_c1_r2 : List POper := [⟨some k6, .mov (.v (.bool false)), none⟩]
def values_visit_c1_r3 : List POper := [⟨some k14, .fieldA 3 (.t k4), none⟩,
 ⟨some k15, .load false 1 (.t k14), none⟩,
 ⟨some k16, .lenL (.t k15), none⟩,
 ⟨some k17, .mov (.v (.int .i64 (.lit 0))), none⟩]
def values_visit_c1_r4 : List POper := [⟨some k18, .bin .lss (.t k17) (.t k16), none⟩]
def values_visit_c1_r5 : List POper := [⟨some k19, .indexL 4 (.t k15) (.t k17), none⟩,
 ⟨some k20, .load true 4 (.t k19), none⟩,
 ⟨some k8, .new [(.int .i64 (.lit 0)), (.int .i64 (.lit 0)), (.str 0 0), .nils], none⟩,
 ⟨none, .store 4 (.t k8) (.t k20), none⟩]
def values_visit_c1_r6 : List POper := [⟨some k21, .load false 1 (.t k3), none⟩,
 ⟨some k22, .load true 4 (.t k8), none⟩,
 ⟨some k23, .mov (.t k1), none⟩,
 ⟨some k24, .bin .add (.t k23) (.v (.int .i64 (.lit 1))), none⟩,
 ⟨some k25, .callV (.t k21) [(.t k22), (.t k24)], none⟩,
 ⟨some k26, .un .not (.t k25), none⟩]
def values_visit_c1_r7 : List POper := [⟨some k6, .mov (.v (.bool false)), none⟩]
def values_visit_c1_r8 : List POper := [⟨some k27, .bin .add (.t k17) (.v (.int .i64 (.lit 1))), none⟩,
 ⟨some k17, .mov (.t k27), none⟩]
def values_visit_c1_l0 : PCode := (.seq (.ops values_visit_c1_r4)
 (.seq (.cond (.t k18)
 .skip
 (.exit 0))
 (.seq (.block 1 (.seq (.ops values_visit_c1_r5)
 (.seq (.ops values_visit_c1_r6)
 (.cond (.t k26)
 (.seq (.ops values_visit_c1_r7)
 .ret)
 .skip))))
 (.ops values_visit_c1_r8))))
def values_visit_c1_r9 : List POper := [⟨some k6, .mov (.v (.bool true)), none⟩]
def values_visit_c1 : PFn := ⟨(.seq (.ops values_visit_c1_r0)
 (.seq (.seq (.ops values_visit_c1_r1)
 (.cond (.t k13)
 (.seq (.ops values_visit_c1_r2)
 .ret)
 .skip))
 (.seq (.seq (.ops values_visit_c1_r3)
 (.block 0 (.loop values_visit_c1_l0)))
 (.seq (.ops values_visit_c1_r9)
 .ret)))),
 [.tmp k6]⟩
def values_capital_r0 : List POper := [⟨some k2, .mov (.v (.bool false)), none⟩]
def values_capital_r1 : List POper := [⟨some k4, .mov (.t k0), none⟩,
 ⟨some k5, .bin .eql (.t k4) (.v (.str 0 0)), none⟩,
 ⟨some k6, .mov (.t k5), none⟩,
 ⟨some k7, .mov (.t k0), some (k6, false)⟩,
 ⟨some k8, .lenS (.t k7), some (k6, false)⟩,
 ⟨some k9, .bin .gtr (.t k8) (.v (.int .i64 (.lit 16))), some (k6, false)⟩,
 ⟨some k10, .pick (.t k6) (.v (.bool true)) (.t k9), none⟩,
 ⟨some k11, .mov (.t k10), none⟩,
 ⟨some k12, .mov (.t k0), some (k11, false)⟩,
 ⟨some k13, .indexS (.t k12) (.v (.int .i64 (.lit 0))), some (k11, false)⟩,
 ⟨some k14, .bin .lss (.t k13) (.v (.int .u8 (.lit 65))), some (k11, false)⟩,
 ⟨some k15, .pick (.t k11) (.v (.bool true)) (.t k14), none⟩,
 ⟨some k16, .mov (.t k15), none⟩,
 ⟨some k17, .mov (.t k0), some (k16, false)⟩,
 ⟨some k18, .indexS (.t k17) (.v (.int .i64 (.lit 0))), some (k16, false)⟩,
 ⟨some k19, .bin .gtr (.t k18) (.v (.int .u8 (.lit 90))), some (k16, false)⟩,
 ⟨some k20, .pick (.t k16) (.v (.bool true)) (.t k19), none⟩]
def values_capital_r2 : List POper := [⟨some k2, .mov (.v (.bool false)), none⟩]
def values_capital_r3 : List POper := [⟨some k3, .mov (.v (.int .i64 (.lit 1))), none⟩]
def values_capital_r4 : List POper := [⟨some k21, .mov (.t k3), none⟩,
 ⟨some k22, .mov (.t k0), none⟩,
 ⟨some k23, .lenS (.t k22), none⟩,
 ⟨some k24, .bin .lss (.t k21) (.t k23), none⟩]
def values_capital_r5 : List POper := [⟨some k27, .mov (.t k0), none⟩,
 ⟨some k28, .mov (.t k3), none⟩,
 ⟨some k29, .indexS (.t k27) (.t k28), none⟩,
 ⟨some k30, .callF n_values_inName [(.t k29)], none⟩,
 ⟨some k31, .un .not (.t k30), none⟩]
def values_capital_r6 : List POper := [⟨some k2, .mov (.v (.bool false)), none⟩]
def values_capital_r7 : List POper := [⟨some k25, .mov (.t k3), none⟩,
 ⟨some k26, .bin .add (.t k25) (.v (.int .i64 (.lit 1))), none⟩,
 ⟨some k3, .mov (.t k26), none⟩]
def values_capital_l0 : PCode := (.seq (.seq (.ops values_capital_r4)
 (.cond (.t k24)
 .skip
 (.exit 0)))
 (.seq (.block 1 (.seq (.ops values_capital_r5)
 (.cond (.t k31)
 (.seq (.ops values_capital_r6)
 .ret)
 .skip)))
 (.ops values_capital_r7)))
def values_capital_r8 : List POper := [⟨some k2, .mov (.v (.bool true)), none⟩]
def values_capital : PFn := ⟨(.seq (.ops values_capital_r0)
 (.seq (.seq (.ops values_capital_r1)
 (.cond (.t k20)
 (.seq (.ops values_capital_r2)
 .ret)
 .skip))
 (.seq (.seq (.ops values_capital_r3)
 (.block 0 (.loop values_capital_l0)))
 (.seq (.ops values_capital_r8)
 .ret)))),
 [.tmp k2]⟩
def cmp_isNaN_int_r0 : List POper := [⟨some k2, .mov (.v (.bool false)), none⟩]
def cmp_isNaN_int_r1 : List POper := [⟨some k3, .mov (.t k0), none⟩,
 ⟨some k4, .mov (.t k0), none⟩,
 ⟨some k5, .bin .neq (.t k3) (.t k4), none⟩,
 ⟨some k2, .mov (.t k5), none⟩]
def cmp_isNaN_int : PFn := ⟨(.seq (.ops cmp_isNaN_int_r0)
 (.seq (.ops cmp_isNaN_int_r1)
 .ret)),
 [.tmp k2]⟩
def cmp_isNaN_string_r0 : List POper := [⟨some k2, .mov (.v (.bool false)), none⟩]
def cmp_isNaN_string_r1 : List POper := [⟨some k3, .mov (.t k0), none⟩,
 ⟨some k4, .mov (.t k0), none⟩,
 ⟨some k5, .bin .neq (.t k3) (.t k4), none⟩,
 ⟨some k2, .mov (.t k5), none⟩]
def cmp_isNaN_string : PFn := ⟨(.seq (.ops cmp_isNaN_string_r0)
 (.seq (.ops cmp_isNaN_string_r1)
 .ret)),
 [.tmp k2]⟩
def lexer_tokens_r0 : List POper := [⟨some k1, .box (.t k0), none⟩,
 ⟨some k2, .mov (.v .nilf), none⟩]
def lexer_tokens_r1 : List POper := [⟨some k3, .mkfn n_lexer_tokens_c1 [] [(.t k1)], none⟩,
 ⟨some k2, .mov (.t k3), none⟩]
def lexer_tokens : PFn := ⟨(.seq (.ops lexer_tokens_r0)
 (.seq (.ops lexer_tokens_r1)
 .ret)),
 [.tmp k2]⟩
def parser_reader_is_r0 : List POper := [⟨some k4, .mov (.v (.bool false)), none⟩]
def parser_reader_is_r1 : List SItem := [.L 0 ⟨some k5, .mov (.t k0), none⟩,
 .L 1 ⟨some k6, .nilc (.t k5), none⟩,
 .L 2 ⟨some k7, .fieldA 1 (.t k6), none⟩,
 .L 3 ⟨some k8, .load false 1 (.t k7), none⟩,
 .L 4 ⟨some k9, .mov (.t k0), none⟩,
 .L 5 ⟨some k10, .nilc (.t k9), none⟩,
 .L 6 ⟨some k11, .fieldA 0 (.t k10), none⟩,
 .L 7 ⟨some k12, .load false 1 (.t k11), none⟩,
 .L 8 ⟨some k13, .lenL (.t k12), none⟩,
 .L 9 ⟨some k14, .bin .lss (.t k8) (.t k13), none⟩,
 .L 10 ⟨some k15, .mov (.t k14), none⟩,
 .L 11 ⟨some k16, .mov (.t k0), some (k15, true)⟩,
 .L 12 ⟨some k17, .nilc (.t k16), some (k15, true)⟩,
 .L 13 ⟨some k18, .fieldA 0 (.t k17), some (k15, true)⟩,
 .L 14 ⟨some k19, .load false 1 (.t k18), some (k15, true)⟩,
 .L 15 ⟨some k20, .mov (.t k0), some (k15, true)⟩,
 .L 16 ⟨some k21, .nilc (.t k20), some (k15, true)⟩,
 .L 17 ⟨some k22, .fieldA 1 (.t k21), some (k15, true)⟩,
 .L 18 ⟨some k23, .load false 1 (.t k22), some (k15, true)⟩,
 .L 19 ⟨some k24, .indexL 4 (.t k19) (.t k23), some (k15, true)⟩,
 .L 20 ⟨some k25, .fieldA 3 (.t k24), some (k15, true)⟩,
 .L 21 ⟨some k26, .load false 1 (.t k25), some (k15, true)⟩,
 .L 22 ⟨some k27, .mov (.t k1), some (k15, true)⟩,
 .L 23 ⟨some k28, .bin .eql (.t k26) (.t k27), some (k15, true)⟩,
 .L 24 ⟨some k29, .pick (.t k15) (.t k28) (.v (.bool false)), none⟩,
 .L 25 ⟨some k4, .mov (.t k29), none⟩]
def parser_reader_is : PFn := ⟨(.seq (.ops parser_reader_is_r0)
 (.seq (.staged parser_reader_is_r1 ⟨[k5, k6, k7, k8, k9, k10, k11, k12, k13, k14, k15, k16, k17, k18, k19, k20, k21, k22, k23, k24, k25, k26, k27, k28, k29, k4], []⟩)
 .ret)),
 [.tmp k4]⟩
def parser_reader_named_r0 : List POper := [⟨some k2, .mov (.v (.bool false)), none⟩]
def parser_reader_named_r1 : List SItem := [.L 0 ⟨some k3, .mov (.t k0), none⟩,
 .H 1 ⟨some k4, .callF n_parser_reader_kind [(.t k3), (.v (.int .i64 (.lit 0)))], none⟩ [],
 .R [],
 .L 2 ⟨some k5, .mov (.t k4), none⟩,
 .L 3 ⟨some k6, .mov (.t k0), some (k5, true)⟩,
 .L 4 ⟨some k7, .nilc (.t k6), some (k5, true)⟩,
 .L 5 ⟨some k8, .fieldA 0 (.t k7), some (k5, true)⟩,
 .L 6 ⟨some k9, .load false 1 (.t k8), some (k5, true)⟩,
 .L 7 ⟨some k10, .mov (.t k0), some (k5, true)⟩,
 .L 8 ⟨some k11, .nilc (.t k10), some (k5, true)⟩,
 .L 9 ⟨some k12, .fieldA 1 (.t k11), some (k5, true)⟩,
 .L 10 ⟨some k13, .load false 1 (.t k12), some (k5, true)⟩,
 .L 11 ⟨some k14, .indexL 4 (.t k9) (.t k13), some (k5, true)⟩,
 .L 12 ⟨some k15, .fieldA 3 (.t k14), some (k5, true)⟩,
 .L 13 ⟨some k16, .load false 1 (.t k15), some (k5, true)⟩,
 .H 14 ⟨some k17, .callF n_parser_isReserved [(.t k16)], some (k5, true)⟩ [],
 .R [],
 .L 15 ⟨some k18, .un .not (.t k17), some (k5, true)⟩,
 .L 16 ⟨some k19, .pick (.t k5) (.t k18) (.v (.bool false)), none⟩,
 .L 17 ⟨some k2, .mov (.t k19), none⟩]
def parser_reader_named : PFn := ⟨(.seq (.ops parser_reader_named_r0)
 (.seq (.staged parser_reader_named_r1 ⟨[k3, k4, k5, k6, k7, k8, k9, k10, k11, k12, k13, k14, k15, k16, k17, k18, k19, k2], []⟩)
 .ret)),
 [.tmp k2]⟩
def parser_reader_take_r0 : List POper := [⟨some k4, .new [(.int .i64 (.lit 0)), (.int .i64 (.lit 0)), (.int .i64 (.lit 0)), (.str 0 0)], none⟩]
def parser_reader_take_r1 : List POper := [⟨some k5, .mov (.t k0), none⟩,
 ⟨some k6, .mov (.t k1), none⟩,
 ⟨some k7, .callF n_parser_reader_kind [(.t k5), (.t k6)], none⟩,
 ⟨some k8, .un .not (.t k7), none⟩]
def parser_reader_take_r2 : List POper := [⟨some k9, .mov (.t k0), none⟩,
 ⟨some k10, .callF 117 [(.t k9)], none⟩]
def parser_reader_take_r3 : List POper := [⟨some k11, .mov (.t k0), none⟩,
 ⟨some k12, .nilc (.t k11), none⟩,
 ⟨some k13, .fieldA 1 (.t k12), none⟩,
 ⟨some k14, .load false 1 (.t k13), none⟩,
 ⟨some k15, .bin .add (.t k14) (.v (.int .i64 (.lit 1))), none⟩,
 ⟨some k16, .nilc (.t k11), none⟩,
 ⟨some k17, .fieldA 1 (.t k16), none⟩,
 ⟨none, .store 1 (.t k17) (.t k15), none⟩]
def parser_reader_take_r4 : List SItem := [.L 0 ⟨some k18, .mov (.t k0), none⟩,
 .L 1 ⟨some k19, .nilc (.t k18), none⟩,
 .L 2 ⟨some k20, .fieldA 0 (.t k19), none⟩,
 .L 3 ⟨some k21, .load false 1 (.t k20), none⟩,
 .L 4 ⟨some k22, .mov (.t k0), none⟩,
 .L 5 ⟨some k23, .nilc (.t k22), none⟩,
 .L 6 ⟨some k24, .fieldA 1 (.t k23), none⟩,
 .L 7 ⟨some k25, .load false 1 (.t k24), none⟩,
 .L 8 ⟨some k26, .bin .sub (.t k25) (.v (.int .i64 (.lit 1))), none⟩,
 .L 9 ⟨some k27, .indexL 4 (.t k21) (.t k26), none⟩,
 .L 10 ⟨some k28, .load true 4 (.t k27), none⟩,
 .H 11 ⟨none, .store 4 (.t k4) (.t k28), none⟩ [],
 .R []]
def parser_reader_take : PFn := ⟨(.seq (.ops parser_reader_take_r0)
 (.seq (.seq (.ops parser_reader_take_r1)
 (.cond (.t k8)
 (.ops parser_reader_take_r2)
 .skip))
 (.seq (.ops parser_reader_take_r3)
 (.seq (.staged parser_reader_take_r4 ⟨[k18, k19, k20, k21, k22, k23, k24, k25, k26, k27, k28], []⟩)
 .ret)))),
 [.cell k4 true 4]⟩
def parser_reader_grouped_r0 : List POper := [⟨some k6, .new [(.int .i64 (.lit 0)), (.str 0 0), (.int .i64 (.lit 0)), .nils, .nils, .nils, (.int .i64 (.lit 0))], none⟩]
def parser_reader_grouped_r1 : List POper := [⟨some k10, .mov (.t k0), none⟩,
 ⟨some k11, .callF n_parser_reader_offset [(.t k10)], none⟩,
 ⟨some k7, .mov (.t k11), none⟩]
def parser_reader_grouped_r2 : List POper := [⟨some k12, .mov (.t k1), none⟩,
 ⟨some k13, .callV (.t k12) [], none⟩,
 ⟨some k8, .new [(.int .i64 (.lit 0)), (.str 0 0), (.int .i64 (.lit 0)), .nils, .nils, .nils, (.int .i64 (.lit 0))], none⟩,
 ⟨none, .store 7 (.t k8) (.t k13), none⟩]
def parser_reader_grouped_r3 : List POper := [⟨some k14, .mov (.t k0), none⟩,
 ⟨some k15, .mov (.t k2), none⟩,
 ⟨some k16, .callF n_parser_reader_operator [(.t k14), (.t k15)], none⟩,
 ⟨some k9, .mov (.t k16), none⟩]
def parser_reader_grouped_r4 : List POper := [⟨some k17, .mov (.t k9), none⟩,
 ⟨some k18, .bin .eql (.t k17) (.v (.str 0 0)), none⟩]
def parser_reader_grouped_r5 : List POper := [⟨some k19, .load true 7 (.t k8), none⟩,
 ⟨none, .store 7 (.t k6) (.t k19), none⟩]
def parser_reader_grouped_r6 : List SItem := [.L 0 ⟨some k20, .mov (.t k9), none⟩,
 .L 1 ⟨some k21, .mov (.t k7), none⟩,
 .L 2 ⟨some k22, .load true 7 (.t k8), none⟩,
 .L 3 ⟨some k23, .mov (.t k1), none⟩,
 .H 4 ⟨some k24, .callV (.t k23) [], none⟩ [],
 .R [(2, ⟨some k22, .load true 7 (.t k8), none⟩)],
 .A 5 ⟨some k25, .bslice 7 2 [(.int .i64 (.lit 0)), (.str 0 0), (.int .i64 (.lit 0)), .nils, .nils, .nils, (.int .i64 (.lit 0))] [(0, 7, (.t k22)), (7, 7, (.t k24))], none⟩,
 .L 6 ⟨some k26, .build [(.int .i64 (.lit 0)), (.str 0 0), (.int .i64 (.lit 0)), .nils, .nils, .nils, (.int .i64 (.lit 0))] [(0, 1, (.v (.int .i64 (.lit 9)))), (1, 1, (.t k20)), (6, 1, (.t k21)), (5, 1, (.t k25))], none⟩,
 .H 7 ⟨none, .store 7 (.t k8) (.t k26), none⟩ [5],
 .R []]
def parser_reader_grouped_l0 : PCode := (.block 1 (.seq (.ops parser_reader_grouped_r3)
 (.seq (.seq (.ops parser_reader_grouped_r4)
 (.cond (.t k18)
 (.seq (.ops parser_reader_grouped_r5)
 .ret)
 .skip))
 (.staged parser_reader_grouped_r6 ⟨[k20, k21, k22, k23, k24, k25, k26], []⟩))))
def parser_reader_grouped : PFn := ⟨(.seq (.ops parser_reader_grouped_r0)
 (.seq (.ops parser_reader_grouped_r1)
 (.seq (.ops parser_reader_grouped_r2)
 (.block 0 (.loop parser_reader_grouped_l0))))),
 [.cell k6 true 7]⟩
def parser_reader_and_r0 : List POper := [⟨some k2, .new [(.int .i64 (.lit 0)), (.str 0 0), (.int .i64 (.lit 0)), .nils, .nils, .nils, (.int .i64 (.lit 0))], none⟩]
def parser_reader_and_r1 : List POper := [⟨some k3, .mov (.t k0), none⟩,
 ⟨some k4, .mov (.t k0), none⟩,
 ⟨some k5, .mkfn n_parser_reader_not [(.t k4)] [], none⟩,
 ⟨some k6, .bslice 1 1 [(.str 0 0)] [(0, 1, (.v (.str 3 6581857)))], none⟩,
 ⟨some k7, .callF n_parser_reader_grouped [(.t k3), (.t k5), (.t k6)], none⟩,
 ⟨none, .store 7 (.t k2) (.t k7), none⟩]
def parser_reader_and : PFn := ⟨(.seq (.ops parser_reader_and_r0)
 (.seq (.ops parser_reader_and_r1)
 .ret)),
 [.cell k2 true 7]⟩
def parser_checker_need_r0 : List POper := [⟨some k4, .mov (.t k1), none⟩,
 ⟨some k5, .un .not (.t k4), none⟩]
def parser_checker_need_r1 : List POper := [⟨some k6, .mov (.t k0), none⟩,
 ⟨some k7, .nilc (.t k6), none⟩,
 ⟨some k8, .fieldA 1 (.t k7), none⟩,
 ⟨none, .store 1 (.t k8) (.v (.bool true)), none⟩]
def parser_checker_need : PFn := ⟨(.seq (.ops parser_checker_need_r0)
 (.cond (.t k5)
 (.ops parser_checker_need_r1)
 .skip)),
 []⟩
def parser_checker_between_r0 : List POper := [⟨some k8, .mov (.t k1), none⟩,
 ⟨some k9, .mov (.t k2), none⟩,
 ⟨some k10, .bin .lss (.t k8) (.t k9), none⟩,
 ⟨some k11, .mov (.t k10), none⟩,
 ⟨some k12, .mov (.t k1), some (k11, false)⟩,
 ⟨some k13, .mov (.t k3), some (k11, false)⟩,
 ⟨some k14, .bin .gtr (.t k12) (.t k13), some (k11, false)⟩,
 ⟨some k15, .pick (.t k11) (.v (.bool true)) (.t k14), none⟩]
def parser_checker_between_r1 : List POper := [⟨some k16, .mov (.t k0), none⟩,
 ⟨some k17, .nilc (.t k16), none⟩,
 ⟨some k18, .fieldA 3 (.t k17), none⟩,
 ⟨none, .store 1 (.t k18) (.v (.bool true)), none⟩]
def parser_checker_between : PFn := ⟨(.seq (.ops parser_checker_between_r0)
 (.cond (.t k15)
 (.ops parser_checker_between_r1)
 .skip)),
 []⟩
def parser_checker_word_r0 : List POper := [⟨some k4, .mov (.t k1), none⟩,
 ⟨some k5, .callF n_parser_single [(.t k4), (.v (.int .i64 (.lit 0)))], none⟩,
 ⟨some k6, .un .not (.t k5), none⟩,
 ⟨some k7, .mov (.t k6), none⟩,
 ⟨some k8, .mov (.t k1), some (k7, false)⟩,
 ⟨some k9, .callF n_parser_isReserved [(.t k8)], some (k7, false)⟩,
 ⟨some k10, .pick (.t k7) (.v (.bool true)) (.t k9), none⟩]
def parser_checker_word_r1 : List POper := [⟨some k11, .mov (.t k0), none⟩,
 ⟨some k12, .nilc (.t k11), none⟩,
 ⟨some k13, .fieldA 2 (.t k12), none⟩,
 ⟨none, .store 1 (.t k13) (.v (.bool true)), none⟩]
def parser_checker_word : PFn := ⟨(.seq (.ops parser_checker_word_r0)
 (.cond (.t k10)
 (.ops parser_checker_word_r1)
 .skip)),
 []⟩
def parser_rank_r0 : List POper := [⟨some k2, .mov (.v (.int .i64 (.lit 0))), none⟩]
def parser_rank_r1 : List POper := [⟨some k3, .mov (.t k0), none⟩]
def parser_rank_r2 : List POper := [⟨some k5, .bin .eql (.t k3) (.v (.str 2 29295)), none⟩,
 ⟨some k4, .mov (.t k5), none⟩]
def parser_rank_r3 : List POper := [⟨some k2, .mov (.v (.int .i64 (.lit 1))), none⟩]
def parser_rank_r4 : List POper := [⟨some k7, .bin .eql (.t k3) (.v (.str 3 6581857)), none⟩,
 ⟨some k6, .mov (.t k7), none⟩]
def parser_rank_r5 : List POper := [⟨some k2, .mov (.v (.int .i64 (.lit 2))), none⟩]
def parser_rank_r6 : List POper := [⟨some k9, .bin .eql (.t k3) (.v (.str 3 7630702)), none⟩,
 ⟨some k8, .mov (.t k9), none⟩]
def parser_rank_r7 : List POper := [⟨some k2, .mov (.v (.int .i64 (.lit 3))), none⟩]
def parser_rank_r8 : List POper := [⟨some k11, .bin .eql (.t k3) (.v (.str 2 15677)), none⟩,
 ⟨some k10, .mov (.t k11), none⟩]
def parser_rank_r9 : List POper := [⟨some k12, .bin .eql (.t k3) (.v (.str 2 15649)), none⟩,
 ⟨some k10, .mov (.t k12), none⟩]
def parser_rank_r10 : List POper := [⟨some k13, .bin .eql (.t k3) (.v (.str 1 60)), none⟩,
 ⟨some k10, .mov (.t k13), none⟩]
def parser_rank_r11 : List POper := [⟨some k14, .bin .eql (.t k3) (.v (.str 2 15676)), none⟩,
 ⟨some k10, .mov (.t k14), none⟩]
def parser_rank_r12 : List POper := [⟨some k2, .mov (.v (.int .i64 (.lit 4))), none⟩]
def parser_rank_r13 : List POper := [⟨some k16, .bin .eql (.t k3) (.v (.str 1 43)), none⟩,
 ⟨some k15, .mov (.t k16), none⟩]
def parser_rank_r14 : List POper := [⟨some k17, .bin .eql (.t k3) (.v (.str 1 45)), none⟩,
 ⟨some k15, .mov (.t k17), none⟩]
def parser_rank_r15 : List POper := [⟨some k2, .mov (.v (.int .i64 (.lit 5))), none⟩]
def parser_rank_r16 : List POper := [⟨some k19, .bin .eql (.t k3) (.v (.str 1 42)), none⟩,
 ⟨some k18, .mov (.t k19), none⟩]
def parser_rank_r17 : List POper := [⟨some k2, .mov (.v (.int .i64 (.lit 6))), none⟩]
def parser_rank_r18 : List POper := [⟨some k2, .mov (.v (.int .i64 (.lit 0))), none⟩]
def parser_rank : PFn := ⟨(.seq (.ops parser_rank_r0)
 (.seq (.seq (.ops parser_rank_r1)
 (.block 0 (.seq (.ops parser_rank_r2)
 (.cond (.t k4)
 (.seq (.ops parser_rank_r3)
 .ret)
 (.seq (.ops parser_rank_r4)
 (.cond (.t k6)
 (.seq (.ops parser_rank_r5)
 .ret)
 (.seq (.ops parser_rank_r6)
 (.cond (.t k8)
 (.seq (.ops parser_rank_r7)
 .ret)
 (.seq (.seq (.ops parser_rank_r8)
 (.cond (.t k10)
 .skip
 (.seq (.ops parser_rank_r9)
 (.cond (.t k10)
 .skip
 (.seq (.ops parser_rank_r10)
 (.cond (.t k10)
 .skip
 (.ops parser_rank_r11)))))))
 (.cond (.t k10)
 (.seq (.ops parser_rank_r12)
 .ret)
 (.seq (.seq (.ops parser_rank_r13)
 (.cond (.t k15)
 .skip
 (.ops parser_rank_r14)))
 (.cond (.t k15)
 (.seq (.ops parser_rank_r15)
 .ret)
 (.seq (.ops parser_rank_r16)
 (.cond (.t k18)
 (.seq (.ops parser_rank_r17)
 .ret)
 .skip))))))))))))))
 (.seq (.ops parser_rank_r18)
 .ret))),
 [.tmp k2]⟩
def eval_builtins_c1_r0 : List POper := [⟨some k4, .new [(.int .i64 (.lit 0)), (.int .i64 (.lit 0)), (.str 0 0), .nils, (.int .i64 (.lit 0))], none⟩]
def eval_builtins_c1_r1 : List POper := [⟨some k5, .mov (.t k1), none⟩,
 ⟨some k6, .indexL 5 (.t k5) (.v (.int .i64 (.lit 0))), none⟩,
 ⟨some k7, .load true 5 (.t k6), none⟩,
 ⟨some k8, .callF n_eval_list [(.t k7)], none⟩,
 ⟨some k9, .lenL (.t k8), none⟩,
 ⟨some k10, .callF n_eval_number [(.t k9)], none⟩,
 ⟨none, .store 5 (.t k4) (.t k10), none⟩]
def eval_builtins_c1 : PFn := ⟨(.seq (.ops eval_builtins_c1_r0)
 (.seq (.ops eval_builtins_c1_r1)
 .ret)),
 [.cell k4 true 5]⟩
def eval_number_r0 : List POper := [⟨some k2, .new [(.int .i64 (.lit 0)), (.int .i64 (.lit 0)), (.str 0 0), .nils, (.int .i64 (.lit 0))], none⟩]
def eval_number_r1 : List POper := [⟨some k3, .mov (.t k0), none⟩,
 ⟨some k4, .build [(.int .i64 (.lit 0)), (.int .i64 (.lit 0)), (.str 0 0), .nils] [(0, 1, (.v (.int .i64 (.lit 0)))), (1, 1, (.t k3))], none⟩,
 ⟨some k5, .build [(.int .i64 (.lit 0)), (.int .i64 (.lit 0)), (.str 0 0), .nils, (.int .i64 (.lit 0))] [(0, 4, (.t k4)), (4, 1, (.v (.int .i64 (.lit 1))))], none⟩,
 ⟨none, .store 5 (.t k2) (.t k5), none⟩]
def eval_number : PFn := ⟨(.seq (.ops eval_number_r0)
 (.seq (.ops eval_number_r1)
 .ret)),
 [.cell k2 true 5]⟩
def eval_list_r0 : List POper := [⟨some k1, .box (.t k0), none⟩,
 ⟨some k2, .mov (.v .nils), none⟩]
def eval_list_r1 : List POper := [⟨some k3, .fieldA 0 (.t k1), none⟩,
 ⟨some k4, .fieldA 0 (.t k3), none⟩,
 ⟨some k5, .load false 1 (.t k4), none⟩,
 ⟨some k6, .bin .eql (.t k5) (.v (.int .i64 (.lit 2))), none⟩,
 ⟨some k7, .callF n_eval_need [(.t k6)], none⟩]
def eval_list_r2 : List POper := [⟨some k8, .fieldA 0 (.t k1), none⟩,
 ⟨some k9, .fieldA 3 (.t k8), none⟩,
 ⟨some k10, .load false 1 (.t k9), none⟩,
 ⟨some k2, .mov (.t k10), none⟩]
def eval_list : PFn := ⟨(.seq (.ops eval_list_r0)
 (.seq (.ops eval_list_r1)
 (.seq (.ops eval_list_r2)
 .ret))),
 [.tmp k2]⟩
def eval_at_r0 : List POper := [⟨some k4, .new [(.int .i64 (.lit 0)), (.int .i64 (.lit 0)), (.str 0 0), .nils, (.int .i64 (.lit 0))], none⟩]
def eval_at_r1 : List POper := [⟨some k8, .mov (.t k1), none⟩,
 ⟨some k9, .callF n_eval_element [(.t k8)], none⟩,
 ⟨some k7, .mov (.t k9), none⟩,
 ⟨some k10, .extract (.t k7) 0, none⟩,
 ⟨some k11, .extract (.t k7) 1, none⟩,
 ⟨some k5, .mov (.t k10), none⟩,
 ⟨some k6, .mov (.t k11), none⟩]
def eval_at_r2 : List POper := [⟨some k12, .mov (.t k5), none⟩,
 ⟨some k13, .mov (.t k6), none⟩,
 ⟨some k14, .indexL 4 (.t k12) (.t k13), none⟩,
 ⟨some k15, .load true 4 (.t k14), none⟩,
 ⟨some k16, .callF n_eval_measured [(.t k15)], none⟩,
 ⟨none, .store 5 (.t k4) (.t k16), none⟩]
def eval_at : PFn := ⟨(.seq (.ops eval_at_r0)
 (.seq (.ops eval_at_r1)
 (.seq (.ops eval_at_r2)
 .ret))),
 [.cell k4 true 5]⟩
def eval_builtins_c2_r0 : List POper := [⟨some k4, .new [(.int .i64 (.lit 0)), (.int .i64 (.lit 0)), (.str 0 0), .nils, (.int .i64 (.lit 0))], none⟩]
def eval_builtins_c2_r1 : List POper := [⟨some k6, .bslice 4 0 [(.int .i64 (.lit 0)), (.int .i64 (.lit 0)), (.str 0 0), .nils] [], none⟩,
 ⟨some k7, .mov (.t k1), none⟩,
 ⟨some k8, .indexL 5 (.t k7) (.v (.int .i64 (.lit 0))), none⟩,
 ⟨some k9, .load true 5 (.t k8), none⟩,
 ⟨some k10, .callF n_eval_list [(.t k9)], none⟩,
 ⟨some k11, .append 4 (.t k6) (.t k10), none⟩,
 ⟨some k5, .mov (.t k11), none⟩]
def eval_builtins_c2_r2 : List SItem := [.L 0 ⟨some k12, .mov (.t k5), none⟩,
 .L 1 ⟨some k13, .mov (.t k1), none⟩,
 .L 2 ⟨some k14, .indexL 5 (.t k13) (.v (.int .i64 (.lit 1))), none⟩,
 .L 3 ⟨some k15, .fieldA 0 (.t k14), none⟩,
 .L 4 ⟨some k16, .load true 4 (.t k15), none⟩,
 .A 5 ⟨some k17, .bslice 4 1 [(.int .i64 (.lit 0)), (.int .i64 (.lit 0)), (.str 0 0), .nils] [(0, 4, (.t k16))], none⟩,
 .L 8 ⟨some k20, .mov (.t k1), none⟩,
 .L 9 ⟨some k21, .indexL 5 (.t k20) (.v (.int .i64 (.lit 0))), none⟩,
 .L 10 ⟨some k22, .fieldA 4 (.t k21), none⟩,
 .L 11 ⟨some k23, .load false 1 (.t k22), none⟩,
 .L 12 ⟨some k24, .mov (.t k1), none⟩,
 .L 13 ⟨some k25, .indexL 5 (.t k24) (.v (.int .i64 (.lit 1))), none⟩,
 .L 14 ⟨some k26, .fieldA 4 (.t k25), none⟩,
 .L 15 ⟨some k27, .load false 1 (.t k26), none⟩,
 .L 16 ⟨some k28, .bin .add (.t k23) (.t k27), none⟩,
 .H 6 ⟨some k18, .append 4 (.t k12) (.t k17), none⟩ [5],
 .R [(11, ⟨some k23, .load false 1 (.t k22), none⟩), (15, ⟨some k27, .load false 1 (.t k26), none⟩)],
 .L 7 ⟨some k19, .build [(.int .i64 (.lit 0)), (.int .i64 (.lit 0)), (.str 0 0), .nils] [(0, 1, (.v (.int .i64 (.lit 2)))), (3, 1, (.t k18))], none⟩,
 .L 17 ⟨some k29, .build [(.int .i64 (.lit 0)), (.int .i64 (.lit 0)), (.str 0 0), .nils, (.int .i64 (.lit 0))] [(0, 4, (.t k19)), (4, 1, (.t k28))], none⟩,
 .H 18 ⟨none, .store 5 (.t k4) (.t k29), none⟩ [5],
 .R []]
def eval_builtins_c2 : PFn := ⟨(.seq (.ops eval_builtins_c2_r0)
 (.seq (.ops eval_builtins_c2_r1)
 (.seq (.staged eval_builtins_c2_r2 ⟨[k12, k13, k14, k15, k16, k17, k18, k19, k20, k21, k22, k23, k24, k25, k26, k27, k28, k29], []⟩)
 .ret))),
 [.cell k4 true 5]⟩
def eval_builtins_c3_r0 : List POper := [⟨some k4, .new [(.int .i64 (.lit 0)), (.int .i64 (.lit 0)), (.str 0 0), .nils, (.int .i64 (.lit 0))], none⟩]
def eval_builtins_c3_r1 : List POper := [⟨some k8, .mov (.t k1), none⟩,
 ⟨some k9, .callF n_eval_part [(.t k8)], none⟩,
 ⟨some k7, .mov (.t k9), none⟩,
 ⟨some k10, .extract (.t k7) 0, none⟩,
 ⟨some k11, .extract (.t k7) 1, none⟩,
 ⟨some k5, .mov (.t k10), none⟩,
 ⟨some k6, .mov (.t k11), none⟩]
def eval_builtins_c3_r2 : List POper := [⟨some k12, .mov (.t k5), none⟩,
 ⟨some k13, .mov (.t k6), none⟩,
 ⟨some k14, .sliceL 4 (.t k12) none (some (.t k13)), none⟩,
 ⟨some k15, .build [(.int .i64 (.lit 0)), (.int .i64 (.lit 0)), (.str 0 0), .nils] [(0, 1, (.v (.int .i64 (.lit 2)))), (3, 1, (.t k14))], none⟩,
 ⟨some k16, .callF n_eval_measured [(.t k15)], none⟩,
 ⟨none, .store 5 (.t k4) (.t k16), none⟩]
def eval_builtins_c3 : PFn := ⟨(.seq (.ops eval_builtins_c3_r0)
 (.seq (.ops eval_builtins_c3_r1)
 (.seq (.ops eval_builtins_c3_r2)
 .ret))),
 [.cell k4 true 5]⟩
def eval_part_r0 : List POper := [⟨some k2, .mov (.v .nils), none⟩,
 ⟨some k3, .mov (.v (.int .i64 (.lit 0))), none⟩]
def eval_part_r1 : List SItem := [.L 0 ⟨some k6, .mov (.t k0), none⟩,
 .L 1 ⟨some k7, .indexL 5 (.t k6) (.v (.int .i64 (.lit 0))), none⟩,
 .L 2 ⟨some k8, .load true 5 (.t k7), none⟩,
 .L 4 ⟨some k10, .mov (.t k0), none⟩,
 .L 5 ⟨some k11, .indexL 5 (.t k10) (.v (.int .i64 (.lit 1))), none⟩,
 .L 6 ⟨some k12, .load true 5 (.t k11), none⟩,
 .H 3 ⟨some k9, .callF n_eval_list [(.t k8)], none⟩ [],
 .R [(6, ⟨some k12, .load true 5 (.t k11), none⟩)],
 .H 7 ⟨some k13, .callF n_eval_integer [(.t k12)], none⟩ [],
 .R [],
 .L 8 ⟨some k4, .mov (.t k9), none⟩,
 .L 9 ⟨some k5, .mov (.t k13), none⟩]
def eval_part_r2 : List POper := [⟨some k14, .mov (.t k4), none⟩,
 ⟨some k15, .mov (.t k5), none⟩,
 ⟨some k16, .mx true (.t k15) (.v (.int .i64 (.lit 0))), none⟩,
 ⟨some k17, .mov (.t k4), none⟩,
 ⟨some k18, .lenL (.t k17), none⟩,
 ⟨some k19, .mx false (.t k16) (.t k18), none⟩,
 ⟨some k2, .mov (.t k14), none⟩,
 ⟨some k3, .mov (.t k19), none⟩]
def eval_part : PFn := ⟨(.seq (.ops eval_part_r0)
 (.seq (.staged eval_part_r1 ⟨[k6, k7, k8, k9, k10, k11, k12, k13, k4, k5], []⟩)
 (.seq (.ops eval_part_r2)
 .ret))),
 [.tmp k2, .tmp k3]⟩
def eval_builtins_c4_r0 : List POper := [⟨some k4, .new [(.int .i64 (.lit 0)), (.int .i64 (.lit 0)), (.str 0 0), .nils, (.int .i64 (.lit 0))], none⟩]
def eval_builtins_c4_r1 : List POper := [⟨some k8, .mov (.t k1), none⟩,
 ⟨some k9, .callF n_eval_part [(.t k8)], none⟩,
 ⟨some k7, .mov (.t k9), none⟩,
 ⟨some k10, .extract (.t k7) 0, none⟩,
 ⟨some k11, .extract (.t k7) 1, none⟩,
 ⟨some k5, .mov (.t k10), none⟩,
 ⟨some k6, .mov (.t k11), none⟩]
def eval_builtins_c4_r2 : List POper := [⟨some k12, .mov (.t k5), none⟩,
 ⟨some k13, .mov (.t k6), none⟩,
 ⟨some k14, .sliceL 4 (.t k12) (some (.t k13)) none, none⟩,
 ⟨some k15, .build [(.int .i64 (.lit 0)), (.int .i64 (.lit 0)), (.str 0 0), .nils] [(0, 1, (.v (.int .i64 (.lit 2)))), (3, 1, (.t k14))], none⟩,
 ⟨some k16, .callF n_eval_measured [(.t k15)], none⟩,
 ⟨none, .store 5 (.t k4) (.t k16), none⟩]
def eval_builtins_c4 : PFn := ⟨(.seq (.ops eval_builtins_c4_r0)
 (.seq (.ops eval_builtins_c4_r1)
 (.seq (.ops eval_builtins_c4_r2)
 .ret))),
 [.cell k4 true 5]⟩
def eval_set_r0 : List POper := [⟨some k4, .new [(.int .i64 (.lit 0)), (.int .i64 (.lit 0)), (.str 0 0), .nils, (.int .i64 (.lit 0))], none⟩]
def eval_set_r1 : List POper := [⟨some k9, .mov (.t k1), none⟩,
 ⟨some k10, .callF n_eval_element [(.t k9)], none⟩,
 ⟨some k8, .mov (.t k10), none⟩,
 ⟨some k11, .extract (.t k8) 0, none⟩,
 ⟨some k12, .extract (.t k8) 1, none⟩,
 ⟨some k5, .mov (.t k11), none⟩,
 ⟨some k6, .mov (.t k12), none⟩]
def eval_set_r2 : List POper := [⟨some k13, .bslice 4 0 [(.int .i64 (.lit 0)), (.int .i64 (.lit 0)), (.str 0 0), .nils] [], none⟩,
 ⟨some k14, .mov (.t k5), none⟩,
 ⟨some k15, .append 4 (.t k13) (.t k14), none⟩,
 ⟨some k5, .mov (.t k15), none⟩]
def eval_set_r3 : List SItem := [.L 0 ⟨some k16, .mov (.t k1), none⟩,
 .L 1 ⟨some k17, .indexL 5 (.t k16) (.v (.int .i64 (.lit 0))), none⟩,
 .L 2 ⟨some k18, .fieldA 4 (.t k17), none⟩,
 .L 3 ⟨some k19, .load false 1 (.t k18), none⟩,
 .L 4 ⟨some k20, .mov (.t k5), none⟩,
 .L 5 ⟨some k21, .mov (.t k6), none⟩,
 .L 6 ⟨some k22, .indexL 4 (.t k20) (.t k21), none⟩,
 .L 7 ⟨some k23, .load true 4 (.t k22), none⟩,
 .L 11 ⟨some k27, .mov (.t k1), none⟩,
 .L 12 ⟨some k28, .indexL 5 (.t k27) (.v (.int .i64 (.lit 2))), none⟩,
 .L 13 ⟨some k29, .fieldA 4 (.t k28), none⟩,
 .L 14 ⟨some k30, .load false 1 (.t k29), none⟩,
 .H 8 ⟨some k24, .callF n_eval_measured [(.t k23)], none⟩ [],
 .R [(3, ⟨some k19, .load false 1 (.t k18), none⟩), (14, ⟨some k30, .load false 1 (.t k29), none⟩)],
 .L 9 ⟨some k25, .field false 4 1 (.t k24), none⟩,
 .L 10 ⟨some k26, .bin .sub (.t k19) (.t k25), none⟩,
 .L 15 ⟨some k31, .bin .add (.t k26) (.t k30), none⟩,
 .L 16 ⟨some k7, .mov (.t k31), none⟩]
def eval_set_r4 : List POper := [⟨some k32, .mov (.t k5), none⟩,
 ⟨some k33, .mov (.t k6), none⟩,
 ⟨some k34, .mov (.t k1), none⟩,
 ⟨some k35, .indexL 5 (.t k34) (.v (.int .i64 (.lit 2))), none⟩,
 ⟨some k36, .fieldA 0 (.t k35), none⟩,
 ⟨some k37, .load true 4 (.t k36), none⟩,
 ⟨some k38, .indexL 4 (.t k32) (.t k33), none⟩,
 ⟨none, .store 4 (.t k38) (.t k37), none⟩]
def eval_set_r5 : List POper := [⟨some k39, .mov (.t k5), none⟩,
 ⟨some k40, .build [(.int .i64 (.lit 0)), (.int .i64 (.lit 0)), (.str 0 0), .nils] [(0, 1, (.v (.int .i64 (.lit 2)))), (3, 1, (.t k39))], none⟩,
 ⟨some k41, .mov (.t k7), none⟩,
 ⟨some k42, .build [(.int .i64 (.lit 0)), (.int .i64 (.lit 0)), (.str 0 0), .nils, (.int .i64 (.lit 0))] [(0, 4, (.t k40)), (4, 1, (.t k41))], none⟩,
 ⟨none, .store 5 (.t k4) (.t k42), none⟩]
def eval_set : PFn := ⟨(.seq (.ops eval_set_r0)
 (.seq (.ops eval_set_r1)
 (.seq (.ops eval_set_r2)
 (.seq (.staged eval_set_r3 ⟨[k16, k17, k18, k19, k20, k21, k22, k23, k24, k25, k26, k27, k28, k29, k30, k31, k7], []⟩)
 (.seq (.ops eval_set_r4)
 (.seq (.ops eval_set_r5)
 .ret)))))),
 [.cell k4 true 5]⟩
def eval_builtins_c5_r0 : List POper := [⟨some k4, .new [(.int .i64 (.lit 0)), (.int .i64 (.lit 0)), (.str 0 0), .nils, (.int .i64 (.lit 0))], none⟩]
def eval_builtins_c5_r1 : List POper := [⟨some k5, .mov (.t k1), none⟩,
 ⟨some k6, .callF n_eval_chosen [(.t k5), (.v (.bool true))], none⟩,
 ⟨none, .store 5 (.t k4) (.t k6), none⟩]
def eval_builtins_c5 : PFn := ⟨(.seq (.ops eval_builtins_c5_r0)
 (.seq (.ops eval_builtins_c5_r1)
 .ret)),
 [.cell k4 true 5]⟩
def eval_chosen_r0 : List POper := [⟨some k4, .new [(.int .i64 (.lit 0)), (.int .i64 (.lit 0)), (.str 0 0), .nils, (.int .i64 (.lit 0))], none⟩]
def eval_chosen_r1 : List SItem := [.L 0 ⟨some k7, .mov (.t k0), none⟩,
 .L 1 ⟨some k8, .indexL 5 (.t k7) (.v (.int .i64 (.lit 0))), none⟩,
 .L 2 ⟨some k9, .load true 5 (.t k8), none⟩,
 .L 4 ⟨some k11, .mov (.t k0), none⟩,
 .L 5 ⟨some k12, .indexL 5 (.t k11) (.v (.int .i64 (.lit 1))), none⟩,
 .L 6 ⟨some k13, .load true 5 (.t k12), none⟩,
 .H 3 ⟨some k10, .callF n_eval_integer [(.t k9)], none⟩ [],
 .R [(6, ⟨some k13, .load true 5 (.t k12), none⟩)],
 .H 7 ⟨some k14, .callF n_eval_integer [(.t k13)], none⟩ [],
 .R [],
 .L 8 ⟨some k5, .mov (.t k10), none⟩,
 .L 9 ⟨some k6, .mov (.t k14), none⟩]
def eval_chosen_r2 : List POper := [⟨some k15, .mov (.t k1), none⟩]
def eval_chosen_r3 : List POper := [⟨some k16, .mov (.t k5), none⟩,
 ⟨some k17, .mov (.t k6), none⟩,
 ⟨some k18, .mx true (.t k16) (.t k17), none⟩,
 ⟨some k19, .callF n_eval_number [(.t k18)], none⟩,
 ⟨none, .store 5 (.t k4) (.t k19), none⟩]
def eval_chosen_r4 : List POper := [⟨some k20, .mov (.t k5), none⟩,
 ⟨some k21, .mov (.t k6), none⟩,
 ⟨some k22, .mx false (.t k20) (.t k21), none⟩,
 ⟨some k23, .callF n_eval_number [(.t k22)], none⟩,
 ⟨none, .store 5 (.t k4) (.t k23), none⟩]
def eval_chosen : PFn := ⟨(.seq (.ops eval_chosen_r0)
 (.seq (.staged eval_chosen_r1 ⟨[k7, k8, k9, k10, k11, k12, k13, k14, k5, k6], []⟩)
 (.seq (.seq (.ops eval_chosen_r2)
 (.cond (.t k15)
 (.seq (.ops eval_chosen_r3)
 .ret)
 .skip))
 (.seq (.ops eval_chosen_r4)
 .ret)))),
 [.cell k4 true 5]⟩
def eval_builtins_c6_r0 : List POper := [⟨some k4, .new [(.int .i64 (.lit 0)), (.int .i64 (.lit 0)), (.str 0 0), .nils, (.int .i64 (.lit 0))], none⟩]
def eval_builtins_c6_r1 : List POper := [⟨some k5, .mov (.t k1), none⟩,
 ⟨some k6, .callF n_eval_chosen [(.t k5), (.v (.bool false))], none⟩,
 ⟨none, .store 5 (.t k4) (.t k6), none⟩]
def eval_builtins_c6 : PFn := ⟨(.seq (.ops eval_builtins_c6_r0)
 (.seq (.ops eval_builtins_c6_r1)
 .ret)),
 [.cell k4 true 5]⟩
def clone_List_Value_r0 : List POper := [⟨some k4, .mov (.v .nils), none⟩]
def clone_List_Value_r1 : List POper := [⟨some k7, .mov (.t k0), none⟩,
 ⟨some k8, .lenL (.t k7), none⟩,
 ⟨some k9, .bin .eql (.t k8) (.v (.int .i64 (.lit 0))), none⟩]
def clone_List_Value_r2 : List POper := [⟨some k4, .mov (.v .nils), none⟩]
def clone_List_Value_r3 : List POper := [⟨some k10, .mov (.t k0), none⟩,
 ⟨some k11, .lenL (.t k10), none⟩,
 ⟨some k12, .mkslice 4 [(.int .i64 (.lit 0)), (.int .i64 (.lit 0)), (.str 0 0), .nils] (.t k11) (.t k11), none⟩,
 ⟨some k5, .mov (.t k12), none⟩]
def clone_List_Value_r4 : List POper := [⟨some k13, .mov (.t k0), none⟩,
 ⟨some k14, .lenL (.t k13), none⟩,
 ⟨some k15, .mov (.v (.int .i64 (.lit 0))), none⟩]
def clone_List_Value_r5 : List POper := [⟨some k16, .bin .lss (.t k15) (.t k14), none⟩]
def clone_List_Value_r6 : List POper := [⟨some k17, .mov (.t k15), none⟩,
 ⟨some k6, .mov (.t k17), none⟩]
def clone_List_Value_r7 : List POper := [⟨some k18, .mov (.t k5), none⟩,
 ⟨some k19, .mov (.t k6), none⟩,
 ⟨some k20, .mov (.t k1), none⟩,
 ⟨some k21, .mov (.t k0), none⟩,
 ⟨some k22, .mov (.t k6), none⟩,
 ⟨some k23, .indexL 4 (.t k21) (.t k22), none⟩,
 ⟨some k24, .load true 4 (.t k23), none⟩,
 ⟨some k25, .callV (.t k20) [(.t k24)], none⟩,
 ⟨some k26, .indexL 4 (.t k18) (.t k19), none⟩,
 ⟨none, .store 4 (.t k26) (.t k25), none⟩]
def clone_List_Value_r8 : List POper := [⟨some k27, .bin .add (.t k15) (.v (.int .i64 (.lit 1))), none⟩,
 ⟨some k15, .mov (.t k27), none⟩]
def clone_List_Value_l0 : PCode := (.seq (.ops clone_List_Value_r5)
 (.seq (.cond (.t k16)
 .skip
 (.exit 0))
 (.seq (.block 1 (.seq (.ops clone_List_Value_r6)
 (.ops clone_List_Value_r7)))
 (.ops clone_List_Value_r8))))
def clone_List_Value_r9 : List POper := [⟨some k28, .mov (.t k5), none⟩,
 ⟨some k4, .mov (.t k28), none⟩]
def clone_List_Value : PFn := ⟨(.seq (.ops clone_List_Value_r0)
 (.seq (.seq (.ops clone_List_Value_r1)
 (.cond (.t k9)
 (.seq (.ops clone_List_Value_r2)
 .ret)
 .skip))
 (.seq (.ops clone_List_Value_r3)
 (.seq (.seq (.ops clone_List_Value_r4)
 (.block 0 (.loop clone_List_Value_l0)))
 (.seq (.ops clone_List_Value_r9)
 .ret))))),
 [.tmp k4]⟩
def eval_need_r0 : List POper := [⟨some k2, .mov (.t k0), none⟩,
 ⟨some k3, .un .not (.t k2), none⟩]
def eval_need_r1 : List POper := [⟨some k4, .callF n_eval_end [(.v (.int .i64 (.lit 9)))], none⟩]
def eval_need : PFn := ⟨(.seq (.ops eval_need_r0)
 (.cond (.t k3)
 (.ops eval_need_r1)
 .skip)),
 []⟩
def eval_truth_r0 : List POper := [⟨some k2, .new [(.int .i64 (.lit 0)), (.int .i64 (.lit 0)), (.str 0 0), .nils, (.int .i64 (.lit 0))], none⟩]
def eval_truth_r1 : List POper := [⟨some k4, .build [(.int .i64 (.lit 0)), (.int .i64 (.lit 0)), (.str 0 0), .nils] [(0, 1, (.v (.int .i64 (.lit 1))))], none⟩,
 ⟨some k3, .new [(.int .i64 (.lit 0)), (.int .i64 (.lit 0)), (.str 0 0), .nils], none⟩,
 ⟨none, .store 4 (.t k3) (.t k4), none⟩]
def eval_truth_r2 : List POper := [⟨some k5, .mov (.t k0), none⟩]
def eval_truth_r3 : List POper := [⟨some k6, .fieldA 1 (.t k3), none⟩,
 ⟨none, .store 1 (.t k6) (.v (.int .i64 (.lit 1))), none⟩]
def eval_truth_r4 : List POper := [⟨some k7, .load true 4 (.t k3), none⟩,
 ⟨some k8, .build [(.int .i64 (.lit 0)), (.int .i64 (.lit 0)), (.str 0 0), .nils, (.int .i64 (.lit 0))] [(0, 4, (.t k7)), (4, 1, (.v (.int .i64 (.lit 1))))], none⟩,
 ⟨none, .store 5 (.t k2) (.t k8), none⟩]
def eval_truth : PFn := ⟨(.seq (.ops eval_truth_r0)
 (.seq (.ops eval_truth_r1)
 (.seq (.seq (.ops eval_truth_r2)
 (.cond (.t k5)
 (.ops eval_truth_r3)
 .skip))
 (.seq (.ops eval_truth_r4)
 .ret)))),
 [.cell k2 true 5]⟩
def eval_run_apply_r0 : List POper := [⟨some k8, .new [(.int .i64 (.lit 0)), (.int .i64 (.lit 0)), (.str 0 0), .nils, (.int .i64 (.lit 0))], none⟩]
def eval_run_apply_r1 : List SItem := [.L 0 ⟨some k14, .mov (.t k0), none⟩,
 .L 1 ⟨some k15, .nilc (.t k14), none⟩,
 .L 2 ⟨some k16, .fieldA 2 (.t k15), none⟩,
 .L 3 ⟨some k17, .load false 1 (.t k16), none⟩,
 .L 4 ⟨some k18, .mov (.t k3), none⟩,
 .L 5 ⟨some k19, .nilc (.t k18), none⟩,
 .L 6 ⟨some k20, .fieldA 1 (.t k19), none⟩,
 .L 7 ⟨some k21, .load false 1 (.t k20), none⟩,
 .L 8 ⟨some k22, .lookup true (.agg [(.int .i64 (.lit 0)), .nilf]) true (.t k17) (.t k21), none⟩,
 .L 9 ⟨some k13, .mov (.t k22), none⟩,
 .L 10 ⟨some k23, .extract (.t k13) 0, none⟩,
 .L 11 ⟨some k24, .extract (.t k13) 1, none⟩,
 .A 12 ⟨some k9, .new [(.int .i64 (.lit 0)), .nilf], none⟩,
 .H 13 ⟨none, .store 2 (.t k9) (.t k23), none⟩ [12],
 .R [],
 .L 14 ⟨some k10, .mov (.t k24), none⟩]
def eval_run_apply_r2 : List POper := [⟨some k25, .mov (.t k10), none⟩]
def eval_run_apply_r3 : List SItem := [.L 0 ⟨some k26, .mov (.t k3), none⟩,
 .L 1 ⟨some k27, .nilc (.t k26), none⟩,
 .L 2 ⟨some k28, .fieldA 5 (.t k27), none⟩,
 .L 3 ⟨some k29, .load false 1 (.t k28), none⟩,
 .L 4 ⟨some k30, .lenL (.t k29), none⟩,
 .L 5 ⟨some k31, .fieldA 0 (.t k9), none⟩,
 .L 6 ⟨some k32, .load false 1 (.t k31), none⟩,
 .L 7 ⟨some k33, .bin .eql (.t k30) (.t k32), none⟩,
 .H 8 ⟨some k34, .callF n_eval_need [(.t k33)], none⟩ [],
 .R []]
def eval_run_apply_r4 : List SItem := [.L 0 ⟨some k35, .fieldA 1 (.t k9), none⟩,
 .L 1 ⟨some k36, .load false 1 (.t k35), none⟩,
 .L 2 ⟨some k37, .mov (.t k0), none⟩,
 .L 3 ⟨some k38, .mov (.t k0), none⟩,
 .L 4 ⟨some k39, .mov (.t k1), none⟩,
 .L 5 ⟨some k40, .mov (.t k2), none⟩,
 .L 6 ⟨some k41, .mov (.t k3), none⟩,
 .L 7 ⟨some k42, .nilc (.t k41), none⟩,
 .L 8 ⟨some k43, .fieldA 5 (.t k42), none⟩,
 .L 9 ⟨some k44, .load false 1 (.t k43), none⟩,
 .H 10 ⟨some k45, .callF n_eval_run_all [(.t k38), (.t k39), (.t k40), (.t k44)], none⟩ [],
 .R [(1, ⟨some k36, .load false 1 (.t k35), none⟩)],
 .H 11 ⟨some k46, .callV (.t k36) [(.t k37), (.t k45)], none⟩ [],
 .R [],
 .H 12 ⟨none, .store 5 (.t k8) (.t k46), none⟩ [],
 .R []]
def eval_run_apply_r5 : List SItem := [.L 0 ⟨some k48, .mov (.t k0), none⟩,
 .L 1 ⟨some k49, .nilc (.t k48), none⟩,
 .L 2 ⟨some k50, .fieldA 0 (.t k49), none⟩,
 .L 3 ⟨some k51, .load false 1 (.t k50), none⟩,
 .L 4 ⟨some k52, .mov (.t k3), none⟩,
 .L 5 ⟨some k53, .nilc (.t k52), none⟩,
 .L 6 ⟨some k54, .fieldA 1 (.t k53), none⟩,
 .L 7 ⟨some k55, .load false 1 (.t k54), none⟩,
 .L 8 ⟨some k56, .lookup true .nilp true (.t k51) (.t k55), none⟩,
 .L 9 ⟨some k47, .mov (.t k56), none⟩,
 .L 10 ⟨some k57, .extract (.t k47) 0, none⟩,
 .L 11 ⟨some k58, .extract (.t k47) 1, none⟩,
 .L 12 ⟨some k11, .mov (.t k57), none⟩,
 .L 13 ⟨some k12, .mov (.t k58), none⟩]
def eval_run_apply_r6 : List POper := [⟨some k59, .mov (.t k12), none⟩,
 ⟨some k60, .un .not (.t k59), none⟩]
def eval_run_apply_r7 : List POper := [⟨some k61, .callF n_eval_end [(.v (.int .i64 (.lit 6)))], none⟩]
def eval_run_apply_r8 : List SItem := [.L 0 ⟨some k62, .mov (.t k3), none⟩,
 .L 1 ⟨some k63, .nilc (.t k62), none⟩,
 .L 2 ⟨some k64, .fieldA 5 (.t k63), none⟩,
 .L 3 ⟨some k65, .load false 1 (.t k64), none⟩,
 .L 4 ⟨some k66, .lenL (.t k65), none⟩,
 .L 5 ⟨some k67, .mov (.t k11), none⟩,
 .L 6 ⟨some k68, .nilc (.t k67), none⟩,
 .L 7 ⟨some k69, .fieldA 4 (.t k68), none⟩,
 .L 8 ⟨some k70, .load false 1 (.t k69), none⟩,
 .L 9 ⟨some k71, .lenL (.t k70), none⟩,
 .L 10 ⟨some k72, .bin .eql (.t k66) (.t k71), none⟩,
 .H 11 ⟨some k73, .callF n_eval_need [(.t k72)], none⟩ [],
 .R []]
def eval_run_apply_r9 : List POper := [⟨some k74, .mov (.t k0), none⟩,
 ⟨some k75, .mov (.t k11), none⟩,
 ⟨some k76, .mov (.t k0), none⟩,
 ⟨some k77, .mov (.t k1), none⟩,
 ⟨some k78, .mov (.t k2), none⟩,
 ⟨some k79, .mov (.t k3), none⟩,
 ⟨some k80, .nilc (.t k79), none⟩,
 ⟨some k81, .fieldA 5 (.t k80), none⟩,
 ⟨some k82, .load false 1 (.t k81), none⟩,
 ⟨some k83, .callF n_eval_run_all [(.t k76), (.t k77), (.t k78), (.t k82)], none⟩,
 ⟨some k84, .callF 77 [(.t k74), (.t k75), (.t k83)], none⟩,
 ⟨none, .store 5 (.t k8) (.t k84), none⟩]
def eval_run_apply : PFn := ⟨(.seq (.ops eval_run_apply_r0)
 (.seq (.seq (.staged eval_run_apply_r1 ⟨[k14, k15, k16, k17, k18, k19, k20, k21, k22, k13, k23, k24, k9, k10], []⟩)
 (.seq (.ops eval_run_apply_r2)
 (.cond (.t k25)
 (.seq (.staged eval_run_apply_r3 ⟨[k26, k27, k28, k29, k30, k31, k32, k33, k34], []⟩)
 (.seq (.staged eval_run_apply_r4 ⟨[k35, k36, k37, k38, k39, k40, k41, k42, k43, k44, k45, k46], []⟩)
 .ret))
 .skip)))
 (.seq (.staged eval_run_apply_r5 ⟨[k48, k49, k50, k51, k52, k53, k54, k55, k56, k47, k57, k58, k11, k12], []⟩)
 (.seq (.seq (.ops eval_run_apply_r6)
 (.cond (.t k60)
 (.ops eval_run_apply_r7)
 .skip))
 (.seq (.staged eval_run_apply_r8 ⟨[k62, k63, k64, k65, k66, k67, k68, k69, k70, k71, k72, k73], []⟩)
 (.seq (.ops eval_run_apply_r9)
 .ret)))))),
 [.cell k8 true 5]⟩
def eval_joined_r0 : List POper := [⟨some k2, .box (.t k0), none⟩,
 ⟨some k4, .new [(.int .i64 (.lit 0)), (.int .i64 (.lit 0)), (.str 0 0), .nils, (.int .i64 (.lit 0))], none⟩]
def eval_joined_r1 : List POper := [⟨some k5, .mov (.v (.int .i64 (.lit 1))), none⟩]
def eval_joined_r2 : List POper := [⟨some k8, .mov (.t k1), none⟩,
 ⟨some k9, .lenL (.t k8), none⟩,
 ⟨some k10, .mkslice 4 [(.int .i64 (.lit 0)), (.int .i64 (.lit 0)), (.str 0 0), .nils] (.t k9) (.t k9), none⟩,
 ⟨some k11, .fieldA 3 (.t k2), none⟩,
 ⟨none, .store 1 (.t k11) (.t k10), none⟩]
def eval_joined_r3 : List POper := [⟨some k12, .mov (.t k1), none⟩,
 ⟨some k13, .lenL (.t k12), none⟩,
 ⟨some k14, .mov (.v (.int .i64 (.lit 0))), none⟩]
def eval_joined_r4 : List POper := [⟨some k15, .bin .lss (.t k14) (.t k13), none⟩]
def eval_joined_r5 : List POper := [⟨some k16, .mov (.t k14), none⟩,
 ⟨some k17, .indexL 5 (.t k12) (.t k14), none⟩,
 ⟨some k18, .load true 5 (.t k17), none⟩,
 ⟨some k7, .new [(.int .i64 (.lit 0)), (.int .i64 (.lit 0)), (.str 0 0), .nils, (.int .i64 (.lit 0))], none⟩,
 ⟨some k6, .mov (.t k16), none⟩,
 ⟨none, .store 5 (.t k7) (.t k18), none⟩]
def eval_joined_r6 : List POper := [⟨some k19, .fieldA 3 (.t k2), none⟩,
 ⟨some k20, .load false 1 (.t k19), none⟩,
 ⟨some k21, .mov (.t k6), none⟩,
 ⟨some k22, .fieldA 0 (.t k7), none⟩,
 ⟨some k23, .load true 4 (.t k22), none⟩,
 ⟨some k24, .indexL 4 (.t k20) (.t k21), none⟩,
 ⟨none, .store 4 (.t k24) (.t k23), none⟩]
def eval_joined_r7 : List POper := [⟨some k25, .mov (.t k5), none⟩,
 ⟨some k26, .fieldA 4 (.t k7), none⟩,
 ⟨some k27, .load false 1 (.t k26), none⟩,
 ⟨some k28, .bin .add (.t k25) (.t k27), none⟩,
 ⟨some k5, .mov (.t k28), none⟩]
def eval_joined_r8 : List POper := [⟨some k29, .bin .add (.t k14) (.v (.int .i64 (.lit 1))), none⟩,
 ⟨some k14, .mov (.t k29), none⟩]
def eval_joined_l0 : PCode := (.seq (.ops eval_joined_r4)
 (.seq (.cond (.t k15)
 .skip
 (.exit 0))
 (.seq (.block 1 (.seq (.ops eval_joined_r5)
 (.seq (.ops eval_joined_r6)
 (.ops eval_joined_r7))))
 (.ops eval_joined_r8))))
def eval_joined_r9 : List POper := [⟨some k30, .load true 4 (.t k2), none⟩,
 ⟨some k31, .mov (.t k5), none⟩,
 ⟨some k32, .build [(.int .i64 (.lit 0)), (.int .i64 (.lit 0)), (.str 0 0), .nils, (.int .i64 (.lit 0))] [(0, 4, (.t k30)), (4, 1, (.t k31))], none⟩,
 ⟨none, .store 5 (.t k4) (.t k32), none⟩]
def eval_joined : PFn := ⟨(.seq (.ops eval_joined_r0)
 (.seq (.ops eval_joined_r1)
 (.seq (.ops eval_joined_r2)
 (.seq (.seq (.ops eval_joined_r3)
 (.block 0 (.loop eval_joined_l0)))
 (.seq (.ops eval_joined_r9)
 .ret))))),
 [.cell k4 true 5]⟩
def eval_run_all_r0 : List POper := [⟨some k8, .mov (.v .nils), none⟩]
def eval_run_all_r1 : List POper := [⟨some k11, .mov (.t k3), none⟩,
 ⟨some k12, .lenL (.t k11), none⟩,
 ⟨some k13, .mkslice 5 [(.int .i64 (.lit 0)), (.int .i64 (.lit 0)), (.str 0 0), .nils, (.int .i64 (.lit 0))] (.t k12) (.t k12), none⟩,
 ⟨some k9, .mov (.t k13), none⟩]
def eval_run_all_r2 : List POper := [⟨some k14, .mov (.t k3), none⟩,
 ⟨some k15, .lenL (.t k14), none⟩,
 ⟨some k16, .mov (.v (.int .i64 (.lit 0))), none⟩]
def eval_run_all_r3 : List POper := [⟨some k17, .bin .lss (.t k16) (.t k15), none⟩]
def eval_run_all_r4 : List POper := [⟨some k18, .mov (.t k16), none⟩,
 ⟨some k10, .mov (.t k18), none⟩]
def eval_run_all_r5 : List POper := [⟨some k19, .mov (.t k9), none⟩,
 ⟨some k20, .mov (.t k10), none⟩,
 ⟨some k21, .mov (.t k0), none⟩,
 ⟨some k22, .mov (.t k1), none⟩,
 ⟨some k23, .mov (.t k2), none⟩,
 ⟨some k24, .mov (.t k3), none⟩,
 ⟨some k25, .mov (.t k10), none⟩,
 ⟨some k26, .indexL 7 (.t k24) (.t k25), none⟩,
 ⟨some k27, .callF n_eval_run_eval [(.t k21), (.t k22), (.t k23), (.t k26)], none⟩,
 ⟨some k28, .indexL 5 (.t k19) (.t k20), none⟩,
 ⟨none, .store 5 (.t k28) (.t k27), none⟩]
def eval_run_all_r6 : List POper := [⟨some k29, .bin .add (.t k16) (.v (.int .i64 (.lit 1))), none⟩,
 ⟨some k16, .mov (.t k29), none⟩]
def eval_run_all_l0 : PCode := (.seq (.ops eval_run_all_r3)
 (.seq (.cond (.t k17)
 .skip
 (.exit 0))
 (.seq (.block 1 (.seq (.ops eval_run_all_r4)
 (.ops eval_run_all_r5)))
 (.ops eval_run_all_r6))))
def eval_run_all_r7 : List POper := [⟨some k30, .mov (.t k9), none⟩,
 ⟨some k8, .mov (.t k30), none⟩]
def eval_run_all : PFn := ⟨(.seq (.ops eval_run_all_r0)
 (.seq (.ops eval_run_all_r1)
 (.seq (.seq (.ops eval_run_all_r2)
 (.block 0 (.loop eval_run_all_l0)))
 (.seq (.ops eval_run_all_r7)
 .ret)))),
 [.tmp k8]⟩
def eval_run_truth_r0 : List POper := [⟨some k8, .mov (.v (.bool false)), none⟩]
def eval_run_truth_r1 : List POper := [⟨some k10, .mov (.t k0), none⟩,
 ⟨some k11, .mov (.t k1), none⟩,
 ⟨some k12, .mov (.t k2), none⟩,
 ⟨some k13, .mov (.t k3), none⟩,
 ⟨some k14, .callF n_eval_run_eval [(.t k10), (.t k11), (.t k12), (.t k13)], none⟩,
 ⟨some k15, .field true 0 4 (.t k14), none⟩,
 ⟨some k9, .new [(.int .i64 (.lit 0)), (.int .i64 (.lit 0)), (.str 0 0), .nils], none⟩,
 ⟨none, .store 4 (.t k9) (.t k15), none⟩]
def eval_run_truth_r2 : List POper := [⟨some k16, .fieldA 0 (.t k9), none⟩,
 ⟨some k17, .load false 1 (.t k16), none⟩,
 ⟨some k18, .bin .eql (.t k17) (.v (.int .i64 (.lit 1))), none⟩,
 ⟨some k19, .callF n_eval_need [(.t k18)], none⟩]
def eval_run_truth_r3 : List POper := [⟨some k20, .fieldA 1 (.t k9), none⟩,
 ⟨some k21, .load false 1 (.t k20), none⟩,
 ⟨some k22, .bin .eql (.t k21) (.v (.int .i64 (.lit 1))), none⟩,
 ⟨some k8, .mov (.t k22), none⟩]
def eval_run_truth : PFn := ⟨(.seq (.ops eval_run_truth_r0)
 (.seq (.ops eval_run_truth_r1)
 (.seq (.ops eval_run_truth_r2)
 (.seq (.ops eval_run_truth_r3)
 .ret)))),
 [.tmp k8]⟩
def eval_run_op_r0 : List POper := [⟨some k8, .new [(.int .i64 (.lit 0)), (.int .i64 (.lit 0)), (.str 0 0), .nils, (.int .i64 (.lit 0))], none⟩]
def eval_run_op_r1 : List POper := [⟨some k11, .mov (.t k3), none⟩,
 ⟨some k12, .nilc (.t k11), none⟩,
 ⟨some k13, .fieldA 1 (.t k12), none⟩,
 ⟨some k14, .load false 1 (.t k13), none⟩]
def eval_run_op_r2 : List POper := [⟨some k17, .bin .eql (.t k14) (.v (.str 3 7630702)), none⟩,
 ⟨some k16, .mov (.t k17), none⟩]
def eval_run_op_r3 : List POper := [⟨some k18, .mov (.t k3), none⟩,
 ⟨some k19, .nilc (.t k18), none⟩,
 ⟨some k20, .fieldA 5 (.t k19), none⟩,
 ⟨some k21, .load false 1 (.t k20), none⟩,
 ⟨some k22, .lenL (.t k21), none⟩,
 ⟨some k23, .bin .eql (.t k22) (.v (.int .i64 (.lit 1))), none⟩,
 ⟨some k24, .callF n_eval_need [(.t k23)], none⟩]
def eval_run_op_r4 : List POper := [⟨some k25, .mov (.t k0), none⟩,
 ⟨some k26, .mov (.t k1), none⟩,
 ⟨some k27, .mov (.t k2), none⟩,
 ⟨some k28, .mov (.t k3), none⟩,
 ⟨some k29, .nilc (.t k28), none⟩,
 ⟨some k30, .fieldA 5 (.t k29), none⟩,
 ⟨some k31, .load false 1 (.t k30), none⟩,
 ⟨some k32, .indexL 7 (.t k31) (.v (.int .i64 (.lit 0))), none⟩,
 ⟨some k33, .callF n_eval_run_truth [(.t k25), (.t k26), (.t k27), (.t k32)], none⟩,
 ⟨some k34, .un .not (.t k33), none⟩,
 ⟨some k35, .callF n_eval_truth [(.t k34)], none⟩,
 ⟨none, .store 5 (.t k8) (.t k35), none⟩]
def eval_run_op_r5 : List POper := [⟨some k37, .bin .eql (.t k14) (.v (.str 3 6581857)), none⟩,
 ⟨some k36, .mov (.t k37), none⟩]
def eval_run_op_r6 : List POper := [⟨some k38, .bin .eql (.t k14) (.v (.str 2 29295)), none⟩,
 ⟨some k36, .mov (.t k38), none⟩]
def eval_run_op_r7 : List POper := [⟨some k39, .mov (.t k3), none⟩,
 ⟨some k40, .nilc (.t k39), none⟩,
 ⟨some k41, .fieldA 5 (.t k40), none⟩,
 ⟨some k42, .load false 1 (.t k41), none⟩,
 ⟨some k43, .lenL (.t k42), none⟩,
 ⟨some k44, .bin .eql (.t k43) (.v (.int .i64 (.lit 2))), none⟩,
 ⟨some k45, .callF n_eval_need [(.t k44)], none⟩]
def eval_run_op_r8 : List SItem := [.L 0 ⟨some k46, .mov (.t k0), none⟩,
 .L 1 ⟨some k47, .mov (.t k1), none⟩,
 .L 2 ⟨some k48, .mov (.t k2), none⟩,
 .L 3 ⟨some k49, .mov (.t k3), none⟩,
 .L 4 ⟨some k50, .nilc (.t k49), none⟩,
 .L 5 ⟨some k51, .fieldA 5 (.t k50), none⟩,
 .L 6 ⟨some k52, .load false 1 (.t k51), none⟩,
 .L 7 ⟨some k53, .indexL 7 (.t k52) (.v (.int .i64 (.lit 0))), none⟩,
 .L 9 ⟨some k55, .mov (.t k3), none⟩,
 .L 10 ⟨some k56, .nilc (.t k55), none⟩,
 .L 11 ⟨some k57, .fieldA 1 (.t k56), none⟩,
 .L 12 ⟨some k58, .load false 1 (.t k57), none⟩,
 .L 13 ⟨some k59, .bin .eql (.t k58) (.v (.str 2 29295)), none⟩,
 .H 8 ⟨some k54, .callF n_eval_run_truth [(.t k46), (.t k47), (.t k48), (.t k53)], none⟩ [],
 .R [(12, ⟨some k58, .load false 1 (.t k57), none⟩)],
 .L 14 ⟨some k60, .eq false .bool (.t k54) (.t k59), none⟩]
def eval_run_op_r9 : List POper := [⟨some k61, .mov (.t k3), none⟩,
 ⟨some k62, .nilc (.t k61), none⟩,
 ⟨some k63, .fieldA 1 (.t k62), none⟩,
 ⟨some k64, .load false 1 (.t k63), none⟩,
 ⟨some k65, .bin .eql (.t k64) (.v (.str 2 29295)), none⟩,
 ⟨some k66, .callF n_eval_truth [(.t k65)], none⟩,
 ⟨none, .store 5 (.t k8) (.t k66), none⟩]
def eval_run_op_r10 : List POper := [⟨some k67, .mov (.t k0), none⟩,
 ⟨some k68, .mov (.t k1), none⟩,
 ⟨some k69, .mov (.t k2), none⟩,
 ⟨some k70, .mov (.t k3), none⟩,
 ⟨some k71, .nilc (.t k70), none⟩,
 ⟨some k72, .fieldA 5 (.t k71), none⟩,
 ⟨some k73, .load false 1 (.t k72), none⟩,
 ⟨some k74, .indexL 7 (.t k73) (.v (.int .i64 (.lit 1))), none⟩,
 ⟨some k75, .callF n_eval_run_truth [(.t k67), (.t k68), (.t k69), (.t k74)], none⟩,
 ⟨some k76, .callF n_eval_truth [(.t k75)], none⟩,
 ⟨none, .store 5 (.t k8) (.t k76), none⟩]
def eval_run_op_r11 : List POper := [⟨some k78, .bin .eql (.t k14) (.v (.str 1 43)), none⟩,
 ⟨some k77, .mov (.t k78), none⟩]
def eval_run_op_r12 : List POper := [⟨some k79, .bin .eql (.t k14) (.v (.str 1 45)), none⟩,
 ⟨some k77, .mov (.t k79), none⟩]
def eval_run_op_r13 : List POper := [⟨some k80, .bin .eql (.t k14) (.v (.str 1 42)), none⟩,
 ⟨some k77, .mov (.t k80), none⟩]
def eval_run_op_r14 : List POper := [⟨some k81, .bin .eql (.t k14) (.v (.str 1 60)), none⟩,
 ⟨some k77, .mov (.t k81), none⟩]
def eval_run_op_r15 : List POper := [⟨some k82, .bin .eql (.t k14) (.v (.str 2 15676)), none⟩,
 ⟨some k77, .mov (.t k82), none⟩]
def eval_run_op_r16 : List POper := [⟨some k83, .bin .eql (.t k14) (.v (.str 2 15677)), none⟩,
 ⟨some k77, .mov (.t k83), none⟩]
def eval_run_op_r17 : List POper := [⟨some k84, .bin .eql (.t k14) (.v (.str 2 15649)), none⟩,
 ⟨some k77, .mov (.t k84), none⟩]
def eval_run_op_r18 : List POper := [⟨some k85, .mov (.t k3), none⟩,
 ⟨some k86, .nilc (.t k85), none⟩,
 ⟨some k87, .fieldA 5 (.t k86), none⟩,
 ⟨some k88, .load false 1 (.t k87), none⟩,
 ⟨some k89, .lenL (.t k88), none⟩,
 ⟨some k90, .bin .eql (.t k89) (.v (.int .i64 (.lit 2))), none⟩,
 ⟨some k91, .callF n_eval_need [(.t k90)], none⟩]
def eval_run_op_r19 : List POper := [⟨some k15, .callF n_eval_end [(.v (.int .i64 (.lit 9)))], none⟩]
def eval_run_op_r20 : List POper := [⟨some k92, .mov (.t k0), none⟩,
 ⟨some k93, .mov (.t k1), none⟩,
 ⟨some k94, .mov (.t k2), none⟩,
 ⟨some k95, .mov (.t k3), none⟩,
 ⟨some k96, .nilc (.t k95), none⟩,
 ⟨some k97, .fieldA 5 (.t k96), none⟩,
 ⟨some k98, .load false 1 (.t k97), none⟩,
 ⟨some k99, .indexL 7 (.t k98) (.v (.int .i64 (.lit 0))), none⟩,
 ⟨some k100, .callF n_eval_run_eval [(.t k92), (.t k93), (.t k94), (.t k99)], none⟩,
 ⟨some k101, .field true 0 4 (.t k100), none⟩,
 ⟨some k9, .new [(.int .i64 (.lit 0)), (.int .i64 (.lit 0)), (.str 0 0), .nils], none⟩,
 ⟨none, .store 4 (.t k9) (.t k101), none⟩]
def eval_run_op_r21 : List POper := [⟨some k102, .mov (.t k0), none⟩,
 ⟨some k103, .mov (.t k1), none⟩,
 ⟨some k104, .mov (.t k2), none⟩,
 ⟨some k105, .mov (.t k3), none⟩,
 ⟨some k106, .nilc (.t k105), none⟩,
 ⟨some k107, .fieldA 5 (.t k106), none⟩,
 ⟨some k108, .load false 1 (.t k107), none⟩,
 ⟨some k109, .indexL 7 (.t k108) (.v (.int .i64 (.lit 1))), none⟩,
 ⟨some k110, .callF n_eval_run_eval [(.t k102), (.t k103), (.t k104), (.t k109)], none⟩,
 ⟨some k111, .field true 0 4 (.t k110), none⟩,
 ⟨some k10, .new [(.int .i64 (.lit 0)), (.int .i64 (.lit 0)), (.str 0 0), .nils], none⟩,
 ⟨none, .store 4 (.t k10) (.t k111), none⟩]
def eval_run_op_r22 : List POper := [⟨some k112, .mov (.t k3), none⟩,
 ⟨some k113, .nilc (.t k112), none⟩,
 ⟨some k114, .fieldA 1 (.t k113), none⟩,
 ⟨some k115, .load false 1 (.t k114), none⟩]
def eval_run_op_r23 : List POper := [⟨some k117, .bin .eql (.t k115) (.v (.str 2 15677)), none⟩,
 ⟨some k116, .mov (.t k117), none⟩]
def eval_run_op_r24 : List POper := [⟨some k118, .load true 4 (.t k9), none⟩,
 ⟨some k119, .load true 4 (.t k10), none⟩,
 ⟨some k120, .callF n_values_Compare [(.t k118), (.t k119)], none⟩,
 ⟨some k121, .bin .eql (.t k120) (.v (.int .i64 (.lit 0))), none⟩,
 ⟨some k122, .callF n_eval_truth [(.t k121)], none⟩,
 ⟨none, .store 5 (.t k8) (.t k122), none⟩]
def eval_run_op_r25 : List POper := [⟨some k124, .bin .eql (.t k115) (.v (.str 2 15649)), none⟩,
 ⟨some k123, .mov (.t k124), none⟩]
def eval_run_op_r26 : List POper := [⟨some k125, .load true 4 (.t k9), none⟩,
 ⟨some k126, .load true 4 (.t k10), none⟩,
 ⟨some k127, .callF n_values_Compare [(.t k125), (.t k126)], none⟩,
 ⟨some k128, .bin .neq (.t k127) (.v (.int .i64 (.lit 0))), none⟩,
 ⟨some k129, .callF n_eval_truth [(.t k128)], none⟩,
 ⟨none, .store 5 (.t k8) (.t k129), none⟩]
def eval_run_op_r27 : List POper := [⟨some k130, .fieldA 0 (.t k9), none⟩,
 ⟨some k131, .load false 1 (.t k130), none⟩,
 ⟨some k132, .bin .eql (.t k131) (.v (.int .i64 (.lit 0))), none⟩,
 ⟨some k133, .mov (.t k132), none⟩,
 ⟨some k134, .fieldA 0 (.t k10), some (k133, true)⟩,
 ⟨some k135, .load false 1 (.t k134), some (k133, true)⟩,
 ⟨some k136, .bin .eql (.t k135) (.v (.int .i64 (.lit 0))), some (k133, true)⟩,
 ⟨some k137, .pick (.t k133) (.t k136) (.v (.bool false)), none⟩,
 ⟨some k138, .callF n_eval_need [(.t k137)], none⟩]
def eval_run_op_r28 : List POper := [⟨some k139, .mov (.t k3), none⟩,
 ⟨some k140, .nilc (.t k139), none⟩,
 ⟨some k141, .fieldA 1 (.t k140), none⟩,
 ⟨some k142, .load false 1 (.t k141), none⟩]
def eval_run_op_r29 : List POper := [⟨some k144, .bin .eql (.t k142) (.v (.str 1 43)), none⟩,
 ⟨some k143, .mov (.t k144), none⟩]
def eval_run_op_r30 : List POper := [⟨some k145, .fieldA 1 (.t k9), none⟩,
 ⟨some k146, .load false 1 (.t k145), none⟩,
 ⟨some k147, .fieldA 1 (.t k10), none⟩,
 ⟨some k148, .load false 1 (.t k147), none⟩,
 ⟨some k149, .bin .add (.t k146) (.t k148), none⟩,
 ⟨some k150, .callF n_eval_number [(.t k149)], none⟩,
 ⟨none, .store 5 (.t k8) (.t k150), none⟩]
def eval_run_op_r31 : List POper := [⟨some k152, .bin .eql (.t k142) (.v (.str 1 45)), none⟩,
 ⟨some k151, .mov (.t k152), none⟩]
def eval_run_op_r32 : List POper := [⟨some k153, .fieldA 1 (.t k9), none⟩,
 ⟨some k154, .load false 1 (.t k153), none⟩,
 ⟨some k155, .fieldA 1 (.t k10), none⟩,
 ⟨some k156, .load false 1 (.t k155), none⟩,
 ⟨some k157, .bin .sub (.t k154) (.t k156), none⟩,
 ⟨some k158, .callF n_eval_number [(.t k157)], none⟩,
 ⟨none, .store 5 (.t k8) (.t k158), none⟩]
def eval_run_op_r33 : List POper := [⟨some k160, .bin .eql (.t k142) (.v (.str 1 42)), none⟩,
 ⟨some k159, .mov (.t k160), none⟩]
def eval_run_op_r34 : List POper := [⟨some k161, .fieldA 1 (.t k9), none⟩,
 ⟨some k162, .load false 1 (.t k161), none⟩,
 ⟨some k163, .fieldA 1 (.t k10), none⟩,
 ⟨some k164, .load false 1 (.t k163), none⟩,
 ⟨some k165, .bin .mul (.t k162) (.t k164), none⟩,
 ⟨some k166, .callF n_eval_number [(.t k165)], none⟩,
 ⟨none, .store 5 (.t k8) (.t k166), none⟩]
def eval_run_op_r35 : List POper := [⟨some k168, .bin .eql (.t k142) (.v (.str 1 60)), none⟩,
 ⟨some k167, .mov (.t k168), none⟩]
def eval_run_op_r36 : List POper := [⟨some k169, .fieldA 1 (.t k9), none⟩,
 ⟨some k170, .load false 1 (.t k169), none⟩,
 ⟨some k171, .fieldA 1 (.t k10), none⟩,
 ⟨some k172, .load false 1 (.t k171), none⟩,
 ⟨some k173, .bin .lss (.t k170) (.t k172), none⟩,
 ⟨some k174, .callF n_eval_truth [(.t k173)], none⟩,
 ⟨none, .store 5 (.t k8) (.t k174), none⟩]
def eval_run_op_r37 : List POper := [⟨some k175, .fieldA 1 (.t k9), none⟩,
 ⟨some k176, .load false 1 (.t k175), none⟩,
 ⟨some k177, .fieldA 1 (.t k10), none⟩,
 ⟨some k178, .load false 1 (.t k177), none⟩,
 ⟨some k179, .bin .leq (.t k176) (.t k178), none⟩,
 ⟨some k180, .callF n_eval_truth [(.t k179)], none⟩,
 ⟨none, .store 5 (.t k8) (.t k180), none⟩]
def eval_run_op : PFn := ⟨(.seq (.ops eval_run_op_r0)
 (.seq (.seq (.ops eval_run_op_r1)
 (.block 0 (.seq (.ops eval_run_op_r2)
 (.cond (.t k16)
 (.seq (.ops eval_run_op_r3)
 (.seq (.ops eval_run_op_r4)
 .ret))
 (.seq (.seq (.ops eval_run_op_r5)
 (.cond (.t k36)
 .skip
 (.ops eval_run_op_r6)))
 (.cond (.t k36)
 (.seq (.ops eval_run_op_r7)
 (.seq (.seq (.staged eval_run_op_r8 ⟨[k46, k47, k48, k49, k50, k51, k52, k53, k54, k55, k56, k57, k58, k59, k60], []⟩)
 (.cond (.t k60)
 (.seq (.ops eval_run_op_r9)
 .ret)
 .skip))
 (.seq (.ops eval_run_op_r10)
 .ret)))
 (.seq (.seq (.ops eval_run_op_r11)
 (.cond (.t k77)
 .skip
 (.seq (.ops eval_run_op_r12)
 (.cond (.t k77)
 .skip
 (.seq (.ops eval_run_op_r13)
 (.cond (.t k77)
 .skip
 (.seq (.ops eval_run_op_r14)
 (.cond (.t k77)
 .skip
 (.seq (.ops eval_run_op_r15)
 (.cond (.t k77)
 .skip
 (.seq (.ops eval_run_op_r16)
 (.cond (.t k77)
 .skip
 (.ops eval_run_op_r17)))))))))))))
 (.cond (.t k77)
 (.ops eval_run_op_r18)
 (.ops eval_run_op_r19)))))))))
 (.seq (.ops eval_run_op_r20)
 (.seq (.ops eval_run_op_r21)
 (.seq (.seq (.ops eval_run_op_r22)
 (.block 1 (.seq (.ops eval_run_op_r23)
 (.cond (.t k116)
 (.seq (.ops eval_run_op_r24)
 .ret)
 (.seq (.ops eval_run_op_r25)
 (.cond (.t k123)
 (.seq (.ops eval_run_op_r26)
 .ret)
 .skip))))))
 (.seq (.ops eval_run_op_r27)
 (.seq (.seq (.ops eval_run_op_r28)
 (.block 2 (.seq (.ops eval_run_op_r29)
 (.cond (.t k143)
 (.seq (.ops eval_run_op_r30)
 .ret)
 (.seq (.ops eval_run_op_r31)
 (.cond (.t k151)
 (.seq (.ops eval_run_op_r32)
 .ret)
 (.seq (.ops eval_run_op_r33)
 (.cond (.t k159)
 (.seq (.ops eval_run_op_r34)
 .ret)
 (.seq (.ops eval_run_op_r35)
 (.cond (.t k167)
 (.seq (.ops eval_run_op_r36)
 .ret)
 .skip))))))))))
 (.seq (.ops eval_run_op_r37)
 .ret)))))))),
 [.cell k8 true 5]⟩
def values_inName_r0 : List POper := [⟨some k2, .mov (.v (.bool false)), none⟩]
def values_inName_r1 : List POper := [⟨some k3, .mov (.t k0), none⟩,
 ⟨some k4, .bin .geq (.t k3) (.v (.int .u8 (.lit 97))), none⟩,
 ⟨some k5, .mov (.t k4), none⟩,
 ⟨some k6, .mov (.t k0), some (k5, true)⟩,
 ⟨some k7, .bin .leq (.t k6) (.v (.int .u8 (.lit 122))), some (k5, true)⟩,
 ⟨some k8, .pick (.t k5) (.t k7) (.v (.bool false)), none⟩,
 ⟨some k9, .mov (.t k8), none⟩,
 ⟨some k10, .mov (.t k0), some (k9, false)⟩,
 ⟨some k11, .bin .geq (.t k10) (.v (.int .u8 (.lit 65))), some (k9, false)⟩,
 ⟨some k12, .mov (.t k11), some (k9, false)⟩,
 ⟨some k13, .mov (.t k0), some (k12, true)⟩,
 ⟨some k14, .bin .leq (.t k13) (.v (.int .u8 (.lit 90))), some (k12, true)⟩,
 ⟨some k15, .pick (.t k12) (.t k14) (.v (.bool false)), some (k9, false)⟩,
 ⟨some k16, .pick (.t k9) (.v (.bool true)) (.t k15), none⟩,
 ⟨some k17, .mov (.t k16), none⟩,
 ⟨some k18, .mov (.t k0), some (k17, false)⟩,
 ⟨some k19, .bin .geq (.t k18) (.v (.int .u8 (.lit 48))), some (k17, false)⟩,
 ⟨some k20, .mov (.t k19), some (k17, false)⟩,
 ⟨some k21, .mov (.t k0), some (k20, true)⟩,
 ⟨some k22, .bin .leq (.t k21) (.v (.int .u8 (.lit 57))), some (k20, true)⟩,
 ⟨some k23, .pick (.t k20) (.t k22) (.v (.bool false)), some (k17, false)⟩,
 ⟨some k24, .pick (.t k17) (.v (.bool true)) (.t k23), none⟩,
 ⟨some k25, .mov (.t k24), none⟩,
 ⟨some k26, .mov (.t k0), some (k25, false)⟩,
 ⟨some k27, .bin .eql (.t k26) (.v (.int .u8 (.lit 95))), some (k25, false)⟩,
 ⟨some k28, .pick (.t k25) (.v (.bool true)) (.t k27), none⟩,
 ⟨some k2, .mov (.t k28), none⟩]
def values_inName : PFn := ⟨(.seq (.ops values_inName_r0)
 (.seq (.ops values_inName_r1)
 .ret)),
 [.tmp k2]⟩
def parser_reader_number_r0 : List POper := [⟨some k2, .mov (.v (.int .i64 (.lit 0))), none⟩]
def parser_reader_number_r1 : List POper := [⟨some k3, .mov (.t k0), none⟩,
 ⟨some k4, .callF n_parser_reader_take [(.t k3), (.v (.int .i64 (.lit 2)))], none⟩,
 ⟨some k5, .field false 2 1 (.t k4), none⟩,
 ⟨some k2, .mov (.t k5), none⟩]
def parser_reader_number : PFn := ⟨(.seq (.ops parser_reader_number_r0)
 (.seq (.ops parser_reader_number_r1)
 .ret)),
 [.tmp k2]⟩
def lexer_tokens_c1_r0 : List POper := [⟨some k6, .load false 1 (.t k1), none⟩,
 ⟨some k7, .callF n_lexer_skip [(.t k6), (.v (.int .i64 (.lit 0)))], none⟩,
 ⟨some k3, .mov (.t k7), none⟩]
def lexer_tokens_c1_r1 : List POper := [⟨some k8, .mov (.t k3), none⟩,
 ⟨some k9, .load false 1 (.t k1), none⟩,
 ⟨some k10, .lenS (.t k9), none⟩,
 ⟨some k11, .bin .lss (.t k8) (.t k10), none⟩]
def lexer_tokens_c1_r2 : List POper := [⟨some k16, .load false 1 (.t k1), none⟩,
 ⟨some k17, .mov (.t k3), none⟩,
 ⟨some k18, .sliceS (.t k16) (some (.t k17)) none, none⟩,
 ⟨some k19, .callF n_lexer_next [(.t k18)], none⟩,
 ⟨some k15, .mov (.t k19), none⟩,
 ⟨some k20, .extract (.t k15) 0, none⟩,
 ⟨some k21, .extract (.t k15) 1, none⟩,
 ⟨some k4, .new [(.int .i64 (.lit 0)), (.int .i64 (.lit 0)), (.int .i64 (.lit 0)), (.str 0 0)], none⟩,
 ⟨none, .store 4 (.t k4) (.t k20), none⟩,
 ⟨some k5, .mov (.t k21), none⟩]
def lexer_tokens_c1_r3 : List POper := [⟨some k22, .mov (.t k3), none⟩,
 ⟨some k23, .fieldA 1 (.t k4), none⟩,
 ⟨none, .store 1 (.t k23) (.t k22), none⟩]
def lexer_tokens_c1_r4 : List POper := [⟨some k24, .mov (.t k0), none⟩,
 ⟨some k25, .load true 4 (.t k4), none⟩,
 ⟨some k26, .mov (.t k5), none⟩,
 ⟨some k27, .callV (.t k24) [(.t k25), (.t k26)], none⟩,
 ⟨some k28, .un .not (.t k27), none⟩,
 ⟨some k29, .mov (.t k28), none⟩,
 ⟨some k30, .mov (.t k5), some (k29, false)⟩,
 ⟨some k31, .bin .neq (.t k30) (.v (.int .i64 (.lit 0))), some (k29, false)⟩,
 ⟨some k32, .pick (.t k29) (.v (.bool true)) (.t k31), none⟩]
def lexer_tokens_c1_r5 : List POper := [⟨some k33, .mov (.t k3), none⟩,
 ⟨some k34, .fieldA 3 (.t k4), none⟩,
 ⟨some k35, .load false 1 (.t k34), none⟩,
 ⟨some k36, .lenS (.t k35), none⟩,
 ⟨some k37, .bin .add (.t k33) (.t k36), none⟩,
 ⟨some k3, .mov (.t k37), none⟩]
def lexer_tokens_c1_r6 : List POper := [⟨some k12, .load false 1 (.t k1), none⟩,
 ⟨some k13, .mov (.t k3), none⟩,
 ⟨some k14, .callF n_lexer_skip [(.t k12), (.t k13)], none⟩,
 ⟨some k3, .mov (.t k14), none⟩]
def lexer_tokens_c1_l0 : PCode := (.seq (.seq (.ops lexer_tokens_c1_r1)
 (.cond (.t k11)
 .skip
 (.exit 0)))
 (.seq (.block 1 (.seq (.ops lexer_tokens_c1_r2)
 (.seq (.ops lexer_tokens_c1_r3)
 (.seq (.seq (.ops lexer_tokens_c1_r4)
 (.cond (.t k32)
 .ret
 .skip))
 (.ops lexer_tokens_c1_r5)))))
 (.ops lexer_tokens_c1_r6)))
def lexer_tokens_c1 : PFn := ⟨(.seq (.ops lexer_tokens_c1_r0)
 (.block 0 (.loop lexer_tokens_c1_l0))),
 []⟩
def lexer_skip_r0 : List POper := [⟨some k4, .mov (.v (.int .i64 (.lit 0))), none⟩]
def lexer_skip_r1 : List POper := [⟨some k5, .mov (.t k1), none⟩,
 ⟨some k6, .mov (.t k0), none⟩,
 ⟨some k7, .lenS (.t k6), none⟩,
 ⟨some k8, .bin .lss (.t k5) (.t k7), none⟩]
def lexer_skip_r2 : List POper := [⟨some k9, .mov (.t k0), none⟩,
 ⟨some k10, .mov (.t k1), none⟩,
 ⟨some k11, .indexS (.t k9) (.t k10), none⟩]
def lexer_skip_r3 : List POper := [⟨some k14, .bin .eql (.t k11) (.v (.int .u8 (.lit 32))), none⟩,
 ⟨some k13, .mov (.t k14), none⟩]
def lexer_skip_r4 : List POper := [⟨some k15, .bin .eql (.t k11) (.v (.int .u8 (.lit 9))), none⟩,
 ⟨some k13, .mov (.t k15), none⟩]
def lexer_skip_r5 : List POper := [⟨some k16, .bin .eql (.t k11) (.v (.int .u8 (.lit 10))), none⟩,
 ⟨some k13, .mov (.t k16), none⟩]
def lexer_skip_r6 : List POper := [⟨some k17, .mov (.t k1), none⟩,
 ⟨some k18, .bin .add (.t k17) (.v (.int .i64 (.lit 1))), none⟩,
 ⟨some k1, .mov (.t k18), none⟩]
def lexer_skip_r7 : List POper := [⟨some k20, .bin .eql (.t k11) (.v (.int .u8 (.lit 35))), none⟩,
 ⟨some k19, .mov (.t k20), none⟩]
def lexer_skip_r8 : List POper := [⟨some k21, .mov (.t k1), none⟩,
 ⟨some k22, .mov (.t k0), none⟩,
 ⟨some k23, .lenS (.t k22), none⟩,
 ⟨some k24, .bin .lss (.t k21) (.t k23), none⟩,
 ⟨some k25, .mov (.t k24), none⟩,
 ⟨some k26, .mov (.t k0), some (k25, true)⟩,
 ⟨some k27, .mov (.t k1), some (k25, true)⟩,
 ⟨some k28, .indexS (.t k26) (.t k27), some (k25, true)⟩,
 ⟨some k29, .bin .neq (.t k28) (.v (.int .u8 (.lit 10))), some (k25, true)⟩,
 ⟨some k30, .pick (.t k25) (.t k29) (.v (.bool false)), none⟩]
def lexer_skip_r9 : List POper := [⟨some k31, .mov (.t k1), none⟩,
 ⟨some k32, .bin .add (.t k31) (.v (.int .i64 (.lit 1))), none⟩,
 ⟨some k1, .mov (.t k32), none⟩]
def lexer_skip_l1 : PCode := (.seq (.seq (.ops lexer_skip_r8)
 (.cond (.t k30)
 .skip
 (.exit 3)))
 (.block 4 (.ops lexer_skip_r9)))
def lexer_skip_r10 : List POper := [⟨some k12, .mov (.t k1), none⟩,
 ⟨some k4, .mov (.t k12), none⟩]
def lexer_skip_l0 : PCode := (.seq (.seq (.ops lexer_skip_r1)
 (.cond (.t k8)
 .skip
 (.exit 0)))
 (.block 1 (.seq (.ops lexer_skip_r2)
 (.block 2 (.seq (.seq (.ops lexer_skip_r3)
 (.cond (.t k13)
 .skip
 (.seq (.ops lexer_skip_r4)
 (.cond (.t k13)
 .skip
 (.ops lexer_skip_r5)))))
 (.cond (.t k13)
 (.ops lexer_skip_r6)
 (.seq (.ops lexer_skip_r7)
 (.cond (.t k19)
 (.block 3 (.loop lexer_skip_l1))
 (.seq (.ops lexer_skip_r10)
 .ret)))))))))
def lexer_skip_r11 : List POper := [⟨some k33, .mov (.t k1), none⟩,
 ⟨some k4, .mov (.t k33), none⟩]
def lexer_skip : PFn := ⟨(.seq (.ops lexer_skip_r0)
 (.seq (.block 0 (.loop lexer_skip_l0))
 (.seq (.ops lexer_skip_r11)
 .ret))),
 [.tmp k4]⟩
def lexer_next_r0 : List POper := [⟨some k2, .new [(.int .i64 (.lit 0)), (.int .i64 (.lit 0)), (.int .i64 (.lit 0)), (.str 0 0)], none⟩,
 ⟨some k3, .mov (.v (.int .i64 (.lit 0))), none⟩]
def lexer_next_r1 : List POper := [⟨some k4, .new [(.int .i64 (.lit 0)), (.int .i64 (.lit 0)), (.int .i64 (.lit 0)), (.str 0 0)], none⟩]
def lexer_next_r2 : List POper := [⟨some k5, .mov (.v (.bool true)), none⟩]
def lexer_next_r3 : List POper := [⟨some k7, .mov (.t k0), none⟩,
 ⟨some k8, .indexS (.t k7) (.v (.int .i64 (.lit 0))), none⟩,
 ⟨some k6, .mov (.t k8), none⟩]
def lexer_next_r4 : List POper := [⟨some k13, .mov (.t k6), none⟩,
 ⟨some k14, .callF n_lexer_small [(.t k13)], none⟩,
 ⟨some k12, .mov (.t k14), none⟩]
def lexer_next_r5 : List POper := [⟨some k15, .mov (.t k0), none⟩,
 ⟨some k16, .callF n_lexer_span [(.t k15), (.v (.fn n_lexer_inWord [] []))], none⟩,
 ⟨some k17, .build [(.int .i64 (.lit 0)), (.int .i64 (.lit 0)), (.int .i64 (.lit 0)), (.str 0 0)] [(0, 1, (.v (.int .i64 (.lit 0)))), (3, 1, (.t k16))], none⟩,
 ⟨none, .store 4 (.t k4) (.t k17), none⟩]
def lexer_next_r6 : List POper := [⟨some k18, .fieldA 3 (.t k4), none⟩,
 ⟨some k19, .load false 1 (.t k18), none⟩,
 ⟨some k20, .lenS (.t k19), none⟩,
 ⟨some k21, .bin .leq (.t k20) (.v (.int .i64 (.lit 16))), none⟩,
 ⟨some k5, .mov (.t k21), none⟩]
def lexer_next_r7 : List POper := [⟨some k23, .mov (.t k6), none⟩,
 ⟨some k24, .callF n_lexer_great [(.t k23)], none⟩,
 ⟨some k22, .mov (.t k24), none⟩]
def lexer_next_r8 : List POper := [⟨some k25, .mov (.t k0), none⟩,
 ⟨some k26, .callF n_lexer_span [(.t k25), (.v (.fn 285 [] []))], none⟩,
 ⟨some k27, .build [(.int .i64 (.lit 0)), (.int .i64 (.lit 0)), (.int .i64 (.lit 0)), (.str 0 0)] [(0, 1, (.v (.int .i64 (.lit 1)))), (3, 1, (.t k26))], none⟩,
 ⟨none, .store 4 (.t k4) (.t k27), none⟩]
def lexer_next_r9 : List POper := [⟨some k28, .fieldA 3 (.t k4), none⟩,
 ⟨some k29, .load false 1 (.t k28), none⟩,
 ⟨some k30, .lenS (.t k29), none⟩,
 ⟨some k31, .bin .leq (.t k30) (.v (.int .i64 (.lit 16))), none⟩,
 ⟨some k5, .mov (.t k31), none⟩]
def lexer_next_r10 : List POper := [⟨some k33, .mov (.t k6), none⟩,
 ⟨some k34, .callF n_lexer_digit [(.t k33)], none⟩,
 ⟨some k32, .mov (.t k34), none⟩]
def lexer_next_r11 : List POper := [⟨some k35, .mov (.t k0), none⟩,
 ⟨some k36, .callF n_lexer_span [(.t k35), (.v (.fn n_lexer_digit [] []))], none⟩,
 ⟨some k37, .build [(.int .i64 (.lit 0)), (.int .i64 (.lit 0)), (.int .i64 (.lit 0)), (.str 0 0)] [(0, 1, (.v (.int .i64 (.lit 2)))), (3, 1, (.t k36))], none⟩,
 ⟨none, .store 4 (.t k4) (.t k37), none⟩]
def lexer_next_r12 : List POper := [⟨some k38, .fieldA 3 (.t k4), none⟩,
 ⟨some k39, .load false 1 (.t k38), none⟩,
 ⟨some k40, .callF n_lexer_number [(.t k39)], none⟩,
 ⟨some k41, .fieldA 2 (.t k4), none⟩,
 ⟨none, .store 1 (.t k41) (.t k40), none⟩]
def lexer_next_r13 : List POper := [⟨some k42, .fieldA 2 (.t k4), none⟩,
 ⟨some k43, .load false 1 (.t k42), none⟩,
 ⟨some k44, .bin .leq (.t k43) (.v (.int .i64 (.lit 1099511627776))), none⟩,
 ⟨some k5, .mov (.t k44), none⟩]
def lexer_next_r14 : List POper := [⟨some k9, .mov (.t k0), none⟩,
 ⟨some k10, .callF n_lexer_symbol [(.t k9)], none⟩,
 ⟨some k11, .build [(.int .i64 (.lit 0)), (.int .i64 (.lit 0)), (.int .i64 (.lit 0)), (.str 0 0)] [(0, 1, (.v (.int .i64 (.lit 3)))), (3, 1, (.t k10))], none⟩,
 ⟨none, .store 4 (.t k4) (.t k11), none⟩]
def lexer_next_r15 : List POper := [⟨some k45, .fieldA 3 (.t k4), none⟩,
 ⟨some k46, .load false 1 (.t k45), none⟩,
 ⟨some k47, .bin .eql (.t k46) (.v (.str 0 0)), none⟩]
def lexer_next_r16 : List POper := [⟨some k48, .build [(.int .i64 (.lit 0)), (.int .i64 (.lit 0)), (.int .i64 (.lit 0)), (.str 0 0)] [], none⟩,
 ⟨none, .store 4 (.t k2) (.t k48), none⟩,
 ⟨some k3, .mov (.v (.int .i64 (.lit 2))), none⟩]
def lexer_next_r17 : List POper := [⟨some k49, .mov (.t k5), none⟩,
 ⟨some k50, .un .not (.t k49), none⟩]
def lexer_next_r18 : List POper := [⟨some k51, .build [(.int .i64 (.lit 0)), (.int .i64 (.lit 0)), (.int .i64 (.lit 0)), (.str 0 0)] [], none⟩,
 ⟨none, .store 4 (.t k2) (.t k51), none⟩,
 ⟨some k3, .mov (.v (.int .i64 (.lit 4))), none⟩]
def lexer_next_r19 : List POper := [⟨some k52, .load true 4 (.t k4), none⟩,
 ⟨none, .store 4 (.t k2) (.t k52), none⟩,
 ⟨some k3, .mov (.v (.int .i64 (.lit 0))), none⟩]
def lexer_next : PFn := ⟨(.seq (.ops lexer_next_r0)
 (.seq (.ops lexer_next_r1)
 (.seq (.ops lexer_next_r2)
 (.seq (.seq (.ops lexer_next_r3)
 (.block 0 (.seq (.ops lexer_next_r4)
 (.cond (.t k12)
 (.seq (.ops lexer_next_r5)
 (.ops lexer_next_r6))
 (.seq (.ops lexer_next_r7)
 (.cond (.t k22)
 (.seq (.ops lexer_next_r8)
 (.ops lexer_next_r9))
 (.seq (.ops lexer_next_r10)
 (.cond (.t k32)
 (.seq (.ops lexer_next_r11)
 (.seq (.ops lexer_next_r12)
 (.ops lexer_next_r13)))
 (.ops lexer_next_r14)))))))))
 (.seq (.seq (.ops lexer_next_r15)
 (.cond (.t k47)
 (.seq (.ops lexer_next_r16)
 .ret)
 .skip))
 (.seq (.seq (.ops lexer_next_r17)
 (.cond (.t k50)
 (.seq (.ops lexer_next_r18)
 .ret)
 .skip))
 (.seq (.ops lexer_next_r19)
 .ret))))))),
 [.cell k2 true 4, .tmp k3]⟩
def parser_reader_kind_r0 : List POper := [⟨some k4, .mov (.v (.bool false)), none⟩]
def parser_reader_kind_r1 : List SItem := [.L 0 ⟨some k5, .mov (.t k0), none⟩,
 .L 1 ⟨some k6, .nilc (.t k5), none⟩,
 .L 2 ⟨some k7, .fieldA 1 (.t k6), none⟩,
 .L 3 ⟨some k8, .load false 1 (.t k7), none⟩,
 .L 4 ⟨some k9, .mov (.t k0), none⟩,
 .L 5 ⟨some k10, .nilc (.t k9), none⟩,
 .L 6 ⟨some k11, .fieldA 0 (.t k10), none⟩,
 .L 7 ⟨some k12, .load false 1 (.t k11), none⟩,
 .L 8 ⟨some k13, .lenL (.t k12), none⟩,
 .L 9 ⟨some k14, .bin .lss (.t k8) (.t k13), none⟩,
 .L 10 ⟨some k15, .mov (.t k14), none⟩,
 .L 11 ⟨some k16, .mov (.t k0), some (k15, true)⟩,
 .L 12 ⟨some k17, .nilc (.t k16), some (k15, true)⟩,
 .L 13 ⟨some k18, .fieldA 0 (.t k17), some (k15, true)⟩,
 .L 14 ⟨some k19, .load false 1 (.t k18), some (k15, true)⟩,
 .L 15 ⟨some k20, .mov (.t k0), some (k15, true)⟩,
 .L 16 ⟨some k21, .nilc (.t k20), some (k15, true)⟩,
 .L 17 ⟨some k22, .fieldA 1 (.t k21), some (k15, true)⟩,
 .L 18 ⟨some k23, .load false 1 (.t k22), some (k15, true)⟩,
 .L 19 ⟨some k24, .indexL 4 (.t k19) (.t k23), some (k15, true)⟩,
 .L 20 ⟨some k25, .fieldA 0 (.t k24), some (k15, true)⟩,
 .L 21 ⟨some k26, .load false 1 (.t k25), some (k15, true)⟩,
 .L 22 ⟨some k27, .mov (.t k1), some (k15, true)⟩,
 .L 23 ⟨some k28, .bin .eql (.t k26) (.t k27), some (k15, true)⟩,
 .L 24 ⟨some k29, .pick (.t k15) (.t k28) (.v (.bool false)), none⟩,
 .L 25 ⟨some k4, .mov (.t k29), none⟩]
def parser_reader_kind : PFn := ⟨(.seq (.ops parser_reader_kind_r0)
 (.seq (.staged parser_reader_kind_r1 ⟨[k5, k6, k7, k8, k9, k10, k11, k12, k13, k14, k15, k16, k17, k18, k19, k20, k21, k22, k23, k24, k25, k26, k27, k28, k29, k4], []⟩)
 .ret)),
 [.tmp k4]⟩
def parser_isReserved_r0 : List POper := [⟨some k2, .mov (.v (.bool false)), none⟩]
def parser_isReserved_r1 : List POper := [⟨some k4, .mov (.v (.int .i64 (.lit 0))), none⟩]
def parser_isReserved_r2 : List POper := [⟨some k5, .bin .lss (.t k4) (.v (.int .i64 (.lit 37))), none⟩]
def parser_isReserved_r3 : List POper := [⟨some k6, .mov (.t k4), none⟩,
 ⟨some k3, .mov (.t k6), none⟩]
def parser_isReserved_r4 : List POper := [⟨some k7, .mov (.t k3), none⟩,
 ⟨some k8, .indexA 37 1 (.v (.ptr k0 0)) (.t k7), none⟩,
 ⟨some k9, .load false 1 (.t k8), none⟩,
 ⟨some k10, .mov (.t k0), none⟩,
 ⟨some k11, .bin .eql (.t k9) (.t k10), none⟩]
def parser_isReserved_r5 : List POper := [⟨some k2, .mov (.v (.bool true)), none⟩]
def parser_isReserved_r6 : List POper := [⟨some k12, .bin .add (.t k4) (.v (.int .i64 (.lit 1))), none⟩,
 ⟨some k4, .mov (.t k12), none⟩]
def parser_isReserved_l0 : PCode := (.seq (.ops parser_isReserved_r2)
 (.seq (.cond (.t k5)
 .skip
 (.exit 0))
 (.seq (.block 1 (.seq (.ops parser_isReserved_r3)
 (.seq (.ops parser_isReserved_r4)
 (.cond (.t k11)
 (.seq (.ops parser_isReserved_r5)
 .ret)
 .skip))))
 (.ops parser_isReserved_r6))))
def parser_isReserved_r7 : List POper := [⟨some k2, .mov (.v (.bool false)), none⟩]
def parser_isReserved : PFn := ⟨(.seq (.ops parser_isReserved_r0)
 (.seq (.seq (.ops parser_isReserved_r1)
 (.block 0 (.loop parser_isReserved_l0)))
 (.seq (.ops parser_isReserved_r7)
 .ret))),
 [.tmp k2]⟩
def parser_reader_operator_r0 : List POper := [⟨some k4, .mov (.v (.str 0 0)), none⟩]
def parser_reader_operator_r1 : List POper := [⟨some k7, .mov (.t k1), none⟩,
 ⟨some k8, .lenL (.t k7), none⟩,
 ⟨some k9, .mov (.v (.int .i64 (.lit 0))), none⟩]
def parser_reader_operator_r2 : List POper := [⟨some k10, .bin .lss (.t k9) (.t k8), none⟩]
def parser_reader_operator_r3 : List POper := [⟨some k11, .indexL 1 (.t k7) (.t k9), none⟩,
 ⟨some k12, .load false 1 (.t k11), none⟩,
 ⟨some k6, .mov (.t k12), none⟩]
def parser_reader_operator_r4 : List POper := [⟨some k13, .mov (.t k0), none⟩,
 ⟨some k14, .mov (.t k6), none⟩,
 ⟨some k15, .callF n_parser_reader_accept [(.t k13), (.t k14)], none⟩]
def parser_reader_operator_r5 : List POper := [⟨some k16, .mov (.t k6), none⟩,
 ⟨some k4, .mov (.t k16), none⟩]
def parser_reader_operator_r6 : List POper := [⟨some k17, .bin .add (.t k9) (.v (.int .i64 (.lit 1))), none⟩,
 ⟨some k9, .mov (.t k17), none⟩]
def parser_reader_operator_l0 : PCode := (.seq (.ops parser_reader_operator_r2)
 (.seq (.cond (.t k10)
 .skip
 (.exit 0))
 (.seq (.block 1 (.seq (.ops parser_reader_operator_r3)
 (.seq (.ops parser_reader_operator_r4)
 (.cond (.t k15)
 (.seq (.ops parser_reader_operator_r5)
 .ret)
 .skip))))
 (.ops parser_reader_operator_r6))))
def parser_reader_operator_r7 : List POper := [⟨some k4, .mov (.v (.str 0 0)), none⟩]
def parser_reader_operator : PFn := ⟨(.seq (.ops parser_reader_operator_r0)
 (.seq (.seq (.ops parser_reader_operator_r1)
 (.block 0 (.loop parser_reader_operator_l0)))
 (.seq (.ops parser_reader_operator_r7)
 .ret))),
 [.tmp k4]⟩
def parser_reader_not_r0 : List POper := [⟨some k2, .new [(.int .i64 (.lit 0)), (.str 0 0), (.int .i64 (.lit 0)), .nils, .nils, .nils, (.int .i64 (.lit 0))], none⟩]
def parser_reader_not_r1 : List POper := [⟨some k4, .mov (.t k0), none⟩,
 ⟨some k5, .callF n_parser_reader_offset [(.t k4)], none⟩,
 ⟨some k3, .mov (.t k5), none⟩]
def parser_reader_not_r2 : List POper := [⟨some k6, .mov (.t k0), none⟩,
 ⟨some k7, .callF n_parser_reader_accept [(.t k6), (.v (.str 3 7630702))], none⟩]
def parser_reader_not_r3 : List POper := [⟨some k8, .mov (.t k3), none⟩,
 ⟨some k9, .mov (.t k0), none⟩,
 ⟨some k10, .callF n_parser_reader_not [(.t k9)], none⟩,
 ⟨some k11, .bslice 7 1 [(.int .i64 (.lit 0)), (.str 0 0), (.int .i64 (.lit 0)), .nils, .nils, .nils, (.int .i64 (.lit 0))] [(0, 7, (.t k10))], none⟩,
 ⟨some k12, .build [(.int .i64 (.lit 0)), (.str 0 0), (.int .i64 (.lit 0)), .nils, .nils, .nils, (.int .i64 (.lit 0))] [(0, 1, (.v (.int .i64 (.lit 9)))), (1, 1, (.v (.str 3 7630702))), (6, 1, (.t k8)), (5, 1, (.t k11))], none⟩,
 ⟨none, .store 7 (.t k2) (.t k12), none⟩]
def parser_reader_not_r4 : List POper := [⟨some k13, .mov (.t k0), none⟩,
 ⟨some k14, .callF n_parser_reader_compare [(.t k13)], none⟩,
 ⟨none, .store 7 (.t k2) (.t k14), none⟩]
def parser_reader_not : PFn := ⟨(.seq (.ops parser_reader_not_r0)
 (.seq (.ops parser_reader_not_r1)
 (.seq (.seq (.ops parser_reader_not_r2)
 (.cond (.t k7)
 (.seq (.ops parser_reader_not_r3)
 .ret)
 .skip))
 (.seq (.ops parser_reader_not_r4)
 .ret)))),
 [.cell k2 true 7]⟩
def parser_single_r0 : List POper := [⟨some k4, .mov (.v (.bool false)), none⟩]
def parser_single_r1 : List POper := [⟨some k8, .mov (.t k0), none⟩,
 ⟨some k9, .lenS (.t k8), none⟩,
 ⟨some k10, .bin .gtr (.t k9) (.v (.int .i64 (.lit 16))), none⟩]
def parser_single_r2 : List POper := [⟨some k4, .mov (.v (.bool false)), none⟩]
def parser_single_r3 : List POper := [⟨some k12, .mov (.t k0), none⟩,
 ⟨some k13, .callF n_lexer_Tokens [(.t k12)], none⟩,
 ⟨some k11, .mov (.t k13), none⟩,
 ⟨some k14, .extract (.t k11) 0, none⟩,
 ⟨some k15, .extract (.t k11) 1, none⟩,
 ⟨some k16, .extract (.t k11) 2, none⟩,
 ⟨some k5, .mov (.t k14), none⟩,
 ⟨some k6, .mov (.t k15), none⟩,
 ⟨some k7, .mov (.t k16), none⟩]
def parser_single_r4 : List POper := [⟨some k17, .mov (.t k7), none⟩,
 ⟨some k18, .bin .eql (.t k17) (.v (.int .i64 (.lit 0))), none⟩,
 ⟨some k19, .mov (.t k18), none⟩,
 ⟨some k20, .mov (.t k5), some (k19, true)⟩,
 ⟨some k21, .lenL (.t k20), some (k19, true)⟩,
 ⟨some k22, .bin .eql (.t k21) (.v (.int .i64 (.lit 1))), some (k19, true)⟩,
 ⟨some k23, .pick (.t k19) (.t k22) (.v (.bool false)), none⟩,
 ⟨some k24, .mov (.t k23), none⟩,
 ⟨some k25, .mov (.t k5), some (k24, true)⟩,
 ⟨some k26, .indexL 4 (.t k25) (.v (.int .i64 (.lit 0))), some (k24, true)⟩,
 ⟨some k27, .fieldA 0 (.t k26), some (k24, true)⟩,
 ⟨some k28, .load false 1 (.t k27), some (k24, true)⟩,
 ⟨some k29, .mov (.t k1), some (k24, true)⟩,
 ⟨some k30, .bin .eql (.t k28) (.t k29), some (k24, true)⟩,
 ⟨some k31, .pick (.t k24) (.t k30) (.v (.bool false)), none⟩,
 ⟨some k32, .mov (.t k31), none⟩,
 ⟨some k33, .mov (.t k5), some (k32, true)⟩,
 ⟨some k34, .indexL 4 (.t k33) (.v (.int .i64 (.lit 0))), some (k32, true)⟩,
 ⟨some k35, .fieldA 3 (.t k34), some (k32, true)⟩,
 ⟨some k36, .load false 1 (.t k35), some (k32, true)⟩,
 ⟨some k37, .mov (.t k0), some (k32, true)⟩,
 ⟨some k38, .bin .eql (.t k36) (.t k37), some (k32, true)⟩,
 ⟨some k39, .pick (.t k32) (.t k38) (.v (.bool false)), none⟩,
 ⟨some k4, .mov (.t k39), none⟩]
def parser_single : PFn := ⟨(.seq (.ops parser_single_r0)
 (.seq (.seq (.ops parser_single_r1)
 (.cond (.t k10)
 (.seq (.ops parser_single_r2)
 .ret)
 .skip))
 (.seq (.ops parser_single_r3)
 (.seq (.ops parser_single_r4)
 .ret)))),
 [.tmp k4]⟩
def eval_element_r0 : List POper := [⟨some k2, .mov (.v .nils), none⟩,
 ⟨some k3, .mov (.v (.int .i64 (.lit 0))), none⟩]
def eval_element_r1 : List SItem := [.L 0 ⟨some k6, .mov (.t k0), none⟩,
 .L 1 ⟨some k7, .indexL 5 (.t k6) (.v (.int .i64 (.lit 0))), none⟩,
 .L 2 ⟨some k8, .load true 5 (.t k7), none⟩,
 .L 4 ⟨some k10, .mov (.t k0), none⟩,
 .L 5 ⟨some k11, .indexL 5 (.t k10) (.v (.int .i64 (.lit 1))), none⟩,
 .L 6 ⟨some k12, .load true 5 (.t k11), none⟩,
 .H 3 ⟨some k9, .callF n_eval_list [(.t k8)], none⟩ [],
 .R [(6, ⟨some k12, .load true 5 (.t k11), none⟩)],
 .H 7 ⟨some k13, .callF n_eval_integer [(.t k12)], none⟩ [],
 .R [],
 .L 8 ⟨some k4, .mov (.t k9), none⟩,
 .L 9 ⟨some k5, .mov (.t k13), none⟩]
def eval_element_r2 : List POper := [⟨some k14, .mov (.t k5), none⟩,
 ⟨some k15, .bin .lss (.t k14) (.v (.int .i64 (.lit 0))), none⟩,
 ⟨some k16, .mov (.t k15), none⟩,
 ⟨some k17, .mov (.t k5), some (k16, false)⟩,
 ⟨some k18, .mov (.t k4), some (k16, false)⟩,
 ⟨some k19, .lenL (.t k18), some (k16, false)⟩,
 ⟨some k20, .bin .geq (.t k17) (.t k19), some (k16, false)⟩,
 ⟨some k21, .pick (.t k16) (.v (.bool true)) (.t k20), none⟩]
def eval_element_r3 : List POper := [⟨some k22, .callF n_eval_end [(.v (.int .i64 (.lit 13)))], none⟩]
def eval_element_r4 : List POper := [⟨some k23, .mov (.t k4), none⟩,
 ⟨some k24, .mov (.t k5), none⟩,
 ⟨some k2, .mov (.t k23), none⟩,
 ⟨some k3, .mov (.t k24), none⟩]
def eval_element : PFn := ⟨(.seq (.ops eval_element_r0)
 (.seq (.staged eval_element_r1 ⟨[k6, k7, k8, k9, k10, k11, k12, k13, k4, k5], []⟩)
 (.seq (.seq (.ops eval_element_r2)
 (.cond (.t k21)
 (.ops eval_element_r3)
 .skip))
 (.seq (.ops eval_element_r4)
 .ret)))),
 [.tmp k2, .tmp k3]⟩
def eval_integer_r0 : List POper := [⟨some k1, .box (.t k0), none⟩,
 ⟨some k2, .mov (.v (.int .i64 (.lit 0))), none⟩]
def eval_integer_r1 : List POper := [⟨some k3, .fieldA 0 (.t k1), none⟩,
 ⟨some k4, .fieldA 0 (.t k3), none⟩,
 ⟨some k5, .load false 1 (.t k4), none⟩,
 ⟨some k6, .bin .eql (.t k5) (.v (.int .i64 (.lit 0))), none⟩,
 ⟨some k7, .callF n_eval_need [(.t k6)], none⟩]
def eval_integer_r2 : List POper := [⟨some k8, .fieldA 0 (.t k1), none⟩,
 ⟨some k9, .fieldA 1 (.t k8), none⟩,
 ⟨some k10, .load false 1 (.t k9), none⟩,
 ⟨some k2, .mov (.t k10), none⟩]
def eval_integer : PFn := ⟨(.seq (.ops eval_integer_r0)
 (.seq (.ops eval_integer_r1)
 (.seq (.ops eval_integer_r2)
 .ret))),
 [.tmp k2]⟩
def lexer_small_r0 : List POper := [⟨some k2, .mov (.v (.bool false)), none⟩]
def lexer_small_r1 : List POper := [⟨some k3, .mov (.t k0), none⟩,
 ⟨some k4, .bin .geq (.t k3) (.v (.int .u8 (.lit 97))), none⟩,
 ⟨some k5, .mov (.t k4), none⟩,
 ⟨some k6, .mov (.t k0), some (k5, true)⟩,
 ⟨some k7, .bin .leq (.t k6) (.v (.int .u8 (.lit 122))), some (k5, true)⟩,
 ⟨some k8, .pick (.t k5) (.t k7) (.v (.bool false)), none⟩,
 ⟨some k2, .mov (.t k8), none⟩]
def lexer_small : PFn := ⟨(.seq (.ops lexer_small_r0)
 (.seq (.ops lexer_small_r1)
 .ret)),
 [.tmp k2]⟩
def lexer_span_r0 : List POper := [⟨some k4, .mov (.v (.str 0 0)), none⟩]
def lexer_span_r1 : List POper := [⟨some k5, .mov (.v (.int .i64 (.lit 0))), none⟩]
def lexer_span_r2 : List POper := [⟨some k6, .mov (.t k5), none⟩,
 ⟨some k7, .mov (.t k0), none⟩,
 ⟨some k8, .lenS (.t k7), none⟩,
 ⟨some k9, .bin .lss (.t k6) (.t k8), none⟩,
 ⟨some k10, .mov (.t k9), none⟩,
 ⟨some k11, .mov (.t k1), some (k10, true)⟩,
 ⟨some k12, .mov (.t k0), some (k10, true)⟩,
 ⟨some k13, .mov (.t k5), some (k10, true)⟩,
 ⟨some k14, .indexS (.t k12) (.t k13), some (k10, true)⟩,
 ⟨some k15, .callV (.t k11) [(.t k14)], some (k10, true)⟩,
 ⟨some k16, .pick (.t k10) (.t k15) (.v (.bool false)), none⟩]
def lexer_span_r3 : List POper := [⟨some k17, .mov (.t k5), none⟩,
 ⟨some k18, .bin .add (.t k17) (.v (.int .i64 (.lit 1))), none⟩,
 ⟨some k5, .mov (.t k18), none⟩]
def lexer_span_l0 : PCode := (.seq (.seq (.ops lexer_span_r2)
 (.cond (.t k16)
 .skip
 (.exit 0)))
 (.block 1 (.ops lexer_span_r3)))
def lexer_span_r4 : List POper := [⟨some k19, .mov (.t k0), none⟩,
 ⟨some k20, .mov (.t k5), none⟩,
 ⟨some k21, .sliceS (.t k19) none (some (.t k20)), none⟩,
 ⟨some k4, .mov (.t k21), none⟩]
def lexer_span : PFn := ⟨(.seq (.ops lexer_span_r0)
 (.seq (.ops lexer_span_r1)
 (.seq (.block 0 (.loop lexer_span_l0))
 (.seq (.ops lexer_span_r4)
 .ret)))),
 [.tmp k4]⟩
def lexer_inWord_r0 : List POper := [⟨some k2, .mov (.v (.bool false)), none⟩]
def lexer_inWord_r1 : List POper := [⟨some k3, .mov (.t k0), none⟩,
 ⟨some k4, .callF n_lexer_small [(.t k3)], none⟩,
 ⟨some k5, .mov (.t k4), none⟩,
 ⟨some k6, .mov (.t k0), some (k5, false)⟩,
 ⟨some k7, .callF n_lexer_digit [(.t k6)], some (k5, false)⟩,
 ⟨some k8, .pick (.t k5) (.v (.bool true)) (.t k7), none⟩,
 ⟨some k9, .mov (.t k8), none⟩,
 ⟨some k10, .mov (.t k0), some (k9, false)⟩,
 ⟨some k11, .bin .eql (.t k10) (.v (.int .u8 (.lit 95))), some (k9, false)⟩,
 ⟨some k12, .pick (.t k9) (.v (.bool true)) (.t k11), none⟩,
 ⟨some k2, .mov (.t k12), none⟩]
def lexer_inWord : PFn := ⟨(.seq (.ops lexer_inWord_r0)
 (.seq (.ops lexer_inWord_r1)
 .ret)),
 [.tmp k2]⟩
def lexer_great_r0 : List POper := [⟨some k2, .mov (.v (.bool false)), none⟩]
def lexer_great_r1 : List POper := [⟨some k3, .mov (.t k0), none⟩,
 ⟨some k4, .bin .geq (.t k3) (.v (.int .u8 (.lit 65))), none⟩,
 ⟨some k5, .mov (.t k4), none⟩,
 ⟨some k6, .mov (.t k0), some (k5, true)⟩,
 ⟨some k7, .bin .leq (.t k6) (.v (.int .u8 (.lit 90))), some (k5, true)⟩,
 ⟨some k8, .pick (.t k5) (.t k7) (.v (.bool false)), none⟩,
 ⟨some k2, .mov (.t k8), none⟩]
def lexer_great : PFn := ⟨(.seq (.ops lexer_great_r0)
 (.seq (.ops lexer_great_r1)
 .ret)),
 [.tmp k2]⟩
def lexer_digit_r0 : List POper := [⟨some k2, .mov (.v (.bool false)), none⟩]
def lexer_digit_r1 : List POper := [⟨some k3, .mov (.t k0), none⟩,
 ⟨some k4, .bin .geq (.t k3) (.v (.int .u8 (.lit 48))), none⟩,
 ⟨some k5, .mov (.t k4), none⟩,
 ⟨some k6, .mov (.t k0), some (k5, true)⟩,
 ⟨some k7, .bin .leq (.t k6) (.v (.int .u8 (.lit 57))), some (k5, true)⟩,
 ⟨some k8, .pick (.t k5) (.t k7) (.v (.bool false)), none⟩,
 ⟨some k2, .mov (.t k8), none⟩]
def lexer_digit : PFn := ⟨(.seq (.ops lexer_digit_r0)
 (.seq (.ops lexer_digit_r1)
 .ret)),
 [.tmp k2]⟩
def lexer_number_r0 : List POper := [⟨some k2, .mov (.v (.int .i64 (.lit 0))), none⟩]
def lexer_number_r1 : List POper := [⟨some k3, .mov (.v (.int .i64 (.lit 0))), none⟩]
def lexer_number_r2 : List POper := [⟨some k4, .mov (.v (.int .i64 (.lit 0))), none⟩]
def lexer_number_r3 : List POper := [⟨some k5, .mov (.t k4), none⟩,
 ⟨some k6, .mov (.t k0), none⟩,
 ⟨some k7, .lenS (.t k6), none⟩,
 ⟨some k8, .bin .lss (.t k5) (.t k7), none⟩,
 ⟨some k9, .mov (.t k8), none⟩,
 ⟨some k10, .mov (.t k3), some (k9, true)⟩,
 ⟨some k11, .bin .leq (.t k10) (.v (.int .i64 (.lit 1099511627776))), some (k9, true)⟩,
 ⟨some k12, .pick (.t k9) (.t k11) (.v (.bool false)), none⟩]
def lexer_number_r4 : List POper := [⟨some k15, .mov (.t k3), none⟩,
 ⟨some k16, .bin .mul (.v (.int .i64 (.lit 10))) (.t k15), none⟩,
 ⟨some k17, .mov (.t k0), none⟩,
 ⟨some k18, .mov (.t k4), none⟩,
 ⟨some k19, .indexS (.t k17) (.t k18), none⟩,
 ⟨some k20, .bin .sub (.t k19) (.v (.int .u8 (.lit 48))), none⟩,
 ⟨some k21, .cint .i64 (.t k20), none⟩,
 ⟨some k22, .bin .add (.t k16) (.t k21), none⟩,
 ⟨some k3, .mov (.t k22), none⟩]
def lexer_number_r5 : List POper := [⟨some k13, .mov (.t k4), none⟩,
 ⟨some k14, .bin .add (.t k13) (.v (.int .i64 (.lit 1))), none⟩,
 ⟨some k4, .mov (.t k14), none⟩]
def lexer_number_l0 : PCode := (.seq (.seq (.ops lexer_number_r3)
 (.cond (.t k12)
 .skip
 (.exit 0)))
 (.seq (.block 1 (.ops lexer_number_r4))
 (.ops lexer_number_r5)))
def lexer_number_r6 : List POper := [⟨some k23, .mov (.t k3), none⟩,
 ⟨some k2, .mov (.t k23), none⟩]
def lexer_number : PFn := ⟨(.seq (.ops lexer_number_r0)
 (.seq (.ops lexer_number_r1)
 (.seq (.seq (.ops lexer_number_r2)
 (.block 0 (.loop lexer_number_l0)))
 (.seq (.ops lexer_number_r6)
 .ret)))),
 [.tmp k2]⟩
def lexer_symbol_r0 : List POper := [⟨some k2, .mov (.v (.str 0 0)), none⟩]
def lexer_symbol_r1 : List POper := [⟨some k4, .mov (.v (.int .i64 (.lit 0))), none⟩]
def lexer_symbol_r2 : List POper := [⟨some k5, .bin .lss (.t k4) (.v (.int .i64 (.lit 22))), none⟩]
def lexer_symbol_r3 : List POper := [⟨some k6, .mov (.t k4), none⟩,
 ⟨some k3, .mov (.t k6), none⟩]
def lexer_symbol_r4 : List POper := [⟨some k7, .mov (.t k0), none⟩,
 ⟨some k8, .mov (.t k3), none⟩,
 ⟨some k9, .indexA 22 1 (.v (.ptr k1 0)) (.t k8), none⟩,
 ⟨some k10, .load false 1 (.t k9), none⟩,
 ⟨some k11, .callF n_strings_HasPrefix [(.t k7), (.t k10)], none⟩]
def lexer_symbol_r5 : List POper := [⟨some k12, .mov (.t k3), none⟩,
 ⟨some k13, .indexA 22 1 (.v (.ptr k1 0)) (.t k12), none⟩,
 ⟨some k14, .load false 1 (.t k13), none⟩,
 ⟨some k2, .mov (.t k14), none⟩]
def lexer_symbol_r6 : List POper := [⟨some k15, .bin .add (.t k4) (.v (.int .i64 (.lit 1))), none⟩,
 ⟨some k4, .mov (.t k15), none⟩]
def lexer_symbol_l0 : PCode := (.seq (.ops lexer_symbol_r2)
 (.seq (.cond (.t k5)
 .skip
 (.exit 0))
 (.seq (.block 1 (.seq (.ops lexer_symbol_r3)
 (.seq (.ops lexer_symbol_r4)
 (.cond (.t k11)
 (.seq (.ops lexer_symbol_r5)
 .ret)
 .skip))))
 (.ops lexer_symbol_r6))))
def lexer_symbol_r7 : List POper := [⟨some k2, .mov (.v (.str 0 0)), none⟩]
def lexer_symbol : PFn := ⟨(.seq (.ops lexer_symbol_r0)
 (.seq (.seq (.ops lexer_symbol_r1)
 (.block 0 (.loop lexer_symbol_l0)))
 (.seq (.ops lexer_symbol_r7)
 .ret))),
 [.tmp k2]⟩
def parser_reader_compare_r0 : List POper := [⟨some k2, .new [(.int .i64 (.lit 0)), (.str 0 0), (.int .i64 (.lit 0)), .nils, .nils, .nils, (.int .i64 (.lit 0))], none⟩]
def parser_reader_compare_r1 : List POper := [⟨some k6, .mov (.t k0), none⟩,
 ⟨some k7, .callF n_parser_reader_offset [(.t k6)], none⟩,
 ⟨some k3, .mov (.t k7), none⟩]
def parser_reader_compare_r2 : List POper := [⟨some k8, .mov (.t k0), none⟩,
 ⟨some k9, .callF n_parser_reader_sum [(.t k8)], none⟩,
 ⟨some k4, .new [(.int .i64 (.lit 0)), (.str 0 0), (.int .i64 (.lit 0)), .nils, .nils, .nils, (.int .i64 (.lit 0))], none⟩,
 ⟨none, .store 7 (.t k4) (.t k9), none⟩]
def parser_reader_compare_r3 : List POper := [⟨some k10, .mov (.t k0), none⟩,
 ⟨some k11, .bslice 1 4 [(.str 0 0)] [(0, 1, (.v (.str 2 15677))), (1, 1, (.v (.str 2 15649))), (2, 1, (.v (.str 1 60))), (3, 1, (.v (.str 2 15676)))], none⟩,
 ⟨some k12, .callF n_parser_reader_operator [(.t k10), (.t k11)], none⟩,
 ⟨some k5, .mov (.t k12), none⟩]
def parser_reader_compare_r4 : List POper := [⟨some k13, .mov (.t k5), none⟩,
 ⟨some k14, .bin .neq (.t k13) (.v (.str 0 0)), none⟩]
def parser_reader_compare_r5 : List SItem := [.L 0 ⟨some k15, .mov (.t k5), none⟩,
 .L 1 ⟨some k16, .mov (.t k3), none⟩,
 .L 2 ⟨some k17, .load true 7 (.t k4), none⟩,
 .L 3 ⟨some k18, .mov (.t k0), none⟩,
 .H 4 ⟨some k19, .callF n_parser_reader_sum [(.t k18)], none⟩ [],
 .R [(2, ⟨some k17, .load true 7 (.t k4), none⟩)],
 .A 5 ⟨some k20, .bslice 7 2 [(.int .i64 (.lit 0)), (.str 0 0), (.int .i64 (.lit 0)), .nils, .nils, .nils, (.int .i64 (.lit 0))] [(0, 7, (.t k17)), (7, 7, (.t k19))], none⟩,
 .L 6 ⟨some k21, .build [(.int .i64 (.lit 0)), (.str 0 0), (.int .i64 (.lit 0)), .nils, .nils, .nils, (.int .i64 (.lit 0))] [(0, 1, (.v (.int .i64 (.lit 9)))), (1, 1, (.t k15)), (6, 1, (.t k16)), (5, 1, (.t k20))], none⟩,
 .H 7 ⟨none, .store 7 (.t k2) (.t k21), none⟩ [5],
 .R []]
def parser_reader_compare_r6 : List POper := [⟨some k22, .load true 7 (.t k4), none⟩,
 ⟨none, .store 7 (.t k2) (.t k22), none⟩]
def parser_reader_compare : PFn := ⟨(.seq (.ops parser_reader_compare_r0)
 (.seq (.ops parser_reader_compare_r1)
 (.seq (.ops parser_reader_compare_r2)
 (.seq (.seq (.ops parser_reader_compare_r3)
 (.seq (.ops parser_reader_compare_r4)
 (.cond (.t k14)
 (.seq (.staged parser_reader_compare_r5 ⟨[k15, k16, k17, k18, k19, k20, k21], []⟩)
 .ret)
 .skip)))
 (.seq (.ops parser_reader_compare_r6)
 .ret))))),
 [.cell k2 true 7]⟩
def parser_list_Expr_r0 : List POper := [⟨some k6, .mov (.v .nils), none⟩]
def parser_list_Expr_r1 : List POper := [⟨some k8, .mov (.t k0), none⟩,
 ⟨some k9, .mov (.t k1), none⟩,
 ⟨some k10, .callF n_parser_reader_accept [(.t k8), (.t k9)], none⟩]
def parser_list_Expr_r2 : List POper := [⟨some k6, .mov (.v .nils), none⟩]
def parser_list_Expr_r3 : List POper := [⟨some k11, .mov (.t k0), none⟩,
 ⟨some k12, .mov (.t k2), none⟩,
 ⟨some k13, .callF n_parser_some_Expr [(.t k11), (.v (.str 1 44)), (.t k12)], none⟩,
 ⟨some k7, .mov (.t k13), none⟩]
def parser_list_Expr_r4 : List POper := [⟨some k14, .mov (.t k0), none⟩,
 ⟨some k15, .mov (.t k1), none⟩,
 ⟨some k16, .callF n_parser_reader_expect [(.t k14), (.t k15)], none⟩]
def parser_list_Expr_r5 : List POper := [⟨some k17, .mov (.t k7), none⟩,
 ⟨some k6, .mov (.t k17), none⟩]
def parser_list_Expr : PFn := ⟨(.seq (.ops parser_list_Expr_r0)
 (.seq (.seq (.ops parser_list_Expr_r1)
 (.cond (.t k10)
 (.seq (.ops parser_list_Expr_r2)
 .ret)
 .skip))
 (.seq (.ops parser_list_Expr_r3)
 (.seq (.ops parser_list_Expr_r4)
 (.seq (.ops parser_list_Expr_r5)
 .ret))))),
 [.tmp k6]⟩
def strings_HasPrefix_r0 : List POper := [⟨some k4, .mov (.v (.bool false)), none⟩]
def strings_HasPrefix_r1 : List POper := [⟨some k5, .mov (.t k0), none⟩,
 ⟨some k6, .mov (.t k1), none⟩,
 ⟨some k7, .callF n_stringslite_HasPrefix [(.t k5), (.t k6)], none⟩,
 ⟨some k4, .mov (.t k7), none⟩]
def strings_HasPrefix : PFn := ⟨(.seq (.ops strings_HasPrefix_r0)
 (.seq (.ops strings_HasPrefix_r1)
 .ret)),
 [.tmp k4]⟩
def parser_reader_sum_r0 : List POper := [⟨some k2, .new [(.int .i64 (.lit 0)), (.str 0 0), (.int .i64 (.lit 0)), .nils, .nils, .nils, (.int .i64 (.lit 0))], none⟩]
def parser_reader_sum_r1 : List POper := [⟨some k3, .mov (.t k0), none⟩,
 ⟨some k4, .mov (.t k0), none⟩,
 ⟨some k5, .mkfn n_parser_reader_product [(.t k4)] [], none⟩,
 ⟨some k6, .bslice 1 2 [(.str 0 0)] [(0, 1, (.v (.str 1 43))), (1, 1, (.v (.str 1 45)))], none⟩,
 ⟨some k7, .callF n_parser_reader_grouped [(.t k3), (.t k5), (.t k6)], none⟩,
 ⟨none, .store 7 (.t k2) (.t k7), none⟩]
def parser_reader_sum : PFn := ⟨(.seq (.ops parser_reader_sum_r0)
 (.seq (.ops parser_reader_sum_r1)
 .ret)),
 [.cell k2 true 7]⟩
def parser_some_Expr_r0 : List POper := [⟨some k6, .mov (.v .nils), none⟩]
def parser_some_Expr_r1 : List POper := [⟨some k8, .mov (.t k2), none⟩,
 ⟨some k9, .callV (.t k8) [], none⟩,
 ⟨some k10, .bslice 7 1 [(.int .i64 (.lit 0)), (.str 0 0), (.int .i64 (.lit 0)), .nils, .nils, .nils, (.int .i64 (.lit 0))] [(0, 7, (.t k9))], none⟩,
 ⟨some k7, .mov (.t k10), none⟩]
def parser_some_Expr_r2 : List POper := [⟨some k11, .mov (.t k0), none⟩,
 ⟨some k12, .mov (.t k1), none⟩,
 ⟨some k13, .callF n_parser_reader_accept [(.t k11), (.t k12)], none⟩]
def parser_some_Expr_r3 : List POper := [⟨some k14, .mov (.t k7), none⟩,
 ⟨some k15, .mov (.t k2), none⟩,
 ⟨some k16, .callV (.t k15) [], none⟩,
 ⟨some k17, .bslice 7 1 [(.int .i64 (.lit 0)), (.str 0 0), (.int .i64 (.lit 0)), .nils, .nils, .nils, (.int .i64 (.lit 0))] [(0, 7, (.t k16))], none⟩,
 ⟨some k18, .append 7 (.t k14) (.t k17), none⟩,
 ⟨some k7, .mov (.t k18), none⟩]
def parser_some_Expr_l0 : PCode := (.seq (.seq (.ops parser_some_Expr_r2)
 (.cond (.t k13)
 .skip
 (.exit 0)))
 (.block 1 (.ops parser_some_Expr_r3)))
def parser_some_Expr_r4 : List POper := [⟨some k19, .mov (.t k7), none⟩,
 ⟨some k6, .mov (.t k19), none⟩]
def parser_some_Expr : PFn := ⟨(.seq (.ops parser_some_Expr_r0)
 (.seq (.ops parser_some_Expr_r1)
 (.seq (.block 0 (.loop parser_some_Expr_l0))
 (.seq (.ops parser_some_Expr_r4)
 .ret)))),
 [.tmp k6]⟩
def stringslite_HasPrefix_r0 : List POper := [⟨some k4, .mov (.v (.bool false)), none⟩]
def stringslite_HasPrefix_r1 : List POper := [⟨some k5, .mov (.t k0), none⟩,
 ⟨some k6, .lenS (.t k5), none⟩,
 ⟨some k7, .mov (.t k1), none⟩,
 ⟨some k8, .lenS (.t k7), none⟩,
 ⟨some k9, .bin .geq (.t k6) (.t k8), none⟩,
 ⟨some k10, .mov (.t k9), none⟩,
 ⟨some k11, .mov (.t k0), some (k10, true)⟩,
 ⟨some k12, .mov (.t k1), some (k10, true)⟩,
 ⟨some k13, .lenS (.t k12), some (k10, true)⟩,
 ⟨some k14, .sliceS (.t k11) none (some (.t k13)), some (k10, true)⟩,
 ⟨some k15, .mov (.t k1), some (k10, true)⟩,
 ⟨some k16, .bin .eql (.t k14) (.t k15), some (k10, true)⟩,
 ⟨some k17, .pick (.t k10) (.t k16) (.v (.bool false)), none⟩,
 ⟨some k4, .mov (.t k17), none⟩]
def stringslite_HasPrefix : PFn := ⟨(.seq (.ops stringslite_HasPrefix_r0)
 (.seq (.ops stringslite_HasPrefix_r1)
 .ret)),
 [.tmp k4]⟩
def parser_reader_product_r0 : List POper := [⟨some k2, .new [(.int .i64 (.lit 0)), (.str 0 0), (.int .i64 (.lit 0)), .nils, .nils, .nils, (.int .i64 (.lit 0))], none⟩]
def parser_reader_product_r1 : List POper := [⟨some k3, .mov (.t k0), none⟩,
 ⟨some k4, .mov (.t k0), none⟩,
 ⟨some k5, .mkfn n_parser_reader_operand [(.t k4)] [], none⟩,
 ⟨some k6, .bslice 1 1 [(.str 0 0)] [(0, 1, (.v (.str 1 42)))], none⟩,
 ⟨some k7, .callF n_parser_reader_grouped [(.t k3), (.t k5), (.t k6)], none⟩,
 ⟨none, .store 7 (.t k2) (.t k7), none⟩]
def parser_reader_product : PFn := ⟨(.seq (.ops parser_reader_product_r0)
 (.seq (.ops parser_reader_product_r1)
 .ret)),
 [.cell k2 true 7]⟩
def parser_reader_operand_r0 : List POper := [⟨some k2, .new [(.int .i64 (.lit 0)), (.str 0 0), (.int .i64 (.lit 0)), .nils, .nils, .nils, (.int .i64 (.lit 0))], none⟩]
def parser_reader_operand_r1 : List POper := [⟨some k7, .mov (.t k0), none⟩,
 ⟨some k8, .callF n_parser_reader_offset [(.t k7)], none⟩,
 ⟨some k3, .mov (.t k8), none⟩]
def parser_reader_operand_r2 : List POper := [⟨some k10, .mov (.t k0), none⟩,
 ⟨some k11, .callF n_parser_reader_accept [(.t k10), (.v (.str 1 45))], none⟩,
 ⟨some k9, .mov (.t k11), none⟩]
def parser_reader_operand_r3 : List POper := [⟨some k12, .mov (.t k3), none⟩,
 ⟨some k13, .mov (.t k0), none⟩,
 ⟨some k14, .callF n_parser_reader_number [(.t k13)], none⟩,
 ⟨some k15, .un .neg (.t k14), none⟩,
 ⟨some k16, .build [(.int .i64 (.lit 0)), (.str 0 0), (.int .i64 (.lit 0)), .nils, .nils, .nils, (.int .i64 (.lit 0))] [(0, 1, (.v (.int .i64 (.lit 0)))), (6, 1, (.t k12)), (2, 1, (.t k15))], none⟩,
 ⟨none, .store 7 (.t k2) (.t k16), none⟩]
def parser_reader_operand_r4 : List POper := [⟨some k18, .mov (.t k0), none⟩,
 ⟨some k19, .callF n_parser_reader_kind [(.t k18), (.v (.int .i64 (.lit 2)))], none⟩,
 ⟨some k17, .mov (.t k19), none⟩]
def parser_reader_operand_r5 : List POper := [⟨some k20, .mov (.t k3), none⟩,
 ⟨some k21, .mov (.t k0), none⟩,
 ⟨some k22, .callF n_parser_reader_number [(.t k21)], none⟩,
 ⟨some k23, .build [(.int .i64 (.lit 0)), (.str 0 0), (.int .i64 (.lit 0)), .nils, .nils, .nils, (.int .i64 (.lit 0))] [(0, 1, (.v (.int .i64 (.lit 0)))), (6, 1, (.t k20)), (2, 1, (.t k22))], none⟩,
 ⟨none, .store 7 (.t k2) (.t k23), none⟩]
def parser_reader_operand_r6 : List POper := [⟨some k25, .mov (.t k0), none⟩,
 ⟨some k26, .callF n_parser_reader_accept [(.t k25), (.v (.str 4 1702195828))], none⟩,
 ⟨some k24, .mov (.t k26), none⟩]
def parser_reader_operand_r7 : List POper := [⟨some k27, .mov (.t k3), none⟩,
 ⟨some k28, .build [(.int .i64 (.lit 0)), (.str 0 0), (.int .i64 (.lit 0)), .nils, .nils, .nils, (.int .i64 (.lit 0))] [(0, 1, (.v (.int .i64 (.lit 1)))), (6, 1, (.t k27)), (2, 1, (.v (.int .i64 (.lit 1))))], none⟩,
 ⟨none, .store 7 (.t k2) (.t k28), none⟩]
def parser_reader_operand_r8 : List POper := [⟨some k30, .mov (.t k0), none⟩,
 ⟨some k31, .callF n_parser_reader_accept [(.t k30), (.v (.str 5 435728179558))], none⟩,
 ⟨some k29, .mov (.t k31), none⟩]
def parser_reader_operand_r9 : List POper := [⟨some k32, .mov (.t k3), none⟩,
 ⟨some k33, .build [(.int .i64 (.lit 0)), (.str 0 0), (.int .i64 (.lit 0)), .nils, .nils, .nils, (.int .i64 (.lit 0))] [(0, 1, (.v (.int .i64 (.lit 1)))), (6, 1, (.t k32))], none⟩,
 ⟨none, .store 7 (.t k2) (.t k33), none⟩]
def parser_reader_operand_r10 : List POper := [⟨some k35, .mov (.t k0), none⟩,
 ⟨some k36, .callF n_parser_reader_accept [(.t k35), (.v (.str 1 91))], none⟩,
 ⟨some k34, .mov (.t k36), none⟩]
def parser_reader_operand_r11 : List POper := [⟨some k37, .mov (.t k3), none⟩,
 ⟨some k38, .mov (.t k0), none⟩,
 ⟨some k39, .mov (.t k0), none⟩,
 ⟨some k40, .mkfn n_parser_reader_expr [(.t k39)] [], none⟩,
 ⟨some k41, .callF n_parser_list_Expr [(.t k38), (.v (.str 1 93)), (.t k40)], none⟩,
 ⟨some k42, .build [(.int .i64 (.lit 0)), (.str 0 0), (.int .i64 (.lit 0)), .nils, .nils, .nils, (.int .i64 (.lit 0))] [(0, 1, (.v (.int .i64 (.lit 5)))), (6, 1, (.t k37)), (5, 1, (.t k41))], none⟩,
 ⟨none, .store 7 (.t k2) (.t k42), none⟩]
def parser_reader_operand_r12 : List POper := [⟨some k44, .mov (.t k0), none⟩,
 ⟨some k45, .callF n_parser_reader_accept [(.t k44), (.v (.str 1 40))], none⟩,
 ⟨some k43, .mov (.t k45), none⟩]
def parser_reader_operand_r13 : List POper := [⟨some k46, .mov (.t k0), none⟩,
 ⟨some k47, .callF n_parser_reader_expr [(.t k46)], none⟩,
 ⟨some k4, .new [(.int .i64 (.lit 0)), (.str 0 0), (.int .i64 (.lit 0)), .nils, .nils, .nils, (.int .i64 (.lit 0))], none⟩,
 ⟨none, .store 7 (.t k4) (.t k47), none⟩]
def parser_reader_operand_r14 : List POper := [⟨some k48, .mov (.t k0), none⟩,
 ⟨some k49, .callF n_parser_reader_expect [(.t k48), (.v (.str 1 41))], none⟩]
def parser_reader_operand_r15 : List POper := [⟨some k50, .load true 7 (.t k4), none⟩,
 ⟨none, .store 7 (.t k2) (.t k50), none⟩]
def parser_reader_operand_r16 : List POper := [⟨some k52, .mov (.t k0), none⟩,
 ⟨some k53, .callF n_parser_reader_kind [(.t k52), (.v (.int .i64 (.lit 1)))], none⟩,
 ⟨some k51, .mov (.t k53), none⟩]
def parser_reader_operand_r17 : List POper := [⟨some k54, .mov (.t k3), none⟩,
 ⟨some k55, .mov (.t k0), none⟩,
 ⟨some k56, .callF 172 [(.t k55)], none⟩,
 ⟨some k57, .build [(.int .i64 (.lit 0)), (.str 0 0), (.int .i64 (.lit 0)), .nils, .nils, .nils, (.int .i64 (.lit 0))] [(0, 1, (.v (.int .i64 (.lit 4)))), (6, 1, (.t k54)), (1, 1, (.t k56))], none⟩,
 ⟨some k5, .new [(.int .i64 (.lit 0)), (.str 0 0), (.int .i64 (.lit 0)), .nils, .nils, .nils, (.int .i64 (.lit 0))], none⟩,
 ⟨none, .store 7 (.t k5) (.t k57), none⟩]
def parser_reader_operand_r18 : List POper := [⟨some k58, .mov (.t k0), none⟩,
 ⟨some k59, .callF n_parser_reader_accept [(.t k58), (.v (.str 1 40))], none⟩]
def parser_reader_operand_r19 : List POper := [⟨some k60, .mov (.t k0), none⟩,
 ⟨some k61, .mov (.t k0), none⟩,
 ⟨some k62, .mkfn n_parser_reader_expr [(.t k61)] [], none⟩,
 ⟨some k63, .callF n_parser_list_Expr [(.t k60), (.v (.str 1 41)), (.t k62)], none⟩,
 ⟨some k64, .fieldA 5 (.t k5), none⟩,
 ⟨none, .store 1 (.t k64) (.t k63), none⟩]
def parser_reader_operand_r20 : List POper := [⟨some k65, .load true 7 (.t k5), none⟩,
 ⟨none, .store 7 (.t k2) (.t k65), none⟩]
def parser_reader_operand_r21 : List POper := [⟨some k66, .mov (.t k3), none⟩,
 ⟨some k67, .mov (.t k0), none⟩,
 ⟨some k68, .callF n_parser_reader_name [(.t k67)], none⟩,
 ⟨some k69, .build [(.int .i64 (.lit 0)), (.str 0 0), (.int .i64 (.lit 0)), .nils, .nils, .nils, (.int .i64 (.lit 0))] [(0, 1, (.v (.int .i64 (.lit 2)))), (6, 1, (.t k66)), (1, 1, (.t k68))], none⟩,
 ⟨some k6, .new [(.int .i64 (.lit 0)), (.str 0 0), (.int .i64 (.lit 0)), .nils, .nils, .nils, (.int .i64 (.lit 0))], none⟩,
 ⟨none, .store 7 (.t k6) (.t k69), none⟩]
def parser_reader_operand_r22 : List POper := [⟨some k70, .mov (.t k0), none⟩,
 ⟨some k71, .callF n_parser_reader_accept [(.t k70), (.v (.str 1 40))], none⟩]
def parser_reader_operand_r23 : List POper := [⟨some k72, .fieldA 0 (.t k6), none⟩,
 ⟨none, .store 1 (.t k72) (.v (.int .i64 (.lit 3))), none⟩]
def parser_reader_operand_r24 : List POper := [⟨some k73, .mov (.t k0), none⟩,
 ⟨some k74, .mov (.t k0), none⟩,
 ⟨some k75, .mkfn n_parser_reader_expr [(.t k74)] [], none⟩,
 ⟨some k76, .callF n_parser_list_Expr [(.t k73), (.v (.str 1 41)), (.t k75)], none⟩,
 ⟨some k77, .fieldA 5 (.t k6), none⟩,
 ⟨none, .store 1 (.t k77) (.t k76), none⟩]
def parser_reader_operand_r25 : List POper := [⟨some k78, .load true 7 (.t k6), none⟩,
 ⟨none, .store 7 (.t k2) (.t k78), none⟩]
def parser_reader_operand : PFn := ⟨(.seq (.ops parser_reader_operand_r0)
 (.seq (.ops parser_reader_operand_r1)
 (.seq (.block 0 (.seq (.ops parser_reader_operand_r2)
 (.cond (.t k9)
 (.seq (.ops parser_reader_operand_r3)
 .ret)
 (.seq (.ops parser_reader_operand_r4)
 (.cond (.t k17)
 (.seq (.ops parser_reader_operand_r5)
 .ret)
 (.seq (.ops parser_reader_operand_r6)
 (.cond (.t k24)
 (.seq (.ops parser_reader_operand_r7)
 .ret)
 (.seq (.ops parser_reader_operand_r8)
 (.cond (.t k29)
 (.seq (.ops parser_reader_operand_r9)
 .ret)
 (.seq (.ops parser_reader_operand_r10)
 (.cond (.t k34)
 (.seq (.ops parser_reader_operand_r11)
 .ret)
 (.seq (.ops parser_reader_operand_r12)
 (.cond (.t k43)
 (.seq (.ops parser_reader_operand_r13)
 (.seq (.ops parser_reader_operand_r14)
 (.seq (.ops parser_reader_operand_r15)
 .ret)))
 (.seq (.ops parser_reader_operand_r16)
 (.cond (.t k51)
 (.seq (.ops parser_reader_operand_r17)
 (.seq (.seq (.ops parser_reader_operand_r18)
 (.cond (.t k59)
 (.ops parser_reader_operand_r19)
 .skip))
 (.seq (.ops parser_reader_operand_r20)
 .ret)))
 .skip)))))))))))))))
 (.seq (.ops parser_reader_operand_r21)
 (.seq (.seq (.ops parser_reader_operand_r22)
 (.cond (.t k71)
 (.seq (.ops parser_reader_operand_r23)
 (.ops parser_reader_operand_r24))
 .skip))
 (.seq (.ops parser_reader_operand_r25)
 .ret)))))),
 [.cell k2 true 7]⟩
def fns : T PFn := (.node none (.node none (.node none (.node none (.node none (.node (some law12_run) (.node (some ref10_G_Value) (.node (some eval_run_result_c1) .nil .nil) (.node (some eval_builtins_c5) .nil .nil)) (.node none (.node none (.node (some lexer_number) .nil .nil) .nil) .nil)) (.node none .nil (.node none (.node (some parser_reader_and) .nil .nil) .nil))) (.node (some ref10_Value) (.node none (.node (some eval_run_eval) (.node (some values_visit_c1) .nil .nil) (.node (some eval_joined) .nil .nil)) .nil) (.node none (.node (some cmp_Compare_int) .nil .nil) (.node (some parser_reader_accept) (.node (some eval_number) .nil .nil) (.node (some parser_reader_operator) .nil .nil))))) (.node none (.node none (.node none (.node (some eval_newRun) .nil (.node (some clone_List_Value) .nil .nil)) .nil) (.node none (.node (some values_Valid_c1) .nil .nil) (.node (some lexer_Tokens) .nil (.node (some lexer_skip) .nil .nil)))) (.node (some eval_Expr) (.node (some values_Size) (.node none .nil (.node (some eval_run_op) .nil .nil)) (.node none (.node (some parser_reader_take) (.node (some strings_HasPrefix) .nil .nil) .nil) .nil)) (.node none (.node none (.node none (.node (some lexer_inWord) .nil .nil) .nil) .nil) (.node (some parser_reader_or) (.node (some eval_builtins_c3) .nil .nil) (.node (some eval_integer) .nil .nil)))))) (.node none (.node (some law12_EvalIntegers) (.node (some law12_plenty) (.node none (.node (some parser_reader_expr) (.node (some eval_end) .nil .nil) (.node (some eval_builtins_c6) .nil .nil)) (.node none (.node none (.node (some parser_reader_compare) .nil .nil) .nil) .nil)) (.node none (.node none .nil (.node (some parser_reader_number) .nil .nil)) (.node none (.node (some parser_checker_between) (.node (some parser_reader_product) .nil .nil) .nil) .nil))) (.node none (.node none (.node none (.node (some cmp_isNaN_int) .nil .nil) (.node (some eval_run_truth) .nil .nil)) (.node none (.node (some parser_reader_is) .nil .nil) .nil)) (.node none (.node (some slices_CompareFunc_Value_Value_Value_Value) (.node none (.node (some lexer_small) .nil .nil) .nil) .nil) (.node (some parser_reader_name) (.node (some eval_at) .nil .nil) (.node (some parser_single) .nil .nil))))) (.node none (.node none (.node none (.node (some eval_run_result) .nil (.node (some eval_truth) .nil .nil)) (.node none (.node none (.node (some parser_list_Expr) .nil .nil) .nil) .nil)) (.node none (.node (some values_fits) .nil .nil) (.node none (.node (some parser_rank) .nil .nil) (.node (some parser_reader_kind) .nil .nil)))) (.node none .nil (.node none .nil (.node (some parser_checker_exprDepth) (.node (some eval_builtins_c4) .nil .nil) .nil)))))) (.node none (.node none (.node none (.node none (.node none (.node (some parser_read_Expr) (.node (some clone_Value) .nil .nil) (.node (some eval_chosen) .nil .nil)) (.node none (.node none (.node (some lexer_symbol) .nil .nil) .nil) .nil)) (.node none .nil (.node none (.node (some parser_checker_need) (.node (some stringslite_HasPrefix) .nil .nil) .nil) .nil))) (.node none (.node none (.node none (.node (some values_capital) .nil .nil) (.node (some eval_run_all) .nil .nil)) (.node none (.node (some lexer_tokens) .nil .nil) .nil)) (.node none (.node (some cmp_Compare_string) .nil .nil) (.node (some parser_reader_expect) (.node (some eval_list) .nil .nil) (.node (some parser_reader_not) .nil .nil))))) (.node none (.node none (.node none (.node (some eval_measured) .nil (.node (some eval_need) .nil .nil)) .nil) (.node none (.node (some values_formed) .nil .nil) (.node (some parser_read_Expr_c1) (.node none (.node (some parser_reader_operand) .nil .nil) .nil) (.node (some lexer_next) .nil .nil)))) (.node none (.node (some values_Compare) (.node none .nil (.node (some values_inName) .nil .nil)) (.node none (.node none (.node (some parser_reader_sum) .nil .nil) .nil) .nil)) (.node none (.node none (.node none (.node (some lexer_great) .nil .nil) .nil) .nil) (.node (some parser_checker_most) (.node (some eval_part) .nil .nil) .nil))))) (.node none (.node none (.node (some law12_lives) (.node none (.node (some parser_checker_expr) (.node (some eval_run_value) .nil .nil) .nil) .nil) (.node none (.node (some values_visit) .nil .nil) (.node (some ref10_G_Next) (.node (some parser_checker_word) .nil .nil) (.node (some lexer_tokens_c1) .nil .nil)))) (.node (some parser_ParseExpr) (.node (some values_Valid) (.node none (.node (some cmp_isNaN_string) .nil .nil) .nil) (.node none (.node (some parser_reader_named) .nil .nil) .nil)) (.node (some law12_value) (.node none (.node none (.node (some lexer_span) .nil .nil) .nil) .nil) (.node none (.node (some eval_builtins_c2) .nil .nil) (.node (some eval_element) .nil .nil))))) (.node none (.node none (.node none (.node (some eval_Expr_c1) .nil (.node (some eval_run_apply) .nil .nil)) .nil) (.node none (.node (some values_Size_c1) .nil .nil) (.node (some parser_reader_offset) (.node (some eval_builtins_c1) .nil .nil) (.node (some parser_isReserved) .nil .nil)))) (.node (some law12_holds) (.node none .nil (.node none (.node (some parser_reader_grouped) (.node (some parser_some_Expr) .nil .nil) .nil) .nil)) (.node none (.node none (.node none (.node (some lexer_digit) .nil .nil) .nil) .nil) (.node (some eval_builtins) (.node (some eval_set) .nil .nil) .nil)))))))
def fnsL : List (Nat × PFn) := [(9, law12_EvalIntegers), (17, law12_plenty), (18, law12_lives), (23, ref10_Value), (26, parser_ParseExpr), (27, eval_Expr), (30, law12_holds), (31, law12_run), (42, values_Valid), (43, values_Size), (44, values_Compare), (58, law12_value), (63, ref10_G_Value), (64, parser_read_Expr), (65, parser_reader_expr), (66, parser_checker_expr), (67, eval_newRun), (68, eval_measured), (69, eval_run_result), (70, eval_Expr_c1), (71, eval_run_eval), (82, values_visit), (83, values_Valid_c1), (84, values_formed), (85, values_fits), (86, values_Size_c1), (87, cmp_Compare_int), (88, cmp_Compare_string), (89, slices_CompareFunc_Value_Value_Value_Value), (114, ref10_G_Next), (115, lexer_Tokens), (116, parser_read_Expr_c1), (118, parser_reader_offset), (119, parser_reader_accept), (120, parser_reader_expect), (121, parser_reader_name), (123, parser_reader_or), (124, parser_checker_most), (125, parser_checker_exprDepth), (126, eval_builtins), (127, eval_run_result_c1), (128, clone_Value), (129, eval_end), (130, eval_run_value), (135, values_visit_c1), (136, values_capital), (137, cmp_isNaN_int), (138, cmp_isNaN_string), (168, lexer_tokens), (169, parser_reader_is), (170, parser_reader_named), (171, parser_reader_take), (174, parser_reader_grouped), (175, parser_reader_and), (176, parser_checker_need), (177, parser_checker_between), (178, parser_checker_word), (181, parser_rank), (182, eval_builtins_c1), (183, eval_number), (184, eval_list), (185, eval_at), (186, eval_builtins_c2), (187, eval_builtins_c3), (188, eval_part), (189, eval_builtins_c4), (190, eval_set), (191, eval_builtins_c5), (192, eval_chosen), (193, eval_builtins_c6), (195, clone_List_Value), (196, eval_need), (197, eval_truth), (198, eval_run_apply), (199, eval_joined), (200, eval_run_all), (201, eval_run_truth), (203, eval_run_op), (204, values_inName), (209, parser_reader_number), (242, lexer_tokens_c1), (243, lexer_skip), (244, lexer_next), (245, parser_reader_kind), (246, parser_isReserved), (247, parser_reader_operator), (248, parser_reader_not), (249, parser_single), (250, eval_element), (251, eval_integer), (281, lexer_small), (282, lexer_span), (283, lexer_inWord), (284, lexer_great), (286, lexer_digit), (287, lexer_number), (288, lexer_symbol), (289, parser_reader_compare), (293, parser_list_Expr), (299, strings_HasPrefix), (300, parser_reader_sum), (302, parser_some_Expr), (304, stringslite_HasPrefix), (305, parser_reader_product), (308, parser_reader_operand)]
def g0 : List AV := [(.str 3 6581857), (.str 4 1819242338), (.str 5 461229090915), (.str 5 469919427683), (.str 5 495857003619), (.str 7 28268862397837155), (.str 4 1702063205), (.str 5 435728179558), (.str 3 7239014), (.str 3 7234919), (.str 2 26217), (.str 2 28265), (.str 3 7630441), (.str 3 7628140), (.str 4 1953720684), (.str 4 1701536109), (.str 5 448345170285), (.str 5 465557548909), (.str 4 1954047342), (.str 3 7630702), (.str 2 26223), (.str 3 6647407), (.str 2 28783), (.str 2 29295), (.str 4 1801677168), (.str 4 1953722224), (.str 3 6648432), (.str 4 1886351984), (.str 7 32199706694346098), (.str 6 128009175786866), (.str 6 121437875889522), (.str 4 1885697139), (.str 6 120282512849267), (.str 4 1852139636), (.str 4 1702195828), (.str 4 1701869940), (.str 5 435710945399)]
def g1 : List AV := [(.str 2 15917), (.str 2 11580), (.str 2 15676), (.str 2 15677), (.str 2 15649), (.str 2 11822), (.str 1 40), (.str 1 41), (.str 1 91), (.str 1 93), (.str 1 123), (.str 1 125), (.str 1 44), (.str 1 59), (.str 1 58), (.str 1 61), (.str 1 60), (.str 1 43), (.str 1 45), (.str 1 42), (.str 1 47), (.str 1 124)]
def heap0 : T Blk := (.node (some (.cells g0 .ro)) (.node (some (.cells g1 .ro)) .nil .nil) .nil)
end Tz
