/-
  SV: the functions are those of the program. No condition.
-/
import Derived.Test.YthhjnogfljegnaaGreatDoorFns
import Derived.Test.YthhjnogfljegnaaGreatDoorMSum
import Derived.Test.YthhjnogfljegnaaGreatDoorProg
import Derived.KernelRfl
set_option linter.unusedSimpArgs false
set_option linter.unusedVariables false
set_option linter.unusedSectionVars false
namespace Tz
open Go.Sx Go Go.Proofs
theorem ok_law12_EvalIntegers : pFn Tryz.prog 9 = some law12_EvalIntegers := by kernel_rfl
theorem ok_law12_plenty : pFn Tryz.prog 17 = some law12_plenty := by kernel_rfl
theorem ok_law12_lives : pFn Tryz.prog 18 = some law12_lives := by kernel_rfl
theorem ok_ref10_Value : pFn Tryz.prog 23 = some ref10_Value := by kernel_rfl
theorem ok_parser_ParseExpr : pFn Tryz.prog 26 = some parser_ParseExpr := by kernel_rfl
theorem ok_eval_Expr : pFn Tryz.prog 27 = some eval_Expr := by kernel_rfl
theorem ok_law12_holds : pFn Tryz.prog 30 = some law12_holds := by kernel_rfl
theorem ok_law12_run : pFn Tryz.prog 31 = some law12_run := by kernel_rfl
theorem ok_values_Valid : pFn Tryz.prog 42 = some values_Valid := by kernel_rfl
theorem ok_values_Size : pFn Tryz.prog 43 = some values_Size := by kernel_rfl
theorem ok_values_Compare : pFn Tryz.prog 44 = some values_Compare := by kernel_rfl
theorem ok_law12_value : pFn Tryz.prog 58 = some law12_value := by kernel_rfl
theorem ok_ref10_G_Value : pFn Tryz.prog 63 = some ref10_G_Value := by kernel_rfl
theorem ok_parser_read_Expr : pFn Tryz.prog 64 = some parser_read_Expr := by kernel_rfl
theorem ok_parser_reader_expr : pFn Tryz.prog 65 = some parser_reader_expr := by kernel_rfl
theorem ok_parser_checker_expr : pFn Tryz.prog 66 = some parser_checker_expr := by kernel_rfl
theorem ok_eval_newRun : pFn Tryz.prog 67 = some eval_newRun := by kernel_rfl
theorem ok_eval_measured : pFn Tryz.prog 68 = some eval_measured := by kernel_rfl
theorem ok_eval_run_result : pFn Tryz.prog 69 = some eval_run_result := by kernel_rfl
theorem ok_eval_Expr_c1 : pFn Tryz.prog 70 = some eval_Expr_c1 := by kernel_rfl
theorem ok_eval_run_eval : pFn Tryz.prog 71 = some eval_run_eval := by kernel_rfl
theorem ok_values_visit : pFn Tryz.prog 82 = some values_visit := by kernel_rfl
theorem ok_values_Valid_c1 : pFn Tryz.prog 83 = some values_Valid_c1 := by kernel_rfl
theorem ok_values_formed : pFn Tryz.prog 84 = some values_formed := by kernel_rfl
theorem ok_values_fits : pFn Tryz.prog 85 = some values_fits := by kernel_rfl
theorem ok_values_Size_c1 : pFn Tryz.prog 86 = some values_Size_c1 := by kernel_rfl
theorem ok_cmp_Compare_int : pFn Tryz.prog 87 = some cmp_Compare_int := by kernel_rfl
theorem ok_cmp_Compare_string : pFn Tryz.prog 88 = some cmp_Compare_string := by kernel_rfl
theorem ok_slices_CompareFunc_Value_Value_Value_Value : pFn Tryz.prog 89 = some slices_CompareFunc_Value_Value_Value_Value := by kernel_rfl
theorem ok_ref10_G_Next : pFn Tryz.prog 114 = some ref10_G_Next := by kernel_rfl
theorem ok_lexer_Tokens : pFn Tryz.prog 115 = some lexer_Tokens := by kernel_rfl
theorem ok_parser_read_Expr_c1 : pFn Tryz.prog 116 = some parser_read_Expr_c1 := by kernel_rfl
theorem ok_parser_reader_offset : pFn Tryz.prog 118 = some parser_reader_offset := by kernel_rfl
theorem ok_parser_reader_accept : pFn Tryz.prog 119 = some parser_reader_accept := by kernel_rfl
theorem ok_parser_reader_expect : pFn Tryz.prog 120 = some parser_reader_expect := by kernel_rfl
theorem ok_parser_reader_name : pFn Tryz.prog 121 = some parser_reader_name := by kernel_rfl
theorem ok_parser_reader_or : pFn Tryz.prog 123 = some parser_reader_or := by kernel_rfl
theorem ok_parser_checker_most : pFn Tryz.prog 124 = some parser_checker_most := by kernel_rfl
theorem ok_parser_checker_exprDepth : pFn Tryz.prog 125 = some parser_checker_exprDepth := by kernel_rfl
theorem ok_eval_builtins : pFn Tryz.prog 126 = some eval_builtins := by kernel_rfl
theorem ok_eval_run_result_c1 : pFn Tryz.prog 127 = some eval_run_result_c1 := by kernel_rfl
theorem ok_clone_Value : pFn Tryz.prog 128 = some clone_Value := by kernel_rfl
theorem ok_eval_end : pFn Tryz.prog 129 = some eval_end := by kernel_rfl
theorem ok_eval_run_value : pFn Tryz.prog 130 = some eval_run_value := by kernel_rfl
theorem ok_values_visit_c1 : pFn Tryz.prog 135 = some values_visit_c1 := by kernel_rfl
theorem ok_values_capital : pFn Tryz.prog 136 = some values_capital := by kernel_rfl
theorem ok_cmp_isNaN_int : pFn Tryz.prog 137 = some cmp_isNaN_int := by kernel_rfl
theorem ok_cmp_isNaN_string : pFn Tryz.prog 138 = some cmp_isNaN_string := by kernel_rfl
theorem ok_lexer_tokens : pFn Tryz.prog 168 = some lexer_tokens := by kernel_rfl
theorem ok_parser_reader_is : pFn Tryz.prog 169 = some parser_reader_is := by kernel_rfl
theorem ok_parser_reader_named : pFn Tryz.prog 170 = some parser_reader_named := by kernel_rfl
theorem ok_parser_reader_take : pFn Tryz.prog 171 = some parser_reader_take := by kernel_rfl
theorem ok_parser_reader_grouped : pFn Tryz.prog 174 = some parser_reader_grouped := by kernel_rfl
theorem ok_parser_reader_and : pFn Tryz.prog 175 = some parser_reader_and := by kernel_rfl
theorem ok_parser_checker_need : pFn Tryz.prog 176 = some parser_checker_need := by kernel_rfl
theorem ok_parser_checker_between : pFn Tryz.prog 177 = some parser_checker_between := by kernel_rfl
theorem ok_parser_checker_word : pFn Tryz.prog 178 = some parser_checker_word := by kernel_rfl
theorem ok_parser_rank : pFn Tryz.prog 181 = some parser_rank := by kernel_rfl
theorem ok_eval_builtins_c1 : pFn Tryz.prog 182 = some eval_builtins_c1 := by kernel_rfl
theorem ok_eval_number : pFn Tryz.prog 183 = some eval_number := by kernel_rfl
theorem ok_eval_list : pFn Tryz.prog 184 = some eval_list := by kernel_rfl
theorem ok_eval_at : pFn Tryz.prog 185 = some eval_at := by kernel_rfl
theorem ok_eval_builtins_c2 : pFn Tryz.prog 186 = some eval_builtins_c2 := by kernel_rfl
theorem ok_eval_builtins_c3 : pFn Tryz.prog 187 = some eval_builtins_c3 := by kernel_rfl
theorem ok_eval_part : pFn Tryz.prog 188 = some eval_part := by kernel_rfl
theorem ok_eval_builtins_c4 : pFn Tryz.prog 189 = some eval_builtins_c4 := by kernel_rfl
theorem ok_eval_set : pFn Tryz.prog 190 = some eval_set := by kernel_rfl
theorem ok_eval_builtins_c5 : pFn Tryz.prog 191 = some eval_builtins_c5 := by kernel_rfl
theorem ok_eval_chosen : pFn Tryz.prog 192 = some eval_chosen := by kernel_rfl
theorem ok_eval_builtins_c6 : pFn Tryz.prog 193 = some eval_builtins_c6 := by kernel_rfl
theorem ok_clone_List_Value : pFn Tryz.prog 195 = some clone_List_Value := by kernel_rfl
theorem ok_eval_need : pFn Tryz.prog 196 = some eval_need := by kernel_rfl
theorem ok_eval_truth : pFn Tryz.prog 197 = some eval_truth := by kernel_rfl
theorem ok_eval_run_apply : pFn Tryz.prog 198 = some eval_run_apply := by kernel_rfl
theorem ok_eval_joined : pFn Tryz.prog 199 = some eval_joined := by kernel_rfl
theorem ok_eval_run_all : pFn Tryz.prog 200 = some eval_run_all := by kernel_rfl
theorem ok_eval_run_truth : pFn Tryz.prog 201 = some eval_run_truth := by kernel_rfl
theorem ok_eval_run_op : pFn Tryz.prog 203 = some eval_run_op := by kernel_rfl
theorem ok_values_inName : pFn Tryz.prog 204 = some values_inName := by kernel_rfl
theorem ok_parser_reader_number : pFn Tryz.prog 209 = some parser_reader_number := by kernel_rfl
theorem ok_lexer_tokens_c1 : pFn Tryz.prog 242 = some lexer_tokens_c1 := by kernel_rfl
theorem ok_lexer_skip : pFn Tryz.prog 243 = some lexer_skip := by kernel_rfl
theorem ok_lexer_next : pFn Tryz.prog 244 = some lexer_next := by kernel_rfl
theorem ok_parser_reader_kind : pFn Tryz.prog 245 = some parser_reader_kind := by kernel_rfl
theorem ok_parser_isReserved : pFn Tryz.prog 246 = some parser_isReserved := by kernel_rfl
theorem ok_parser_reader_operator : pFn Tryz.prog 247 = some parser_reader_operator := by kernel_rfl
theorem ok_parser_reader_not : pFn Tryz.prog 248 = some parser_reader_not := by kernel_rfl
theorem ok_parser_single : pFn Tryz.prog 249 = some parser_single := by kernel_rfl
theorem ok_eval_element : pFn Tryz.prog 250 = some eval_element := by kernel_rfl
theorem ok_eval_integer : pFn Tryz.prog 251 = some eval_integer := by kernel_rfl
theorem ok_lexer_small : pFn Tryz.prog 281 = some lexer_small := by kernel_rfl
theorem ok_lexer_span : pFn Tryz.prog 282 = some lexer_span := by kernel_rfl
theorem ok_lexer_inWord : pFn Tryz.prog 283 = some lexer_inWord := by kernel_rfl
theorem ok_lexer_great : pFn Tryz.prog 284 = some lexer_great := by kernel_rfl
theorem ok_lexer_digit : pFn Tryz.prog 286 = some lexer_digit := by kernel_rfl
theorem ok_lexer_number : pFn Tryz.prog 287 = some lexer_number := by kernel_rfl
theorem ok_lexer_symbol : pFn Tryz.prog 288 = some lexer_symbol := by kernel_rfl
theorem ok_parser_reader_compare : pFn Tryz.prog 289 = some parser_reader_compare := by kernel_rfl
theorem ok_parser_list_Expr : pFn Tryz.prog 293 = some parser_list_Expr := by kernel_rfl
theorem ok_strings_HasPrefix : pFn Tryz.prog 299 = some strings_HasPrefix := by kernel_rfl
theorem ok_parser_reader_sum : pFn Tryz.prog 300 = some parser_reader_sum := by kernel_rfl
theorem ok_parser_some_Expr : pFn Tryz.prog 302 = some parser_some_Expr := by kernel_rfl
theorem ok_stringslite_HasPrefix : pFn Tryz.prog 304 = some stringslite_HasPrefix := by kernel_rfl
theorem ok_parser_reader_product : pFn Tryz.prog 305 = some parser_reader_product := by kernel_rfl
theorem ok_parser_reader_operand : pFn Tryz.prog 308 = some parser_reader_operand := by kernel_rfl
theorem fns_build : fns = buildT fnsL := by kernel_rfl
theorem fns_ok : AllOk Tryz.prog fnsL := ⟨⟨rfl, ok_law12_EvalIntegers⟩, ⟨rfl, ok_law12_plenty⟩, ⟨rfl, ok_law12_lives⟩, ⟨rfl, ok_ref10_Value⟩, ⟨rfl, ok_parser_ParseExpr⟩, ⟨rfl, ok_eval_Expr⟩, ⟨rfl, ok_law12_holds⟩, ⟨rfl, ok_law12_run⟩, ⟨rfl, ok_values_Valid⟩, ⟨rfl, ok_values_Size⟩, ⟨rfl, ok_values_Compare⟩, ⟨rfl, ok_law12_value⟩, ⟨rfl, ok_ref10_G_Value⟩, ⟨rfl, ok_parser_read_Expr⟩, ⟨rfl, ok_parser_reader_expr⟩, ⟨rfl, ok_parser_checker_expr⟩, ⟨rfl, ok_eval_newRun⟩, ⟨rfl, ok_eval_measured⟩, ⟨rfl, ok_eval_run_result⟩, ⟨rfl, ok_eval_Expr_c1⟩, ⟨rfl, ok_eval_run_eval⟩, ⟨rfl, ok_values_visit⟩, ⟨rfl, ok_values_Valid_c1⟩, ⟨rfl, ok_values_formed⟩, ⟨rfl, ok_values_fits⟩, ⟨rfl, ok_values_Size_c1⟩, ⟨rfl, ok_cmp_Compare_int⟩, ⟨rfl, ok_cmp_Compare_string⟩, ⟨rfl, ok_slices_CompareFunc_Value_Value_Value_Value⟩, ⟨rfl, ok_ref10_G_Next⟩, ⟨rfl, ok_lexer_Tokens⟩, ⟨rfl, ok_parser_read_Expr_c1⟩, ⟨rfl, ok_parser_reader_offset⟩, ⟨rfl, ok_parser_reader_accept⟩, ⟨rfl, ok_parser_reader_expect⟩, ⟨rfl, ok_parser_reader_name⟩, ⟨rfl, ok_parser_reader_or⟩, ⟨rfl, ok_parser_checker_most⟩, ⟨rfl, ok_parser_checker_exprDepth⟩, ⟨rfl, ok_eval_builtins⟩, ⟨rfl, ok_eval_run_result_c1⟩, ⟨rfl, ok_clone_Value⟩, ⟨rfl, ok_eval_end⟩, ⟨rfl, ok_eval_run_value⟩, ⟨rfl, ok_values_visit_c1⟩, ⟨rfl, ok_values_capital⟩, ⟨rfl, ok_cmp_isNaN_int⟩, ⟨rfl, ok_cmp_isNaN_string⟩, ⟨rfl, ok_lexer_tokens⟩, ⟨rfl, ok_parser_reader_is⟩, ⟨rfl, ok_parser_reader_named⟩, ⟨rfl, ok_parser_reader_take⟩, ⟨rfl, ok_parser_reader_grouped⟩, ⟨rfl, ok_parser_reader_and⟩, ⟨rfl, ok_parser_checker_need⟩, ⟨rfl, ok_parser_checker_between⟩, ⟨rfl, ok_parser_checker_word⟩, ⟨rfl, ok_parser_rank⟩, ⟨rfl, ok_eval_builtins_c1⟩, ⟨rfl, ok_eval_number⟩, ⟨rfl, ok_eval_list⟩, ⟨rfl, ok_eval_at⟩, ⟨rfl, ok_eval_builtins_c2⟩, ⟨rfl, ok_eval_builtins_c3⟩, ⟨rfl, ok_eval_part⟩, ⟨rfl, ok_eval_builtins_c4⟩, ⟨rfl, ok_eval_set⟩, ⟨rfl, ok_eval_builtins_c5⟩, ⟨rfl, ok_eval_chosen⟩, ⟨rfl, ok_eval_builtins_c6⟩, ⟨rfl, ok_clone_List_Value⟩, ⟨rfl, ok_eval_need⟩, ⟨rfl, ok_eval_truth⟩, ⟨rfl, ok_eval_run_apply⟩, ⟨rfl, ok_eval_joined⟩, ⟨rfl, ok_eval_run_all⟩, ⟨rfl, ok_eval_run_truth⟩, ⟨rfl, ok_eval_run_op⟩, ⟨rfl, ok_values_inName⟩, ⟨rfl, ok_parser_reader_number⟩, ⟨rfl, ok_lexer_tokens_c1⟩, ⟨rfl, ok_lexer_skip⟩, ⟨rfl, ok_lexer_next⟩, ⟨rfl, ok_parser_reader_kind⟩, ⟨rfl, ok_parser_isReserved⟩, ⟨rfl, ok_parser_reader_operator⟩, ⟨rfl, ok_parser_reader_not⟩, ⟨rfl, ok_parser_single⟩, ⟨rfl, ok_eval_element⟩, ⟨rfl, ok_eval_integer⟩, ⟨rfl, ok_lexer_small⟩, ⟨rfl, ok_lexer_span⟩, ⟨rfl, ok_lexer_inWord⟩, ⟨rfl, ok_lexer_great⟩, ⟨rfl, ok_lexer_digit⟩, ⟨rfl, ok_lexer_number⟩, ⟨rfl, ok_lexer_symbol⟩, ⟨rfl, ok_parser_reader_compare⟩, ⟨rfl, ok_parser_list_Expr⟩, ⟨rfl, ok_strings_HasPrefix⟩, ⟨rfl, ok_parser_reader_sum⟩, ⟨rfl, ok_parser_some_Expr⟩, ⟨rfl, ok_stringslite_HasPrefix⟩, ⟨rfl, ok_parser_reader_product⟩, ⟨rfl, ok_parser_reader_operand⟩, trivial⟩
theorem mix : Tryz.prog.follows .mixedOrders = true := by kernel_rfl
theorem few : Tryz.prog.globals.size ≤ k40.toNat := Nat.le_of_ble_eq_true (by kernel_rfl)
end Tz
