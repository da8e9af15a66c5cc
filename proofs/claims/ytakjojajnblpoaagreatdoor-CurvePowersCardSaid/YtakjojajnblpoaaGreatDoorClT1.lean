/-
  Contracts of the functions, out of their trees. Own work; no condition.
-/
import Derived.Test.YtakjojajnblpoaaGreatDoorClL8
import Derived.KernelRfl
set_option linter.unusedVariables false
set_option linter.unusedSimpArgs false
set_option maxRecDepth 1000000
namespace Go.Vs
open Go Go.Vg Go.Proofs
noncomputable section
def o_itoa : OkC := ⟨212, _, ok_itoa⟩
def o_fm_digits : OkC := ⟨182, _, ok_fm_digits⟩
def o_atoi : OkC := ⟨93, _, ok_atoi⟩
def o_prsi : OkC := ⟨239, _, ok_prsi⟩
def o_wm_digits : OkC := ⟨256, _, ok_wm_digits⟩
def o_rept : OkC := ⟨244, _, ok_rept⟩
def o_l9_root := okT 34 .unit (P1 tC) S_l9_root l9_root_L [] Tryz.func34 (fun x => l9_root_t) fun _ y _ h => l9_root_law y h
def o_r1_cut := okT 130 (P1 tL) (P1 tL) S_r1_cut r1_cut_L [] Tryz.func130 (fun x => r1_cut_t x.1) fun _ y _ h => r1_cut_law _ y h
def o_r1_made := okT 80 (P2 .bool tL) (P1 (P2 .bool tL)) S_r1_made r1_made_L [o_r1_cut] Tryz.func80 (fun x => r1_made_t x.1 x.2.1) fun _ y _ h => r1_made_law _ _ y h
def o_r1_Integer := okT 40 (P1 tI) (P1 (P2 .bool tL)) S_r1_Integer r1_Integer_L [o_r1_made] Tryz.func40 (fun x => r1_Integer_t x.1) fun _ y _ h => r1_Integer_law _ y h
def o_r1_Turn := okT 85 (P1 (P2 .bool tL)) (P1 (P2 .bool tL)) S_r1_Turn r1_Turn_L [o_r1_made] Tryz.func85 (fun x => r1_Turn_t x.1) fun _ y _ h => r1_Turn_law _ y h
def o_r1_product := okT 134 (P2 tL tL) (P1 tL) S_r1_product r1_product_L [o_r1_cut] Tryz.func134 (fun x => r1_product_t x.1 x.2.1) fun _ y _ h => r1_product_law _ _ y h
def o_r1_order := okT 132 (P2 tL tL) (P1 tI) S_r1_order r1_order_L [] Tryz.func132 (fun x => r1_order_t x.1 x.2.1) fun _ y _ h => r1_order_law _ _ y h
def o_r1_difference := okT 133 (P2 tL tL) (P1 tL) S_r1_difference r1_difference_L [o_r1_cut] Tryz.func133 (fun x => r1_difference_t x.1 x.2.1) fun _ y _ h => r1_difference_law _ _ y h
def o_r1_once := okT 171 (P2 tL tI) (P2 tL tI) S_r1_once r1_once_L [o_r1_cut] Tryz.func171 (fun x => r1_once_t x.1 x.2.1) fun _ y _ h => r1_once_law _ _ y h
def o_r1_parts := okT 135 (P2 tL tL) (P2 tL tL) S_r1_parts r1_parts_L [o_r1_product, o_r1_cut, o_r1_order, o_r1_difference, o_r1_once] Tryz.func135 (fun x => r1_parts_t x.1 x.2.1) fun _ y _ h => r1_parts_law _ _ y h
def o_r1_Divisor := okT 86 (P2 (P2 .bool tL) (P2 .bool tL)) (P1 (P2 .bool tL)) S_r1_Divisor r1_Divisor_L [o_r1_parts] Tryz.func86 (fun x => r1_Divisor_t x.1 x.2.1) fun _ y _ h => r1_Divisor_law _ _ y h
def o_r1_sum := okT 131 (P2 tL tL) (P1 tL) S_r1_sum r1_sum_L [] Tryz.func131 (fun x => r1_sum_t x.1 x.2.1) fun _ y _ h => r1_sum_law _ _ y h
def o_r1_Plus := okT 81 (P2 (P2 .bool tL) (P2 .bool tL)) (P1 (P2 .bool tL)) S_r1_Plus r1_Plus_L [o_r1_sum, o_r1_made, o_r1_order, o_r1_difference] Tryz.func81 (fun x => r1_Plus_t x.1 x.2.1) fun _ y _ h => r1_Plus_law _ _ y h
def o_r1_Minus := okT 136 (P2 (P2 .bool tL) (P2 .bool tL)) (P1 (P2 .bool tL)) S_r1_Minus r1_Minus_L [o_r1_Turn, o_r1_Plus] Tryz.func136 (fun x => r1_Minus_t x.1 x.2.1) fun _ y _ h => r1_Minus_law _ _ y h
def o_r1_Parts := okT 87 (P2 (P2 .bool tL) (P2 .bool tL)) (P2 (P2 .bool tL) (P2 .bool tL)) S_r1_Parts r1_Parts_L [o_r1_parts, o_r1_made, o_r1_Plus, o_r1_Integer, o_r1_Minus] Tryz.func87 (fun x => r1_Parts_t x.1 x.2.1) fun _ y _ h => r1_Parts_law _ _ y h
def o_r2_Lowest := okT 42 (P2 (P2 .bool tL) (P2 .bool tL)) (P1 (P2 (P2 .bool tL) (P2 .bool tL))) S_r2_Lowest r2_Lowest_L [o_r1_Turn, o_r1_Divisor, o_r1_Parts] Tryz.func42 (fun x => r2_Lowest_t x.1 x.2.1) fun _ y _ h => r2_Lowest_law _ _ y h
def o_r2_Quick := okT 88 tB (P1 (P2 (P2 .bool tL) (P2 .bool tL))) S_r2_Quick r2_Quick_L [o_r1_Integer, o_r2_Lowest] Tryz.func88 (fun x => r2_Quick_t x.1 x.2.1) fun _ y _ h => r2_Quick_law _ _ y h
def o_r1_four := okT 170 (P1 tI) (P1 .str) S_r1_four r1_four_L [] Tryz.func170 (fun x => r1_four_t x.1) fun _ y _ h => r1_four_law _ y h
def o_r1_Text := okT 125 (P1 (P2 .bool tL)) (P1 .str) S_r1_Text r1_Text_L [o_r1_four] Tryz.func125 (fun x => r1_Text_t x.1) fun _ y _ h => r1_Text_law _ y h
def o_r1_Out := okT 84 (P1 (P2 .bool tL)) (P2 .str tI) S_r1_Out r1_Out_L [o_r1_Text] Tryz.func84 (fun x => r1_Out_t x.1) fun _ y _ h => r1_Out_law _ y h
end
end Go.Vs
set_option maxRecDepth 1000000
namespace Go.Vs
open Go Go.Vg Go.Proofs
noncomputable section
def o_r2_Out := okT 41 (P1 (P2 (P2 .bool tL) (P2 .bool tL))) (P2 tF tI) S_r2_Out r2_Out_L [o_r1_Out] Tryz.func41 (fun x => r2_Out_t x.1) fun _ y _ h => r2_Out_law _ y h
def o_r2_Of := okT 43 tB (P2 tF tI) S_r2_Of r2_Of_L [o_r2_Quick, o_r2_Out] Tryz.func43 (fun x => r2_Of_t x.1 x.2.1) fun _ y _ h => r2_Of_law _ _ y h
def o_l9_of := okT 13 tB (P1 tF) S_l9_of l9_of_L [o_r2_Of] Tryz.func13 (fun x => l9_of_t x.1 x.2.1) fun _ y _ h => l9_of_law _ _ y h
def o_c_within := okT 117 (P3 tI tI tI) (P1 .bool) S_c_within c_within_L [] Tryz.func117 (fun x => c_within_t x.1 x.2.1 x.2.2.1) fun _ y _ h => c_within_law _ _ _ y h
def o_c_checkTable := okT 76 (P1 tL) (P1 .bool) S_c_checkTable c_checkTable_L [o_c_within] Tryz.func76 (fun x => c_checkTable_t x.1) fun _ y _ h => c_checkTable_law _ y h
def o_cp_valid := okT 129 (P1 (P3 tS tI .bool)) (P1 .bool) S_cp_valid cp_valid_L [o_c_within] Tryz.func129 (fun x => cp_valid_t x.1) fun _ y _ h => cp_valid_law _ y h
def o_c_checkSegments := okT 77 (P1 tC) (P1 .bool) S_c_checkSegments c_checkSegments_L [o_cp_valid] Tryz.func77 (fun x => c_checkSegments_t x.1) fun _ y _ h => c_checkSegments_law _ y h
def o_c_Check := okT 29 (P1 tC) (P1 tI) S_c_Check c_Check_L [o_c_checkTable, o_c_checkSegments] Tryz.func29 (fun x => c_Check_t x.1) fun _ y _ h => c_Check_law _ y h
def o_wm_trim := okT 233 (P1 tM) (P1 tM) S_wm_trim wm_trim_L [] Tryz.func233 (fun x => fm_trim_t x.1) fun _ y _ h => fm_trim_law _ y h
def o_w_gather := okT 205 (P1 .str) (P1 tM) S_w_gather w_gather_L [o_wm_trim] Tryz.func205 (fun x => f_gather_t x.1) fun _ y _ h => f_gather_law _ y h
def o_cutPrefix := okT 173 tF (P2 .str .bool) S_cutPrefix cutPrefix_L [] Tryz.func173 (fun x => cutPrefix_t x.1 x.2.1) fun _ y hw h => cutPrefix_law _ _ (Nat.le_trans hw.1 (by decide)) y h
def o_w_read := okT 172 (P1 .str) (P2 (P2 tM .bool) .bool) S_w_read w_read_L [o_w_gather, o_cutPrefix] Tryz.func172 (fun x => w_read_t x.1) fun _ y _ h => w_read_law _ y h
def o_w_Check := okT 137 (P1 .str) (P1 tI) S_w_Check w_Check_L [o_w_read] Tryz.func137 (fun x => w_Check_t x.1) fun _ y _ h => w_Check_law _ y h
def o_fm_trim := okT 207 (P1 tM) (P1 tM) S_fm_trim fm_trim_L [] Tryz.func207 (fun x => fm_trim_t x.1) fun _ y _ h => fm_trim_law _ y h
def o_f_gather := okT 174 (P1 .str) (P1 tM) S_f_gather f_gather_L [o_fm_trim] Tryz.func174 (fun x => f_gather_t x.1) fun _ y _ h => f_gather_law _ y h
def o_f_number := okT 138 (P1 .str) (P1 (P2 tM .bool)) S_f_number f_number_L [o_cutPrefix, o_f_gather] Tryz.func138 (fun x => f_number_t x.1) fun _ y _ h => f_number_law _ y h
def o_fm_zero := okT 152 (P1 tM) (P1 .bool) S_fm_zero fm_zero_L [] Tryz.func152 (fun x => fm_zero_t x.1) fun _ y _ h => fm_zero_law _ y h
def o_fi_sign := okT 139 (P1 (P2 tM .bool)) (P1 tI) S_fi_sign fi_sign_L [o_fm_zero] Tryz.func139 (fun x => fi_sign_t x.1) fun _ y _ h => fi_sign_law _ y h
def o_f_fromSmall := okT 176 (P1 (.int .u64)) (P1 tM) S_f_fromSmall f_fromSmall_L [] Tryz.func176 (fun x => f_fromSmall_t x.1) fun _ y _ h => f_fromSmall_law _ y h
def o_fm_small := okT 175 (P1 tM) (P1 (.int .u64)) S_fm_small fm_small_L [] Tryz.func175 (fun x => fm_small_t x.1) fun _ y _ h => fm_small_law _ y h
end
end Go.Vs
set_option maxRecDepth 1000000
namespace Go.Vs
open Go Go.Vg Go.Proofs
noncomputable section
def o_fm_short := okT 208 (P2 tM (.int .u32)) (P2 tM (.int .u32)) S_fm_short fm_short_L [o_fm_trim] Tryz.func208 (fun x => fm_short_t x.1 x.2.1) fun _ y _ h => fm_short_law _ _ y h
def o_fm_compare := okT 141 (P2 tM tM) (P1 tI) S_fm_compare fm_compare_L [] Tryz.func141 (fun x => fm_compare_t x.1 x.2.1) fun _ y _ h => fm_compare_law _ _ y h
def o_fm_times := okT 180 (P2 tM tM) (P1 tM) S_fm_times fm_times_L [o_fm_trim] Tryz.func180 (fun x => fm_times_t x.1 x.2.1) fun _ y _ h => fm_times_law _ _ y h
def o_fm_divide := okT 177 (P2 tM tM) (P2 tM tM) S_fm_divide fm_divide_L [o_fm_trim, o_fm_short, o_fm_compare, o_f_fromSmall, o_fm_times] Tryz.func177 (fun x => fm_divide_t x.1 x.2.1) fun _ y _ h => fm_divide_law _ _ y h
def o_fm_gcd := okT 140 (P2 tM tM) (P1 tM) S_fm_gcd fm_gcd_L [o_f_fromSmall, o_fm_small, o_fm_divide, o_fm_zero] Tryz.func140 (fun x => fm_gcd_t x.1 x.2.1) fun _ y _ h => fm_gcd_law _ _ y h
def o_f_read := okT 89 (P1 tF) (P2 (P2 (P2 tM .bool) tM) .bool) S_f_read f_read_L [o_w_Check, o_f_number, o_fi_sign, o_fm_gcd, o_fm_compare] Tryz.func89 (fun x => f_read_t x.1) fun _ y _ h => f_read_law _ y h
def o_f_Check := okT 44 (P1 tF) (P1 tI) S_f_Check f_Check_L [o_f_read] Tryz.func44 (fun x => f_Check_t x.1) fun _ y _ h => f_Check_law _ y h
def o_w_Of := okT 194 (P1 tI) (P1 .str) S_w_Of w_Of_L [o_itoa] Tryz.func194 (fun x => w_Of_t x.1) fun _ y _ h => w_Of_law _ y h
def o_f_signed := okT 179 (P2 tM .bool) (P1 (P2 tM .bool)) S_f_signed f_signed_L [o_fm_zero] Tryz.func179 (fun x => f_signed_t x.1 x.2.1) fun _ y _ h => f_signed_law _ _ y h
def o_f_reduced := okT 220 (P2 (P2 tM .bool) tM) (P1 (P2 (P2 tM .bool) tM)) S_f_reduced f_reduced_L [o_fm_gcd, o_fm_divide, o_f_signed] Tryz.func220 (fun x => f_reduced_t x.1 x.2.1) fun _ y _ h => f_reduced_law _ _ y h
def o_fm_length := okT 191 (P1 tM) (P1 tI) S_fm_length fm_length_L [o_fm_zero, o_itoa] Tryz.func191 (fun x => fm_length_t x.1) fun _ y _ h => fm_length_law _ y h
def o_fi_text := okT 146 (P1 (P2 tM .bool)) (P1 .str) S_fi_text fi_text_L [o_fm_digits] Tryz.func146 (fun x => fi_text_t x.1) fun _ y _ h => fi_text_law _ y h
def o_fr_write := okT 154 (P1 (P2 (P2 tM .bool) tM)) (P2 tF tI) S_fr_write fr_write_L [o_fm_length, o_fi_text, o_fm_digits] Tryz.func154 (fun x => fr_write_t x.1) fun _ y _ h => fr_write_law _ y h
def o_f_Make := okT 193 tF (P2 tF tI) S_f_Make f_Make_L [o_w_Check, o_f_number, o_fm_zero, o_f_signed, o_f_reduced, o_fr_write] Tryz.func193 (fun x => f_Make_t x.1 x.2.1) fun _ y _ h => f_Make_law _ _ y h
def o_f_Of := okT 157 tB (P2 tF tI) S_f_Of f_Of_L [o_w_Of, o_f_Make] Tryz.func157 (fun x => f_Of_t x.1 x.2.1) fun _ y _ h => f_Of_law _ _ y h
def o_c_over := okT 100 tB (P1 tF) S_c_over c_over_L [o_f_Of] Tryz.func100 (fun x => c_over_t x.1 x.2.1) fun _ y _ h => c_over_law _ _ y h
def o_c_integer := okT 91 (P1 tI) (P1 tF) S_c_integer c_integer_L [o_c_over] Tryz.func91 (fun x => c_integer_t x.1) fun _ y _ h => c_integer_law _ y h
def o_fi_scaled := okT 189 (P2 (P2 tM .bool) tM) (P1 (P2 tM .bool)) S_fi_scaled fi_scaled_L [o_fm_times, o_f_signed] Tryz.func189 (fun x => fi_scaled_t x.1 x.2.1) fun _ y _ h => fi_scaled_law _ _ y h
def o_fi_opposite := okT 192 (P1 (P2 tM .bool)) (P1 (P2 tM .bool)) S_fi_opposite fi_opposite_L [o_f_signed] Tryz.func192 (fun x => fi_opposite_t x.1) fun _ y _ h => fi_opposite_law _ y h
def o_fm_plus := okT 181 (P2 tM tM) (P1 tM) S_fm_plus fm_plus_L [] Tryz.func181 (fun x => fm_plus_t x.1 x.2.1) fun _ y _ h => fm_plus_law _ _ y h
end
end Go.Vs
set_option maxRecDepth 1000000
namespace Go.Vs
open Go Go.Vg Go.Proofs
noncomputable section
def o_fm_minus := okT 219 (P2 tM tM) (P1 tM) S_fm_minus fm_minus_L [o_fm_trim] Tryz.func219 (fun x => fm_minus_t x.1 x.2.1) fun _ y _ h => fm_minus_law _ _ y h
def o_fi_sum := okT 190 (P2 (P2 tM .bool) (P2 tM .bool)) (P1 (P2 tM .bool)) S_fi_sum fi_sum_L [o_fm_plus, o_f_signed, o_fm_compare, o_fm_minus] Tryz.func190 (fun x => fi_sum_t x.1 x.2.1) fun _ y _ h => fi_sum_law _ _ y h
def o_fr_order := okT 156 (P2 (P2 (P2 tM .bool) tM) (P2 (P2 tM .bool) tM)) (P1 tI) S_fr_order fr_order_L [o_fi_scaled, o_fi_opposite, o_fi_sum, o_fi_sign] Tryz.func156 (fun x => fr_order_t x.1 x.2.1) fun _ y _ h => fr_order_law _ _ y h
def o_f_Cmp := okT 99 (P2 tF tF) tB S_f_Cmp f_Cmp_L [o_f_read, o_fr_order] Tryz.func99 (fun x => f_Cmp_t x.1 x.2.1) fun _ y _ h => f_Cmp_law _ _ y h
def o_c_clampFrac := okT 48 (P1 tF) (P1 tF) S_c_clampFrac c_clampFrac_L [o_c_integer, o_f_Cmp] Tryz.func48 (fun x => c_clampFrac_t x.1) fun _ y _ h => c_clampFrac_law _ y h
def o_fr_mul := okT 144 (P2 (P2 (P2 tM .bool) tM) (P2 (P2 tM .bool) tM)) (P1 (P2 (P2 tM .bool) tM)) S_fr_mul fr_mul_L [o_fm_gcd, o_fm_divide, o_fm_times, o_f_signed] Tryz.func144 (fun x => fr_mul_t x.1 x.2.1) fun _ y _ h => fr_mul_law _ _ y h
def o_f_Mul := okT 90 (P2 tF tF) (P2 tF tI) S_f_Mul f_Mul_L [o_f_read, o_fr_mul, o_fr_write] Tryz.func90 (fun x => f_Mul_t x.1 x.2.1) fun _ y _ h => f_Mul_law _ _ y h
def o_fr_add := okT 151 (P2 (P2 (P2 tM .bool) tM) (P2 (P2 tM .bool) tM)) (P1 (P2 (P2 tM .bool) tM)) S_fr_add fr_add_L [o_fm_gcd, o_fm_divide, o_fi_scaled, o_fi_sum, o_f_signed, o_fm_times] Tryz.func151 (fun x => fr_add_t x.1 x.2.1) fun _ y _ h => fr_add_law _ _ y h
def o_f_Add := okT 97 (P2 tF tF) (P2 tF tI) S_f_Add f_Add_L [o_f_read, o_fr_add, o_fr_write] Tryz.func97 (fun x => f_Add_t x.1 x.2.1) fun _ y _ h => f_Add_law _ _ y h
def o_fr_inverse := okT 153 (P1 (P2 (P2 tM .bool) tM)) (P1 (P2 (P2 tM .bool) tM)) S_fr_inverse fr_inverse_L [o_f_signed] Tryz.func153 (fun x => fr_inverse_t x.1) fun _ y _ h => fr_inverse_law _ y h
def o_f_Div := okT 98 (P2 tF tF) (P2 tF tI) S_f_Div f_Div_L [o_f_read, o_fm_zero, o_fr_inverse, o_fr_mul, o_fr_write] Tryz.func98 (fun x => f_Div_t x.1 x.2.1) fun _ y _ h => f_Div_law _ _ y h
def o_cp_line := okT 101 (P2 (P3 tS tI .bool) tF) (P2 tF tI) S_cp_line cp_line_L [o_c_integer, o_f_Mul, o_f_Add, o_f_Div] Tryz.func101 (fun x => cp_line_t x.1 x.2.1) fun _ y _ h => cp_line_law _ _ y h
def o_f_Sign := okT 102 (P1 tF) tB S_f_Sign f_Sign_L [o_f_read, o_fi_sign] Tryz.func102 (fun x => f_Sign_t x.1) fun _ y _ h => f_Sign_law _ y h
def o_cc_formula := okT 47 (P2 (P1 tC) tF) (P2 tF tI) S_cc_formula cc_formula_L [o_c_over, o_f_Cmp, o_f_Mul, o_f_Add, o_c_clampFrac, o_cp_line, o_f_Sign, o_c_integer] Tryz.func47 (fun x => cc_formula_t x.1 x.2.1) fun _ y _ h => cc_formula_law _ _ y h
def o_fi_floor := okT 145 (P2 (P2 tM .bool) tM) (P1 (P2 tM .bool)) S_fi_floor fi_floor_L [o_fm_divide, o_fm_zero, o_fm_plus, o_f_signed] Tryz.func145 (fun x => fi_floor_t x.1 x.2.1) fun _ y _ h => fi_floor_law _ _ y h
def o_f_Floor := okT 92 (P1 tF) (P2 .str tI) S_f_Floor f_Floor_L [o_f_read, o_fi_floor, o_fi_text] Tryz.func92 (fun x => f_Floor_t x.1) fun _ y _ h => f_Floor_law _ y h
def o_fr_negated := okT 188 (P1 (P2 (P2 tM .bool) tM)) (P1 (P2 (P2 tM .bool) tM)) S_fr_negated fr_negated_L [o_fi_opposite] Tryz.func188 (fun x => fr_negated_t x.1) fun _ y _ h => fr_negated_law _ y h
def o_fr_sub := okT 150 (P2 (P2 (P2 tM .bool) tM) (P2 (P2 tM .bool) tM)) (P1 (P2 (P2 tM .bool) tM)) S_fr_sub fr_sub_L [o_fr_negated, o_fr_add] Tryz.func150 (fun x => fr_sub_t x.1 x.2.1) fun _ y _ h => fr_sub_law _ _ y h
def o_f_Sub := okT 96 (P2 tF tF) (P2 tF tI) S_f_Sub f_Sub_L [o_f_read, o_fr_sub, o_fr_write] Tryz.func96 (fun x => f_Sub_t x.1 x.2.1) fun _ y _ h => f_Sub_law _ _ y h
def o_cc_table := okT 46 (P2 (P1 tC) tF) (P2 tF tI) S_cc_table cc_table_L [o_c_integer, o_f_Mul, o_f_Floor, o_atoi, o_f_Sub, o_f_Add, o_f_Div] Tryz.func46 (fun x => cc_table_t x.1 x.2.1) fun _ y _ h => cc_table_law _ _ y h
end
end Go.Vs
set_option maxRecDepth 1000000
namespace Go.Vs
open Go Go.Vg Go.Proofs
noncomputable section
def o_cc_identity := okT 45 (P2 (P1 tC) tF) (P2 tF tI) S_cc_identity cc_identity_L [] Tryz.func45 (fun x => cc_identity_t x.1 x.2.1) fun _ y _ h => cc_identity_law _ _ y h
def o_c_Eval := okT 14 (P2 tC tF) (P2 tF tI) S_c_Eval c_Eval_L [o_c_Check, o_f_Check, o_c_clampFrac, o_cc_formula, o_cc_table, o_cc_identity] Tryz.func14 (fun x => c_Eval_t x.1 x.2.1) fun _ y _ h => c_Eval_law _ _ y h
def o_b_valid := okT 115 tB (P1 .bool) S_b_valid b_valid_L [] Tryz.func115 (fun x => b_valid_t x.1 x.2.1) fun _ y _ h => b_valid_law _ _ y h
def o_b_made := okT 116 tB (P2 tB tI) S_b_made b_made_L [o_b_valid] Tryz.func116 (fun x => b_made_t x.1 x.2.1) fun _ y _ h => b_made_law _ _ y h
def o_b_Clamp := okT 55 (P3 tB tI tI) (P2 tB tI) S_b_Clamp b_Clamp_L [o_b_valid, o_b_made] Tryz.func55 (fun x => b_Clamp_t x.1 x.2.1 x.2.2.1) fun _ y _ h => b_Clamp_law _ _ _ y h
def o_fr_near := okT 222 (P2 (P2 (P2 tM .bool) tM) tM) (P1 (P2 tM .bool)) S_fr_near fr_near_L [o_fm_times, o_fi_scaled, o_f_signed, o_fi_sum, o_fi_floor] Tryz.func222 (fun x => fr_near_t x.1 x.2.1) fun _ y _ h => fr_near_law _ _ y h
def o_w_Int := okT 221 (P1 .str) tB S_w_Int w_Int_L [o_w_Check, o_prsi] Tryz.func221 (fun x => w_Int_t x.1) fun _ y _ h => w_Int_law _ y h
def o_f_Near := okT 196 (P2 tF tI) tB S_f_Near f_Near_L [o_f_read, o_f_fromSmall, o_fr_near, o_fi_text, o_w_Int] Tryz.func196 (fun x => f_Near_t x.1 x.2.1) fun _ y _ h => f_Near_law _ _ y h
def o_b_Around := okT 160 (P1 tF) (P2 tB tI) S_b_Around b_Around_L [o_f_Near, o_f_Of, o_f_Cmp, o_b_valid, o_b_made] Tryz.func160 (fun x => b_Around_t x.1) fun _ y _ h => b_Around_law _ y h
def o_slMin := okT 251 (P1 tL) (P1 tI) S_slMin slMin_L [] Tryz.func251 (fun x => slMin_t x.1) fun _ y _ h => slMin_law _ y h
def o_b_least := okT 231 (P1 tL) (P1 tI) S_b_least b_least_L [o_slMin] Tryz.func231 (fun x => b_least_t x.1) fun _ y _ h => b_least_law _ y h
def o_slMax := okT 252 (P1 tL) (P1 tI) S_slMax slMax_L [] Tryz.func252 (fun x => slMax_t x.1) fun _ y _ h => slMax_law _ y h
def o_b_greatest := okT 232 (P1 tL) (P1 tI) S_b_greatest b_greatest_L [o_slMax] Tryz.func232 (fun x => b_greatest_t x.1) fun _ y _ h => b_greatest_law _ y h
def o_b_Hull := okT 163 (P2 tB tB) (P2 tB tI) S_b_Hull b_Hull_L [o_b_valid, o_b_least, o_b_greatest] Tryz.func163 (fun x => b_Hull_t x.1 x.2.1) fun _ y _ h => b_Hull_law _ _ y h
def o_c_hull := okT 120 (P1 (.sl tB)) (P2 tB tI) S_c_hull c_hull_L [o_b_Hull] Tryz.func120 (fun x => c_hull_t x.1) fun _ y _ h => c_hull_law _ y h
def o_c_around := okT 118 (P1 (.sl tF)) (P2 tB tI) S_c_around c_around_L [o_b_Around, o_c_hull] Tryz.func118 (fun x => c_around_t x.1) fun _ y _ h => c_around_law _ y h
def o_b_Check := okT 197 (P1 tB) (P1 tI) S_b_Check b_Check_L [o_b_valid] Tryz.func197 (fun x => b_Check_t x.1) fun _ y _ h => b_Check_law _ y h
def o_pe_valid := okT 198 (P1 tB) (P1 .bool) S_pe_valid pe_valid_L [] Tryz.func198 (fun x => pe_valid_t x.1) fun _ y _ h => pe_valid_law _ y h
def o_wm_times := okT 257 (P2 tM tM) (P1 tM) S_wm_times wm_times_L [o_wm_trim] Tryz.func257 (fun x => fm_times_t x.1 x.2.1) fun _ y _ h => fm_times_law _ _ y h
def o_wm_power := okT 242 (P2 tM tI) (P1 tM) S_wm_power wm_power_L [o_wm_times] Tryz.func242 (fun x => wm_power_t x.1 x.2.1) fun _ y _ h => wm_power_law _ _ y h
end
end Go.Vs
set_option maxRecDepth 1000000
namespace Go.Vs
open Go Go.Vg Go.Proofs
noncomputable section
def o_wm_zero := okT 246 (P1 tM) (P1 .bool) S_wm_zero wm_zero_L [] Tryz.func246 (fun x => fm_zero_t x.1) fun _ y _ h => fm_zero_law _ y h
def o_w_of := okT 241 (P2 tM .bool) (P1 (P2 tM .bool)) S_w_of w_of_L [o_wm_zero] Tryz.func241 (fun x => w_of_t x.1 x.2.1) fun _ y _ h => w_of_law _ _ y h
def o_wm_length := okT 255 (P1 tM) (P1 tI) S_wm_length wm_length_L [o_wm_zero, o_itoa] Tryz.func255 (fun x => fm_length_t x.1) fun _ y _ h => fm_length_law _ y h
def o_w_write := okT 240 (P1 (P2 tM .bool)) (P2 .str tI) S_w_write w_write_L [o_wm_length, o_wm_digits] Tryz.func240 (fun x => w_write_t x.1) fun _ y _ h => w_write_law _ y h
def o_w_Pow := okT 224 (P2 .str tI) (P2 .str tI) S_w_Pow w_Pow_L [o_w_read, o_wm_power, o_w_of, o_w_write] Tryz.func224 (fun x => w_Pow_t x.1 x.2.1) fun _ y _ h => w_Pow_law _ _ y h
def o_p_tenfold := okT 226 (P1 tI) (P1 .str) S_p_tenfold p_tenfold_L [o_rept] Tryz.func226 (fun x => p_tenfold_t x.1) fun _ y _ h => p_tenfold_law _ y h
def o_w_pair := okT 245 tF (P3 (P2 tM .bool) (P2 tM .bool) tI) S_w_pair w_pair_L [o_w_read] Tryz.func245 (fun x => w_pair_t x.1 x.2.1) fun _ y _ h => w_pair_law _ _ y h
def o_ws_product := okT 260 (P2 (P2 tM .bool) (P2 tM .bool)) (P1 (P2 tM .bool)) S_ws_product ws_product_L [o_wm_times, o_w_of] Tryz.func260 (fun x => ws_product_t x.1 x.2.1) fun _ y _ h => ws_product_law _ _ y h
def o_w_Mul := okT 225 tF (P2 .str tI) S_w_Mul w_Mul_L [o_w_pair, o_ws_product, o_w_write] Tryz.func225 (fun x => w_Mul_t x.1 x.2.1) fun _ y _ h => w_Mul_law _ _ y h
def o_wm_short := okT 267 (P2 tM (.int .u32)) (P2 tM (.int .u32)) S_wm_short wm_short_L [o_wm_trim] Tryz.func267 (fun x => fm_short_t x.1 x.2.1) fun _ y _ h => fm_short_law _ _ y h
def o_wm_compare := okT 266 (P2 tM tM) (P1 tI) S_wm_compare wm_compare_L [] Tryz.func266 (fun x => fm_compare_t x.1 x.2.1) fun _ y _ h => fm_compare_law _ _ y h
def o_w_fromSmall := okT 268 (P1 (.int .u64)) (P1 tM) S_w_fromSmall w_fromSmall_L [] Tryz.func268 (fun x => f_fromSmall_t x.1) fun _ y _ h => f_fromSmall_law _ y h
def o_wm_divide := okT 247 (P2 tM tM) (P2 tM tM) S_wm_divide wm_divide_L [o_wm_trim, o_wm_short, o_wm_compare, o_w_fromSmall, o_wm_times] Tryz.func247 (fun x => fm_divide_t x.1 x.2.1) fun _ y _ h => fm_divide_law _ _ y h
def o_wm_plus := okT 248 (P2 tM tM) (P1 tM) S_wm_plus wm_plus_L [] Tryz.func248 (fun x => fm_plus_t x.1 x.2.1) fun _ y _ h => fm_plus_law _ _ y h
def o_w_tenfold := okT 281 (P1 tI) (P1 tM) S_w_tenfold w_tenfold_L [] Tryz.func281 (fun x => w_tenfold_t x.1) fun _ y _ h => w_tenfold_law _ y h
def o_wm_root := okT 270 (P2 tM tI) (P1 tM) S_wm_root wm_root_L [o_wm_power, o_wm_divide, o_w_fromSmall, o_wm_times, o_wm_plus, o_wm_short, o_wm_compare, o_wm_zero, o_wm_length, o_w_tenfold] Tryz.func270 (fun x => wm_root_t x.1 x.2.1) fun _ y _ h => wm_root_law _ _ y h
def o_w_Root := okT 250 (P2 .str tI) (P2 .str tI) S_w_Root w_Root_L [o_w_read, o_wm_root, o_w_of, o_w_write] Tryz.func250 (fun x => w_Root_t x.1 x.2.1) fun _ y _ h => w_Root_law _ _ y h
def o_p_root := okT 228 (P2 .str tI) (P3 .str .bool tI) S_p_root p_root_L [o_w_Root, o_w_Pow] Tryz.func228 (fun x => p_root_t x.1 x.2.1) fun _ y _ h => p_root_law _ _ y h
def o_p_integer := okT 229 (P2 .str .bool) tB S_p_integer p_integer_L [o_w_Int] Tryz.func229 (fun x => p_integer_t x.1 x.2.1) fun _ y _ h => p_integer_law _ _ y h
def o_wm_minus := okT 249 (P2 tM tM) (P1 tM) S_wm_minus wm_minus_L [o_wm_trim] Tryz.func249 (fun x => fm_minus_t x.1 x.2.1) fun _ y _ h => fm_minus_law _ _ y h
end
end Go.Vs
set_option maxRecDepth 1000000
namespace Go.Vs
open Go Go.Vg Go.Proofs
noncomputable section
def o_w_Div := okT 227 tF (P3 .str .str tI) S_w_Div w_Div_L [o_w_pair, o_wm_zero, o_wm_divide, o_wm_plus, o_wm_minus, o_w_of, o_w_write] Tryz.func227 (fun x => w_Div_t x.1 x.2.1) fun _ y _ h => w_Div_law _ _ y h
def o_pp_end := okT 200 (P3 (P1 tB) tI .bool) tB S_pp_end pp_end_L [o_w_Of, o_w_Pow, o_p_tenfold, o_w_Mul, o_p_root, o_p_integer, o_w_Div] Tryz.func200 (fun x => pp_end_t x.1 x.2.1 x.2.2.1) fun _ y _ h => pp_end_law _ _ _ y h
def o_b_Of := okT 223 tB (P2 tB tI) S_b_Of b_Of_L [o_b_valid] Tryz.func223 (fun x => b_Of_t x.1 x.2.1) fun _ y _ h => b_Of_law _ _ y h
def o_p_Power := okT 161 (P3 tB tI tI) (P2 tB tI) S_p_Power p_Power_L [o_b_Check, o_pe_valid, o_pp_end, o_b_Of] Tryz.func161 (fun x => p_Power_t x.1 x.2.1 x.2.2.1) fun _ y _ h => p_Power_law _ _ _ y h
def o_b_Add := okT 162 (P2 tB tB) (P2 tB tI) S_b_Add b_Add_L [o_b_valid, o_b_made] Tryz.func162 (fun x => b_Add_t x.1 x.2.1) fun _ y _ h => b_Add_law _ _ y h
def o_cp_values := okT 119 (P3 (P3 tS tI .bool) tI tI) (P2 tB tI) S_cp_values cp_values_L [o_c_over, o_cp_line, o_c_around, o_p_Power, o_b_Around, o_b_Add, o_b_Clamp] Tryz.func119 (fun x => cp_values_t x.1 x.2.1 x.2.2.1) fun _ y _ h => cp_values_law _ _ _ y h
def o_cc_formulaBand := okT 58 (P2 (P1 tC) tB) (P2 tB tI) S_cc_formulaBand cc_formulaBand_L [o_cp_values, o_c_hull] Tryz.func58 (fun x => cc_formulaBand_t x.1 x.2.1) fun _ y _ h => cc_formulaBand_law _ _ y h
def o_cc_tableBand := okT 57 (P2 (P1 tC) tB) (P2 tB tI) S_cc_tableBand cc_tableBand_L [o_c_within, o_c_over, o_c_around, o_cc_table] Tryz.func57 (fun x => cc_tableBand_t x.1 x.2.1) fun _ y _ h => cc_tableBand_law _ _ y h
def o_cc_identityBand := okT 56 (P2 (P1 tC) tB) (P2 tB tI) S_cc_identityBand cc_identityBand_L [] Tryz.func56 (fun x => cc_identityBand_t x.1 x.2.1) fun _ y _ h => cc_identityBand_law _ _ y h
def o_c_Bands := okT 16 (P2 tC tB) (P2 tB tI) S_c_Bands c_Bands_L [o_c_Check, o_b_Clamp, o_cc_formulaBand, o_cc_tableBand, o_cc_identityBand] Tryz.func16 (fun x => c_Bands_t x.1 x.2.1) fun _ y _ h => c_Bands_law _ _ y h
def o_l9_tent := okT 35 .unit (P1 tC) S_l9_tent l9_tent_L [] Tryz.func35 (fun x => l9_tent_t) fun _ y _ h => l9_tent_law y h
def o_c_Trend := okT 25 (P1 tC) tB S_c_Trend c_Trend_L [o_c_Check] Tryz.func25 (fun x => c_Trend_t x.1) fun _ y _ h => c_Trend_law _ y h
def o_l9_value := okT 20 (P3 tC tF tF) (P1 .bool) S_l9_value l9_value_L [o_c_Eval] Tryz.func20 (fun x => l9_value_t x.1 x.2.1 x.2.2.1) fun _ y _ h => l9_value_law _ _ _ y h
def o_l9_steps := okT 36 .unit (P1 tC) S_l9_steps l9_steps_L [] Tryz.func36 (fun x => l9_steps_t) fun _ y _ h => l9_steps_law y h
def o_l9_wakes := okT 10 .unit (P1 .bool) S_l9_wakes l9_wakes_L [o_l9_root, o_l9_of, o_c_Eval, o_c_Bands, o_l9_tent, o_c_Trend, o_l9_value, o_l9_steps, o_c_Check] Tryz.func10 (fun x => l9_wakes_t) fun _ y _ h => l9_wakes_law y h
def o_r1_Right := okT 124 (P1 .str) (P1 .bool) S_r1_Right r1_Right_L [] Tryz.func124 (fun x => r1_Right_t x.1) fun _ y _ h => r1_Right_law _ y h
def o_r1_In := okT 38 (P1 .str) (P1 (P2 .bool tL)) S_r1_In r1_In_L [o_r1_made] Tryz.func38 (fun x => r1_In_t x.1) fun _ y _ h => r1_In_law _ y h
def o_r2_Right := okT 65 (P1 tF) (P1 .bool) S_r2_Right r2_Right_L [o_r1_Right, o_r1_In, o_r1_Divisor, o_r1_Text] Tryz.func65 (fun x => r2_Right_t x.1) fun _ y _ h => r2_Right_law _ y h
def o_r2_In := okT 67 (P1 tF) (P1 (P2 (P2 .bool tL) (P2 .bool tL))) S_r2_In r2_In_L [o_r1_In] Tryz.func67 (fun x => r2_In_t x.1) fun _ y _ h => r2_In_law _ y h
def o_r1_Times := okT 82 (P2 (P2 .bool tL) (P2 .bool tL)) (P1 (P2 .bool tL)) S_r1_Times r1_Times_L [o_r1_product, o_r1_made] Tryz.func82 (fun x => r1_Times_t x.1 x.2.1) fun _ y _ h => r1_Times_law _ _ y h
end
end Go.Vs
set_option maxRecDepth 1000000
namespace Go.Vs
open Go Go.Vg Go.Proofs
noncomputable section
def o_r2_Times := okT 66 (P2 (P2 (P2 .bool tL) (P2 .bool tL)) (P2 (P2 .bool tL) (P2 .bool tL))) (P1 (P2 (P2 .bool tL) (P2 .bool tL))) S_r2_Times r2_Times_L [o_r1_Times, o_r2_Lowest] Tryz.func66 (fun x => r2_Times_t x.1 x.2.1) fun _ y _ h => r2_Times_law _ _ y h
def o_r2_Mul := okT 18 (P2 tF tF) (P2 tF tI) S_r2_Mul r2_Mul_L [o_r2_Right, o_r2_In, o_r2_Times, o_r2_Out] Tryz.func18 (fun x => r2_Mul_t x.1 x.2.1) fun _ y _ h => r2_Mul_law _ _ y h
def o_r1_Raised := okT 83 (P2 (P2 .bool tL) tI) (P1 (P2 .bool tL)) S_r1_Raised r1_Raised_L [o_r1_Times, o_r1_Integer] Tryz.func83 (fun x => r1_Raised_t x.1 x.2.1) fun _ y _ h => r1_Raised_law _ _ y h
def o_r2_Raised := okT 71 (P2 (P2 (P2 .bool tL) (P2 .bool tL)) tI) (P1 (P2 (P2 .bool tL) (P2 .bool tL))) S_r2_Raised r2_Raised_L [o_r1_Raised] Tryz.func71 (fun x => r2_Raised_t x.1 x.2.1) fun _ y _ h => r2_Raised_law _ _ y h
def o_r2_Pow := okT 22 (P2 tF tI) (P2 tF tI) S_r2_Pow r2_Pow_L [o_r2_Right, o_r2_In, o_r2_Raised, o_r2_Out] Tryz.func22 (fun x => r2_Pow_t x.1 x.2.1) fun _ y _ h => r2_Pow_law _ _ y h
def o_r3_Right := okT 72 (P1 tB) (P1 .bool) S_r3_Right r3_Right_L [] Tryz.func72 (fun x => r3_Right_t x.1) fun _ y _ h => r3_Right_law _ y h
def o_r3_Value := okT 74 (P1 tI) (P1 (P2 (P2 .bool tL) (P2 .bool tL))) S_r3_Value r3_Value_L [o_r2_Quick] Tryz.func74 (fun x => r3_Value_t x.1) fun _ y _ h => r3_Value_law _ y h
def o_r1_Order := okT 127 (P2 (P2 .bool tL) (P2 .bool tL)) (P1 tI) S_r1_Order r1_Order_L [o_r1_Minus] Tryz.func127 (fun x => r1_Order_t x.1 x.2.1) fun _ y _ h => r1_Order_law _ _ y h
def o_r2_Order := okT 73 (P2 (P2 (P2 .bool tL) (P2 .bool tL)) (P2 (P2 .bool tL) (P2 .bool tL))) (P1 tI) S_r2_Order r2_Order_L [o_r1_Times, o_r1_Order] Tryz.func73 (fun x => r2_Order_t x.1 x.2.1) fun _ y _ h => r2_Order_law _ _ y h
def o_r3_Has := okT 23 (P2 tB tF) (P2 .bool tI) S_r3_Has r3_Has_L [o_r3_Right, o_r2_Right, o_r2_In, o_r3_Value, o_r2_Order] Tryz.func23 (fun x => r3_Has_t x.1 x.2.1) fun _ y _ h => r3_Has_law _ _ y h
def o_CurvePowers := okT 6 (P3 (.int .u8) (.int .u16) (.int .u16)) (P1 .bool) S_CurvePowers CurvePowers_L [o_l9_wakes, o_l9_of, o_r2_Mul, o_r2_Pow, o_c_Bands, o_r3_Has, o_l9_value] Tryz.func6 (fun x => CurvePowers_t x.1 x.2.1 x.2.2.1) fun _ y _ h => CurvePowers_law _ _ _ y h
end
end Go.Vs
