/- Facts on the functions and types of this seat that its laws are proved from: contracts under the premises that each theorem names. -/
import Derived.Test.YtfjobjbbncclbaaCta
namespace Go.Proofs.Ytfjobjbbncclbaa
open Go Go.RowKit PB
set_option linter.unusedVariables false


theorem mul_step (r a b : Int) : r * (a + b) = r * a + r * b := Int.mul_add r a b

theorem rate_walk (W : World) (a0 a1 a2 : Int) (a3 : Option Addr) (len3 cap3 : Nat) (z3 : List Int) (h3 : Ints W a3 len3 z3) (l3 : len3 ≤ 9223372036854775807) (a4 : Option Addr) (len4 cap4 : Nat) (z4 : List Int) (h4 : Ints W a4 len4 z4) (l4 : len4 ≤ 9223372036854775807) :
    FnC Try.prog 3 [.int .i64 a0, .int .i64 a1, .int .i64 a2, .slice a3 len3 cap3, .slice a4 len4 cap4] W (fun v w' => v = .bool true ∧ St W w' []) := by
  have hs := St.start W
  refine FnC.enter Try.func3 rfl Try.ntmps3 rfl fun ρ => ?_
  refine s_seq ?_
  refine s_reg ?_
  refine l_q (by exact y_as_bool rfl) ?_
  refine l_end ?_
  refine e_then ?_
  refine s_seq ?_
  refine s_seq ?_
  refine s_reg ?_
  refine l_w (w_call rfl (fact_c hs) rfl (fun _ w h => ?_))
  obtain ⟨rfl, hs⟩ := h
  refine l_q (by first | exact y_not_t rfl | exact y_not_f rfl | exact y_notd rfl) ?_
  refine l_end ?_
  refine e_then ?_
  refine cond_f rfl ?_
  refine s_skip ?_
  refine e_then ?_
  refine s_seq ?_
  refine s_reg ?_
  refine l_q (by exact y_mv_int rfl) ?_
  refine l_q (by exact y_mv_int rfl) ?_
  refine l_q (by exact y_mv_int rfl) ?_
  refine l_w (w_call rfl (filled_c hs _ _ _) rfl (fun _ w h => ?_))
  obtain ⟨rfl, hs⟩ := h
  refine l_w (w_alloc (cs := [_, _, _, _]) hs rfl (fun b11 w hs hb11 => ?_))
  refine l_w (w_storeA (vs := [_, _, _, _]) hs rfl rfl rfl rfl rfl (fun w hs => ?_))
  refine l_end ?_
  refine e_then ?_
  refine s_seq ?_
  refine s_reg ?_
  refine l_q (by exact y_as_int rfl) ?_
  refine l_q (by exact y_as_int rfl) ?_
  refine l_end ?_
  refine e_then ?_
  refine s_seq ?_
  refine s_seq ?_
  refine s_reg ?_
  refine l_q (by exact y_as_int rfl) ?_
  refine l_end ?_
  refine e_then ?_
  refine s_block ?_
  have r0 : 0 ≤ a0 % 5000 := Int.emod_nonneg _ (by decide)
  have r1 : a0 % 5000 < 5000 := Int.emod_lt_of_pos _ (by decide)
  have B0 : 1 ≤ 1 + a1 % 50 := by omega
  have B1 : 1 + a1 % 50 ≤ 50 := by omega
  have L0 : 0 ≤ a2 % (1000 * (1 + a1 % 50) + 1) := Int.emod_nonneg _ (by omega)
  have L1 : a2 % (1000 * (1 + a1 % 50) + 1) < 1000 * (1 + a1 % 50) + 1 := Int.emod_lt_of_pos _ (by omega)
  generalize a0 % 5000 = r at *
  generalize 1 + a1 % 50 = B at *
  generalize a2 % (1000 * B + 1) = lv at *
  refine loop_st (X := Nat × Int × Int × Int) (fun x => [(3, .slice a3 len3 cap3), (4, .slice a4 len4 cap4), (11, .pointer (some ⟨b11, 0, none⟩)), (12, .int .i64 x.2.1), (13, .int .i64 x.2.2.1), (14, .int .i64 x.1)])
    (fun x w => St W w [(b11, .cells [.int .i64 r, .int .i64 B, .int .i64 x.2.2.2, .int .i64 x.2.1] 25)] ∧ x.1 ≤ 60 ∧ 0 ≤ x.2.1 ∧ x.2.1 ≤ 300 * x.1 ∧ 0 ≤ x.2.2.1 ∧ x.2.2.1 ≤ 60 * x.1 ∧ 0 ≤ x.2.2.2 ∧ x.2.2.2 ≤ 1000 * B ∧
      1000 * x.2.2.1 + x.2.2.2 ≤ 1000 * B + r * x.2.1) (fun x => 60 - x.1) (0, 0, 0, lv) ⟨rfl, rfl, rfl, rfl, rfl, rfl, trivial⟩ ⟨hs, by dsimp only; omega, by dsimp only; omega, by dsimp only; omega, by dsimp only; omega, by dsimp only; omega, by dsimp only; omega, by dsimp only; omega, by dsimp only; omega⟩ ?_
  rintro ⟨i, now, taken, l⟩ ρ w ⟨hs, i1, n0, n1, t0, t1, l0, lB, inv⟩
  dsimp only at *
  by_cases c1 : i < len3
  · by_cases c2 : i < len4
    · by_cases c3 : i < 60
      · obtain ⟨x3, ha3, hc3⟩ := h3.at_ i c1
        obtain ⟨x4, ha4, hc4⟩ := h4.at_ i c2
        generalize z3.getD i 0 = u3 at *
        generalize z4.getD i 0 = u4 at *
        have V : Vld r B l now := by constructor <;> omega
        have hl := lev_bd V (now := now + u4 % 300) (by omega) (by omega)
        have hst := mul_step r now (u4 % 300)
        have hd : r * (now + u4 % 300 - now) = r * (u4 % 300) := by congr 1; omega
        have hbb := mul_bd r (now + u4 % 300) r0 (by omega) (by omega) (by omega)
        rw [hd] at hl
        by_cases hlv : lev r B l now (now + u4 % 300) < 1000 * (u3 % 60)
        · refine s_seq ?_
          refine s_seq ?_
          refine s_reg ?_
          refine l_q (by exact y_mv_int rfl) ?_
          refine l_q (by exact y_mv_slice rfl) ?_
          refine l_q (by exact y_len_slice rfl) ?_
          refine l_q (by first | exact y_lss rfl rfl (decide_eq_true (by omega)) | exact y_lss rfl rfl (decide_eq_false (by omega)) | exact y_lss rfl rfl rfl) ?_
          refine l_q (by exact y_mv_bool rfl) ?_
          first | refine l_gskip rfl rfl ?_ | refine l_gdo rfl rfl (by exact y_mv_int rfl) ?_
          first | refine l_gskip rfl rfl ?_ | refine l_gdo rfl rfl (by exact y_mv_slice rfl) ?_
          first | refine l_gskip rfl rfl ?_ | refine l_gdo rfl rfl (by exact y_len_slice rfl) ?_
          first | refine l_gskip rfl rfl ?_ | refine l_gdo rfl rfl (by first | exact y_lss rfl rfl (decide_eq_true (by omega)) | exact y_lss rfl rfl (decide_eq_false (by omega)) | exact y_lss rfl rfl rfl) ?_
          refine l_q (by first | exact y_pk_bt rfl rfl | exact y_pk_bf rfl rfl) ?_
          refine l_q (by exact y_mv_bool rfl) ?_
          first | refine l_gskip rfl rfl ?_ | refine l_gdo rfl rfl (by exact y_mv_int rfl) ?_
          first | refine l_gskip rfl rfl ?_ | refine l_gdo rfl rfl (by first | exact y_lss rfl rfl (decide_eq_true (by omega)) | exact y_lss rfl rfl (decide_eq_false (by omega)) | exact y_lss rfl rfl rfl) ?_
          refine l_q (by first | exact y_pk_bt rfl rfl | exact y_pk_bf rfl rfl) ?_
          refine l_end ?_
          refine e_then ?_
          refine cond_t rfl ?_
          refine s_skip ?_
          refine e_then ?_
          refine s_seq ?_
          refine s_block ?_
          refine s_seq ?_
          refine s_reg ?_
          refine l_q (by exact y_mv_int rfl) ?_
          refine l_q (by exact y_mv_slice rfl) ?_
          refine l_q (by exact y_mv_int rfl) ?_
          refine l_q (by exact y_indexA1 rfl rfl (by omega) (by omega) ha4) ?_
          refine l_q (by exact y_ldOld hs rfl hc4) ?_
          refine l_w (w_call rfl (rest_c _ _ _ (by omega) (by omega)) rfl (fun _ w h => ?_))
          obtain ⟨rfl, rfl⟩ := h
          refine l_q (by first | exact y_addn rfl rfl (by omega) | exact y_add rfl rfl rfl) ?_
          refine l_q (by exact y_as_int rfl) ?_
          refine l_end ?_
          refine e_then ?_
          refine s_seq ?_
          refine s_reg ?_
          refine l_q (by exact y_mv_slice rfl) ?_
          refine l_q (by exact y_mv_int rfl) ?_
          refine l_q (by exact y_indexA1 rfl rfl (by omega) (by omega) ha3) ?_
          refine l_q (by exact y_ldOld hs rfl hc3) ?_
          refine l_w (w_call rfl (rest_c _ _ _ (by omega) (by omega)) rfl (fun _ w h => ?_))
          obtain ⟨rfl, rfl⟩ := h
          refine l_q (by exact y_as_int rfl) ?_
          refine l_end ?_
          refine e_then ?_
          refine s_seq ?_
          refine s_reg ?_
          refine l_q (by exact y_ldA (vs := [_, _, _, _]) hs rfl rfl rfl) ?_
          refine l_q (by exact y_mv_int rfl) ?_
          refine l_q (by exact y_mv_int rfl) ?_
          refine l_w (w_call rfl (by first | exact take_no hs (by constructor <;> omega) (by omega) (by omega) (by omega) (by omega) (by omega) | exact take_yes hs (by constructor <;> omega) (by omega) (by omega) (by omega) (by omega) (by omega)) rfl (fun _ w h => ?_))
          obtain ⟨rfl, hs⟩ := h
          refine l_q (by exact y_mv_tuple rfl) ?_
          refine l_q (by exact y_extract rfl rfl) ?_
          refine l_q (by exact y_extract rfl rfl) ?_
          refine l_q (by exact y_extract rfl rfl) ?_
          refine l_w (w_alloc (cs := [_, _, _, _]) hs rfl (fun b16 w hs hb16 => ?_))
          refine l_w (w_storeA (vs := [_, _, _, _]) hs rfl rfl rfl rfl rfl (fun w hs => ?_))
          refine l_q (by exact y_as_bool rfl) ?_
          refine l_q (by exact y_as_int rfl) ?_
          refine l_end ?_
          refine e_then ?_
          refine s_seq ?_
          refine s_seq ?_
          refine s_reg ?_
          refine l_q (by exact y_mv_int rfl) ?_
          refine l_q (by first | exact y_neq rfl rfl (decide_eq_true (by omega)) | exact y_neq rfl rfl (decide_eq_false (by omega)) | exact y_neq rfl rfl rfl) ?_
          refine l_q (by exact y_mv_bool rfl) ?_
          first | refine l_gskip rfl rfl ?_ | refine l_gdo rfl rfl (by exact y_ldA (vs := [_, _, _, _]) hs rfl rfl rfl) ?_
          first | refine l_gskip rfl rfl ?_ | (refine l_gw rfl rfl (w_call rfl (check_c hs (by constructor <;> omega)) rfl (fun _ w h => ?_)); obtain ⟨rfl, hs⟩ := h)
          first | refine l_gskip rfl rfl ?_ | refine l_gdo rfl rfl (by first | exact y_neq rfl rfl (decide_eq_true (by omega)) | exact y_neq rfl rfl (decide_eq_false (by omega)) | exact y_neq rfl rfl rfl) ?_
          refine l_q (by first | exact y_pk_bt rfl rfl | exact y_pk_bf rfl rfl) ?_
          refine l_end ?_
          refine e_then ?_
          refine cond_f rfl ?_
          refine s_skip ?_
          refine e_then ?_
          refine s_seq ?_
          refine s_seq ?_
          refine s_reg ?_
          refine l_q (by exact y_mv_bool rfl) ?_
          refine l_end ?_
          refine e_then ?_
          refine cond_f rfl ?_
          refine s_skip ?_
          refine e_then ?_
          refine s_seq ?_
          refine s_seq ?_
          refine s_reg ?_
          refine l_q (by exact y_mv_int rfl) ?_
          refine l_q (by first | exact y_muln rfl rfl (by omega) | exact y_mul rfl rfl rfl) ?_
          refine l_q (by exact y_field rfl) ?_
          refine l_q (by exact y_ld hs rfl rfl) ?_
          refine l_q (by first | exact y_muln rfl rfl (by omega) | exact y_mul rfl rfl rfl) ?_
          refine l_q (by exact y_field rfl) ?_
          refine l_q (by exact y_ld hs rfl rfl) ?_
          refine l_q (by exact y_mv_int rfl) ?_
          refine l_q (by first | exact y_muln rfl rfl (by omega) | exact y_mul rfl rfl rfl) ?_
          refine l_q (by first | exact y_addn rfl rfl (by omega) | exact y_add rfl rfl rfl) ?_
          refine l_q (by first | exact y_gtr rfl rfl (decide_eq_true (by omega)) | exact y_gtr rfl rfl (decide_eq_false (by omega)) | exact y_gtr rfl rfl rfl) ?_
          refine l_end ?_
          refine e_then ?_
          refine cond_f rfl ?_
          refine s_skip ?_
          refine e_then ?_
          refine s_reg ?_
          refine l_q (by exact y_ldA (vs := [_, _, _, _]) hs rfl rfl rfl) ?_
          refine l_w (w_storeA (vs := [_, _, _, _]) hs rfl rfl rfl rfl rfl (fun w hs => ?_))
          refine l_end ?_
          refine e_blk ?_
          refine e_then ?_
          refine s_reg ?_
          refine l_q (by exact y_mv_int rfl) ?_
          refine l_q (by first | exact y_addn rfl rfl (by omega) | exact y_add rfl rfl rfl) ?_
          refine l_q (by exact y_as_int rfl) ?_
          refine l_end ?_
          refine e_then ?_
          refine ⟨(i + 1, now + u4 % 300, taken, lev r B l now (now + u4 % 300)), _, nx ⟨rfl, rfl, rfl, rfl, rfl, rfl, trivial⟩, ⟨hs.tail, ?_, ?_, ?_, ?_, ?_, ?_, ?_, ?_⟩, ?_⟩ <;> dsimp only <;> omega
        · refine s_seq ?_
          refine s_seq ?_
          refine s_reg ?_
          refine l_q (by exact y_mv_int rfl) ?_
          refine l_q (by exact y_mv_slice rfl) ?_
          refine l_q (by exact y_len_slice rfl) ?_
          refine l_q (by first | exact y_lss rfl rfl (decide_eq_true (by omega)) | exact y_lss rfl rfl (decide_eq_false (by omega)) | exact y_lss rfl rfl rfl) ?_
          refine l_q (by exact y_mv_bool rfl) ?_
          first | refine l_gskip rfl rfl ?_ | refine l_gdo rfl rfl (by exact y_mv_int rfl) ?_
          first | refine l_gskip rfl rfl ?_ | refine l_gdo rfl rfl (by exact y_mv_slice rfl) ?_
          first | refine l_gskip rfl rfl ?_ | refine l_gdo rfl rfl (by exact y_len_slice rfl) ?_
          first | refine l_gskip rfl rfl ?_ | refine l_gdo rfl rfl (by first | exact y_lss rfl rfl (decide_eq_true (by omega)) | exact y_lss rfl rfl (decide_eq_false (by omega)) | exact y_lss rfl rfl rfl) ?_
          refine l_q (by first | exact y_pk_bt rfl rfl | exact y_pk_bf rfl rfl) ?_
          refine l_q (by exact y_mv_bool rfl) ?_
          first | refine l_gskip rfl rfl ?_ | refine l_gdo rfl rfl (by exact y_mv_int rfl) ?_
          first | refine l_gskip rfl rfl ?_ | refine l_gdo rfl rfl (by first | exact y_lss rfl rfl (decide_eq_true (by omega)) | exact y_lss rfl rfl (decide_eq_false (by omega)) | exact y_lss rfl rfl rfl) ?_
          refine l_q (by first | exact y_pk_bt rfl rfl | exact y_pk_bf rfl rfl) ?_
          refine l_end ?_
          refine e_then ?_
          refine cond_t rfl ?_
          refine s_skip ?_
          refine e_then ?_
          refine s_seq ?_
          refine s_block ?_
          refine s_seq ?_
          refine s_reg ?_
          refine l_q (by exact y_mv_int rfl) ?_
          refine l_q (by exact y_mv_slice rfl) ?_
          refine l_q (by exact y_mv_int rfl) ?_
          refine l_q (by exact y_indexA1 rfl rfl (by omega) (by omega) ha4) ?_
          refine l_q (by exact y_ldOld hs rfl hc4) ?_
          refine l_w (w_call rfl (rest_c _ _ _ (by omega) (by omega)) rfl (fun _ w h => ?_))
          obtain ⟨rfl, rfl⟩ := h
          refine l_q (by first | exact y_addn rfl rfl (by omega) | exact y_add rfl rfl rfl) ?_
          refine l_q (by exact y_as_int rfl) ?_
          refine l_end ?_
          refine e_then ?_
          refine s_seq ?_
          refine s_reg ?_
          refine l_q (by exact y_mv_slice rfl) ?_
          refine l_q (by exact y_mv_int rfl) ?_
          refine l_q (by exact y_indexA1 rfl rfl (by omega) (by omega) ha3) ?_
          refine l_q (by exact y_ldOld hs rfl hc3) ?_
          refine l_w (w_call rfl (rest_c _ _ _ (by omega) (by omega)) rfl (fun _ w h => ?_))
          obtain ⟨rfl, rfl⟩ := h
          refine l_q (by exact y_as_int rfl) ?_
          refine l_end ?_
          refine e_then ?_
          refine s_seq ?_
          refine s_reg ?_
          refine l_q (by exact y_ldA (vs := [_, _, _, _]) hs rfl rfl rfl) ?_
          refine l_q (by exact y_mv_int rfl) ?_
          refine l_q (by exact y_mv_int rfl) ?_
          refine l_w (w_call rfl (by first | exact take_no hs (by constructor <;> omega) (by omega) (by omega) (by omega) (by omega) (by omega) | exact take_yes hs (by constructor <;> omega) (by omega) (by omega) (by omega) (by omega) (by omega)) rfl (fun _ w h => ?_))
          obtain ⟨rfl, hs⟩ := h
          refine l_q (by exact y_mv_tuple rfl) ?_
          refine l_q (by exact y_extract rfl rfl) ?_
          refine l_q (by exact y_extract rfl rfl) ?_
          refine l_q (by exact y_extract rfl rfl) ?_
          refine l_w (w_alloc (cs := [_, _, _, _]) hs rfl (fun b16 w hs hb16 => ?_))
          refine l_w (w_storeA (vs := [_, _, _, _]) hs rfl rfl rfl rfl rfl (fun w hs => ?_))
          refine l_q (by exact y_as_bool rfl) ?_
          refine l_q (by exact y_as_int rfl) ?_
          refine l_end ?_
          refine e_then ?_
          refine s_seq ?_
          refine s_seq ?_
          refine s_reg ?_
          refine l_q (by exact y_mv_int rfl) ?_
          refine l_q (by first | exact y_neq rfl rfl (decide_eq_true (by omega)) | exact y_neq rfl rfl (decide_eq_false (by omega)) | exact y_neq rfl rfl rfl) ?_
          refine l_q (by exact y_mv_bool rfl) ?_
          first | refine l_gskip rfl rfl ?_ | refine l_gdo rfl rfl (by exact y_ldA (vs := [_, _, _, _]) hs rfl rfl rfl) ?_
          first | refine l_gskip rfl rfl ?_ | (refine l_gw rfl rfl (w_call rfl (check_c hs (by constructor <;> omega)) rfl (fun _ w h => ?_)); obtain ⟨rfl, hs⟩ := h)
          first | refine l_gskip rfl rfl ?_ | refine l_gdo rfl rfl (by first | exact y_neq rfl rfl (decide_eq_true (by omega)) | exact y_neq rfl rfl (decide_eq_false (by omega)) | exact y_neq rfl rfl rfl) ?_
          refine l_q (by first | exact y_pk_bt rfl rfl | exact y_pk_bf rfl rfl) ?_
          refine l_end ?_
          refine e_then ?_
          refine cond_f rfl ?_
          refine s_skip ?_
          refine e_then ?_
          refine s_seq ?_
          refine s_seq ?_
          refine s_reg ?_
          refine l_q (by exact y_mv_bool rfl) ?_
          refine l_end ?_
          refine e_then ?_
          refine cond_t rfl ?_
          refine s_reg ?_
          refine l_q (by exact y_mv_int rfl) ?_
          refine l_q (by exact y_mv_int rfl) ?_
          refine l_q (by first | exact y_addn rfl rfl (by omega) | exact y_add rfl rfl rfl) ?_
          refine l_q (by exact y_as_int rfl) ?_
          refine l_end ?_
          refine e_then ?_
          refine s_seq ?_
          refine s_seq ?_
          refine s_reg ?_
          refine l_q (by exact y_mv_int rfl) ?_
          refine l_q (by first | exact y_muln rfl rfl (by omega) | exact y_mul rfl rfl rfl) ?_
          refine l_q (by exact y_field rfl) ?_
          refine l_q (by exact y_ld hs rfl rfl) ?_
          refine l_q (by first | exact y_muln rfl rfl (by omega) | exact y_mul rfl rfl rfl) ?_
          refine l_q (by exact y_field rfl) ?_
          refine l_q (by exact y_ld hs rfl rfl) ?_
          refine l_q (by exact y_mv_int rfl) ?_
          refine l_q (by first | exact y_muln rfl rfl (by omega) | exact y_mul rfl rfl rfl) ?_
          refine l_q (by first | exact y_addn rfl rfl (by omega) | exact y_add rfl rfl rfl) ?_
          refine l_q (by first | exact y_gtr rfl rfl (decide_eq_true (by omega)) | exact y_gtr rfl rfl (decide_eq_false (by omega)) | exact y_gtr rfl rfl rfl) ?_
          refine l_end ?_
          refine e_then ?_
          refine cond_f rfl ?_
          refine s_skip ?_
          refine e_then ?_
          refine s_reg ?_
          refine l_q (by exact y_ldA (vs := [_, _, _, _]) hs rfl rfl rfl) ?_
          refine l_w (w_storeA (vs := [_, _, _, _]) hs rfl rfl rfl rfl rfl (fun w hs => ?_))
          refine l_end ?_
          refine e_blk ?_
          refine e_then ?_
          refine s_reg ?_
          refine l_q (by exact y_mv_int rfl) ?_
          refine l_q (by first | exact y_addn rfl rfl (by omega) | exact y_add rfl rfl rfl) ?_
          refine l_q (by exact y_as_int rfl) ?_
          refine l_end ?_
          refine e_then ?_
          refine ⟨(i + 1, now + u4 % 300, taken + u3 % 60, lev r B l now (now + u4 % 300) - 1000 * (u3 % 60)), _, nx ⟨rfl, rfl, rfl, rfl, rfl, rfl, trivial⟩, ⟨hs.tail, ?_, ?_, ?_, ?_, ?_, ?_, ?_, ?_⟩, ?_⟩ <;> dsimp only <;> omega
      · refine s_seq ?_
        refine s_seq ?_
        refine s_reg ?_
        refine l_q (by exact y_mv_int rfl) ?_
        refine l_q (by exact y_mv_slice rfl) ?_
        refine l_q (by exact y_len_slice rfl) ?_
        refine l_q (by first | exact y_lss rfl rfl (decide_eq_true (by omega)) | exact y_lss rfl rfl (decide_eq_false (by omega)) | exact y_lss rfl rfl rfl) ?_
        refine l_q (by exact y_mv_bool rfl) ?_
        first | refine l_gskip rfl rfl ?_ | refine l_gdo rfl rfl (by exact y_mv_int rfl) ?_
        first | refine l_gskip rfl rfl ?_ | refine l_gdo rfl rfl (by exact y_mv_slice rfl) ?_
        first | refine l_gskip rfl rfl ?_ | refine l_gdo rfl rfl (by exact y_len_slice rfl) ?_
        first | refine l_gskip rfl rfl ?_ | refine l_gdo rfl rfl (by first | exact y_lss rfl rfl (decide_eq_true (by omega)) | exact y_lss rfl rfl (decide_eq_false (by omega)) | exact y_lss rfl rfl rfl) ?_
        refine l_q (by first | exact y_pk_bt rfl rfl | exact y_pk_bf rfl rfl) ?_
        refine l_q (by exact y_mv_bool rfl) ?_
        first | refine l_gskip rfl rfl ?_ | refine l_gdo rfl rfl (by exact y_mv_int rfl) ?_
        first | refine l_gskip rfl rfl ?_ | refine l_gdo rfl rfl (by first | exact y_lss rfl rfl (decide_eq_true (by omega)) | exact y_lss rfl rfl (decide_eq_false (by omega)) | exact y_lss rfl rfl rfl) ?_
        refine l_q (by first | exact y_pk_bt rfl rfl | exact y_pk_bf rfl rfl) ?_
        refine l_end ?_
        refine e_then ?_
        refine cond_f rfl ?_
        refine s_exit ?_
        refine e_then_x ?_
        refine e_then_x ?_
        refine e_blk_x ?_
        refine e_then ?_
        refine s_seq ?_
        refine s_reg ?_
        refine l_q (by exact y_as_bool rfl) ?_
        refine l_end ?_
        refine e_then ?_
        refine s_ret ?_
        exact ret_ [.bool _] rfl ⟨rfl, trivial⟩ ⟨rfl, hs.tail⟩
    · refine s_seq ?_
      refine s_seq ?_
      refine s_reg ?_
      refine l_q (by exact y_mv_int rfl) ?_
      refine l_q (by exact y_mv_slice rfl) ?_
      refine l_q (by exact y_len_slice rfl) ?_
      refine l_q (by first | exact y_lss rfl rfl (decide_eq_true (by omega)) | exact y_lss rfl rfl (decide_eq_false (by omega)) | exact y_lss rfl rfl rfl) ?_
      refine l_q (by exact y_mv_bool rfl) ?_
      first | refine l_gskip rfl rfl ?_ | refine l_gdo rfl rfl (by exact y_mv_int rfl) ?_
      first | refine l_gskip rfl rfl ?_ | refine l_gdo rfl rfl (by exact y_mv_slice rfl) ?_
      first | refine l_gskip rfl rfl ?_ | refine l_gdo rfl rfl (by exact y_len_slice rfl) ?_
      first | refine l_gskip rfl rfl ?_ | refine l_gdo rfl rfl (by first | exact y_lss rfl rfl (decide_eq_true (by omega)) | exact y_lss rfl rfl (decide_eq_false (by omega)) | exact y_lss rfl rfl rfl) ?_
      refine l_q (by first | exact y_pk_bt rfl rfl | exact y_pk_bf rfl rfl) ?_
      refine l_q (by exact y_mv_bool rfl) ?_
      first | refine l_gskip rfl rfl ?_ | refine l_gdo rfl rfl (by exact y_mv_int rfl) ?_
      first | refine l_gskip rfl rfl ?_ | refine l_gdo rfl rfl (by first | exact y_lss rfl rfl (decide_eq_true (by omega)) | exact y_lss rfl rfl (decide_eq_false (by omega)) | exact y_lss rfl rfl rfl) ?_
      refine l_q (by first | exact y_pk_bt rfl rfl | exact y_pk_bf rfl rfl) ?_
      refine l_end ?_
      refine e_then ?_
      refine cond_f rfl ?_
      refine s_exit ?_
      refine e_then_x ?_
      refine e_then_x ?_
      refine e_blk_x ?_
      refine e_then ?_
      refine s_seq ?_
      refine s_reg ?_
      refine l_q (by exact y_as_bool rfl) ?_
      refine l_end ?_
      refine e_then ?_
      refine s_ret ?_
      exact ret_ [.bool _] rfl ⟨rfl, trivial⟩ ⟨rfl, hs.tail⟩
  · refine s_seq ?_
    refine s_seq ?_
    refine s_reg ?_
    refine l_q (by exact y_mv_int rfl) ?_
    refine l_q (by exact y_mv_slice rfl) ?_
    refine l_q (by exact y_len_slice rfl) ?_
    refine l_q (by first | exact y_lss rfl rfl (decide_eq_true (by omega)) | exact y_lss rfl rfl (decide_eq_false (by omega)) | exact y_lss rfl rfl rfl) ?_
    refine l_q (by exact y_mv_bool rfl) ?_
    first | refine l_gskip rfl rfl ?_ | refine l_gdo rfl rfl (by exact y_mv_int rfl) ?_
    first | refine l_gskip rfl rfl ?_ | refine l_gdo rfl rfl (by exact y_mv_slice rfl) ?_
    first | refine l_gskip rfl rfl ?_ | refine l_gdo rfl rfl (by exact y_len_slice rfl) ?_
    first | refine l_gskip rfl rfl ?_ | refine l_gdo rfl rfl (by first | exact y_lss rfl rfl (decide_eq_true (by omega)) | exact y_lss rfl rfl (decide_eq_false (by omega)) | exact y_lss rfl rfl rfl) ?_
    refine l_q (by first | exact y_pk_bt rfl rfl | exact y_pk_bf rfl rfl) ?_
    refine l_q (by exact y_mv_bool rfl) ?_
    first | refine l_gskip rfl rfl ?_ | refine l_gdo rfl rfl (by exact y_mv_int rfl) ?_
    first | refine l_gskip rfl rfl ?_ | refine l_gdo rfl rfl (by first | exact y_lss rfl rfl (decide_eq_true (by omega)) | exact y_lss rfl rfl (decide_eq_false (by omega)) | exact y_lss rfl rfl rfl) ?_
    refine l_q (by first | exact y_pk_bt rfl rfl | exact y_pk_bf rfl rfl) ?_
    refine l_end ?_
    refine e_then ?_
    refine cond_f rfl ?_
    refine s_exit ?_
    refine e_then_x ?_
    refine e_then_x ?_
    refine e_blk_x ?_
    refine e_then ?_
    refine s_seq ?_
    refine s_reg ?_
    refine l_q (by exact y_as_bool rfl) ?_
    refine l_end ?_
    refine e_then ?_
    refine s_ret ?_
    exact ret_ [.bool _] rfl ⟨rfl, trivial⟩ ⟨rfl, hs.tail⟩
end Go.Proofs.Ytfjobjbbncclbaa
