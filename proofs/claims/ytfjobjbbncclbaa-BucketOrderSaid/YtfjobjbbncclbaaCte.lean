/- Facts on the functions and types of this seat that its laws are proved from: contracts under the premises that each theorem names. -/
import Derived.Test.YtfjobjbbncclbaaCtd
namespace Go.Proofs.Ytfjobjbbncclbaa
open Go Go.RowKit PB
set_option linter.unusedVariables false

theorem filled_e {W0 w : World} {L : List (Nat × MObj)} (hs : St W0 w L) {a b c r B l : Int} (h1 : a % 5000 = r) (h2 : 1 + b % 50 = B) (h3 : c % (1000 * B + 1) = l) :
    FnC Try.prog 8 [.int .i64 a, .int .i64 b, .int .i64 c] w (fun v w' => v = .agg #[.int .i64 r, .int .i64 B, .int .i64 l, .int .i64 0] ∧ St W0 w' L) := by
  subst h1 h2 h3
  exact filled_c hs a b c
theorem rest_e {a b q : Int} (w : World) (h : a % b = q) (hb : 0 < b) (hb2 : b ≤ 1000000000) : FnC Try.prog 9 [.int .i64 a, .int .i64 b] w (fun v w' => v = .int .i64 q ∧ w' = w) := by
  subst h
  exact rest_c a b w hb hb2

theorem wait_1 {W0 w : World} {L : List (Nat × MObj)} (hs : St W0 w L) {r B l t n now : Int} (V : Vld r B l t) (n0 : 0 ≤ n) (n1 : n ≤ 1000000) (m0 : t ≤ now) (m1 : now ≤ 1000000000) (h1 : 1000 * n ≤ lev r B l t now) :
    FnC Try.prog 12 [.agg #[.int .i64 r, .int .i64 B, .int .i64 l, .int .i64 t], .int .i64 n, .int .i64 now] w (fun v w' => v = .tuple #[.int .i64 0, .int .i64 0] ∧ St W0 w' L) := by
  have := wait_c hs V n0 n1 m0 m1; unfold waitV at this; rw [if_pos (by omega)] at this; exact this
theorem wait_2 {W0 w : World} {L : List (Nat × MObj)} (hs : St W0 w L) {r B l t n now : Int} (V : Vld r B l t) (n0 : 0 ≤ n) (n1 : n ≤ 1000000) (m0 : t ≤ now) (m1 : now ≤ 1000000000) (h1 : lev r B l t now < 1000 * n) (h2 : B < n) :
    FnC Try.prog 12 [.agg #[.int .i64 r, .int .i64 B, .int .i64 l, .int .i64 t], .int .i64 n, .int .i64 now] w (fun v w' => v = .tuple #[.int .i64 0, .int .i64 10] ∧ St W0 w' L) := by
  have := wait_c hs V n0 n1 m0 m1; unfold waitV at this; rw [if_neg (by omega), if_pos h2] at this; exact this
theorem wait_3 {W0 w : World} {L : List (Nat × MObj)} (hs : St W0 w L) {r B l t n now : Int} (V : Vld r B l t) (n0 : 0 ≤ n) (n1 : n ≤ 1000000) (m0 : t ≤ now) (m1 : now ≤ 1000000000) (h1 : lev r B l t now < 1000 * n) (h2 : n ≤ B) (h3 : r = 0) :
    FnC Try.prog 12 [.agg #[.int .i64 r, .int .i64 B, .int .i64 l, .int .i64 t], .int .i64 n, .int .i64 now] w (fun v w' => v = .tuple #[.int .i64 0, .int .i64 4] ∧ St W0 w' L) := by
  have := wait_c hs V n0 n1 m0 m1; unfold waitV at this; rw [if_neg (by omega), if_neg (by omega), if_pos h3] at this; exact this
theorem wait_4 {W0 w : World} {L : List (Nat × MObj)} (hs : St W0 w L) {r B l t n now q : Int} (V : Vld r B l t) (n0 : 0 ≤ n) (n1 : n ≤ 1000000) (m0 : t ≤ now) (m1 : now ≤ 1000000000) (h1 : lev r B l t now < 1000 * n) (h2 : n ≤ B) (h3 : r ≠ 0)
    (hq : (1000 * n - lev r B l t now + r - 1) / r = q) :
    FnC Try.prog 12 [.agg #[.int .i64 r, .int .i64 B, .int .i64 l, .int .i64 t], .int .i64 n, .int .i64 now] w (fun v w' => v = .tuple #[.int .i64 q, .int .i64 0] ∧ St W0 w' L) := by
  subst hq
  have := wait_c hs V n0 n1 m0 m1; unfold waitV at this; rw [if_neg (by omega), if_neg (by omega), if_neg h3] at this; exact this

/-- The waiting time: behind it there are enough, one tick earlier there are not. -/
theorem wait_spec {r B l t n now q : Int} (V : Vld r B l t) (m0 : t ≤ now) (hn : n ≤ B) (h1 : lev r B l t now < 1000 * n) (h3 : r ≠ 0) (hq : (1000 * n - lev r B l t now + r - 1) / r = q) :
    1 ≤ q ∧ q ≤ 1000 * n - lev r B l t now ∧ 1000 * n ≤ lev r B l t (now + q) ∧ lev r B l t (now + q - 1) < 1000 * n := by
  have r0 := V.r0
  have hr : 0 < r := by omega
  have a1 := Int.mul_ediv_self_le (x := 1000 * n - lev r B l t now + r - 1) (k := r) (by omega)
  have a2 := Int.lt_mul_ediv_self_add (x := 1000 * n - lev r B l t now + r - 1) (k := r) hr
  rw [hq] at a1 a2
  have q1 : 1 ≤ q := by
    rw [← hq]
    exact (Int.le_ediv_iff_mul_le hr).2 (by omega)
  have hle : l + r * (now - t) = lev r B l t now := by unfold lev at *; split at h1 <;> omega
  have q2 : q ≤ r * q := by
    have := Int.mul_le_mul_of_nonneg_right (show 1 ≤ r by omega) (show 0 ≤ q by omega)
    omega
  have q3 : q ≤ 1000 * n - lev r B l t now := by
    have h4 : (r - 1) * (q - 1) ≥ 0 := Int.mul_nonneg (by omega) (by omega)
    have h5 : (r - 1) * (q - 1) = r * q - r - q + 1 := by rw [Int.sub_mul, Int.mul_sub]; omega
    omega
  have e1 : r * (now + q - t) = r * (now - t) + r * q := by rw [show now + q - t = (now - t) + q by omega, Int.mul_add]
  have e2 : r * (now + q - 1 - t) = r * (now - t) + r * q - r := by rw [show now + q - 1 - t = (now - t) + q + (-1) by omega, Int.mul_add, Int.mul_add]; omega
  refine ⟨q1, q3, ?_, ?_⟩
  · unfold lev; rw [e1]; split <;> omega
  · unfold lev; rw [e2]; split <;> omega


theorem waits_walk (W : World) (a0 a1 a2 a3 a4 : Int) : FnC Try.prog 5 [.int .i64 a0, .int .i64 a1, .int .i64 a2, .int .i64 a3, .int .i64 a4] W (fun v w' => v = .bool true ∧ St W w' []) := by
  have hs := St.start W
  obtain ⟨r, hr⟩ : ∃ r, a0 % 5000 = r := ⟨_, rfl⟩
  obtain ⟨B, hB⟩ : ∃ r, 1 + a1 % 50 = r := ⟨_, rfl⟩
  obtain ⟨l, hl⟩ : ∃ r, a2 % (1000 * B + 1) = r := ⟨_, rfl⟩
  obtain ⟨n, hn⟩ : ∃ r, a3 % 60 = r := ⟨_, rfl⟩
  obtain ⟨now, hnow⟩ : ∃ r, a4 % 1000 = r := ⟨_, rfl⟩
  have r0 : 0 ≤ r ∧ r < 5000 := by omega
  have B0 : 1 ≤ B ∧ B ≤ 50 := by omega
  have l0 : 0 ≤ l := hl ▸ Int.emod_nonneg _ (by omega)
  have l1 : l < 1000 * B + 1 := hl ▸ Int.emod_lt_of_pos _ (by omega)
  have n0 : 0 ≤ n ∧ n < 60 := by omega
  have now0 : 0 ≤ now ∧ now < 1000 := by omega
  have V : Vld r B l 0 := by constructor <;> omega
  have hlv := lev_bd V (now := now) (by omega) (by omega)
  refine FnC.enter Try.func5 rfl Try.ntmps5 rfl fun ρ => ?_
  by_cases h1 : 1000 * n ≤ lev r B l 0 now
  · have h1' : 1000 * n ≤ lev r B l 0 (now + 0) := by rw [Int.add_zero]; exact h1
    refine s_seq ?_
    refine s_reg ?_
    refine l_q (by exact y_as_bool rfl) ?_
    refine l_end ?_
    refine e_then ?_
    refine s_seq ?_
    refine s_seq ?_
    refine s_reg ?_
    refine l_w (w_call rfl (fact_c hs) rfl (fun _ w h => ?_))
    obtain ⟨rfl, hs⟩ := h
    refine l_q (by first | exact y_not_t rfl | exact y_not_f rfl | exact y_notd rfl) ?_
    refine l_end ?_
    refine e_then ?_
    refine cond_f rfl ?_
    refine s_skip ?_
    refine e_then ?_
    refine s_seq ?_
    refine s_reg ?_
    refine l_q (by exact y_mv_int rfl) ?_
    refine l_q (by exact y_mv_int rfl) ?_
    refine l_q (by exact y_mv_int rfl) ?_
    refine l_w (w_call rfl (filled_e hs hr hB hl) rfl (fun _ w h => ?_))
    obtain ⟨rfl, hs⟩ := h
    refine l_w (w_alloc (cs := [_, _, _, _]) hs rfl (fun b11 w hs hb11 => ?_))
    refine l_w (w_storeA (vs := [_, _, _, _]) hs rfl rfl rfl rfl rfl (fun w hs => ?_))
    refine l_end ?_
    refine e_then ?_
    refine s_seq ?_
    refine s_reg ?_
    refine l_q (by exact y_mv_int rfl) ?_
    refine l_w (w_call rfl (by first | exact rest_e _ hn (by omega) (by omega) | exact rest_e _ hnow (by omega) (by omega)) rfl (fun _ w h => ?_))
    obtain ⟨rfl, rfl⟩ := h
    refine l_q (by exact y_mv_int rfl) ?_
    refine l_w (w_call rfl (by first | exact rest_e _ hn (by omega) (by omega) | exact rest_e _ hnow (by omega) (by omega)) rfl (fun _ w h => ?_))
    obtain ⟨rfl, rfl⟩ := h
    refine l_q (by exact y_as_int rfl) ?_
    refine l_q (by exact y_as_int rfl) ?_
    refine l_end ?_
    refine e_then ?_
    refine s_seq ?_
    refine s_reg ?_
    refine l_q (by exact y_ldA (vs := [_, _, _, _]) hs rfl rfl rfl) ?_
    refine l_q (by exact y_mv_int rfl) ?_
    refine l_q (by exact y_mv_int rfl) ?_
    refine l_w (w_call rfl (by first | exact wait_1 hs V (by omega) (by omega) (by omega) (by omega) (by omega) | exact wait_2 hs V (by omega) (by omega) (by omega) (by omega) (by omega) (by omega) | exact wait_3 hs V (by omega) (by omega) (by omega) (by omega) (by omega) (by omega) (by omega) | exact wait_4 hs V (by omega) (by omega) (by omega) (by omega) (by omega) (by omega) h3 hq) rfl (fun _ w h => ?_))
    obtain ⟨rfl, hs⟩ := h
    refine l_q (by exact y_mv_tuple rfl) ?_
    refine l_q (by exact y_extract rfl rfl) ?_
    refine l_q (by exact y_extract rfl rfl) ?_
    refine l_q (by exact y_as_int rfl) ?_
    refine l_q (by exact y_as_int rfl) ?_
    refine l_end ?_
    refine e_then ?_
    refine s_seq ?_
    refine s_seq ?_
    refine s_reg ?_
    refine l_q (by exact y_mv_int rfl) ?_
    refine l_q (by first | exact y_neq rfl rfl (decide_eq_true (by omega)) | exact y_neq rfl rfl (decide_eq_false (by omega)) | exact y_neq rfl rfl rfl) ?_
    refine l_end ?_
    refine e_then ?_
    refine cond_f rfl ?_
    refine s_skip ?_
    refine e_then ?_
    refine s_seq ?_
    refine s_reg ?_
    refine l_q (by exact y_ldA (vs := [_, _, _, _]) hs rfl rfl rfl) ?_
    refine l_q (by exact y_mv_int rfl) ?_
    refine l_q (by exact y_mv_int rfl) ?_
    refine l_q (by exact y_mv_int rfl) ?_
    refine l_q (by first | exact y_addn rfl rfl (by omega) | exact y_add rfl rfl rfl) ?_
    refine l_w (w_call rfl (by first | exact take_no hs V (by omega) (by omega) (by omega) (by omega) (by omega) | exact take_yes hs V (by omega) (by omega) (by omega) (by omega) (by omega)) rfl (fun _ w h => ?_))
    obtain ⟨rfl, hs⟩ := h
    refine l_q (by exact y_mv_tuple rfl) ?_
    refine l_q (by exact y_extract rfl rfl) ?_
    refine l_q (by exact y_extract rfl rfl) ?_
    refine l_q (by exact y_extract rfl rfl) ?_
    refine l_w (w_alloc (cs := [_, _, _, _]) hs rfl (fun b14 w hs hb14 => ?_))
    refine l_w (w_storeA (vs := [_, _, _, _]) hs rfl rfl rfl rfl rfl (fun w hs => ?_))
    refine l_q (by exact y_as_bool rfl) ?_
    refine l_q (by exact y_as_int rfl) ?_
    refine l_end ?_
    refine e_then ?_
    refine s_seq ?_
    refine s_reg ?_
    refine l_q (by exact y_as_bool rfl) ?_
    refine l_end ?_
    refine e_then ?_
    refine s_seq ?_
    refine s_seq ?_
    refine s_reg ?_
    refine l_q (by exact y_mv_int rfl) ?_
    refine l_q (by first | exact y_gtr rfl rfl (decide_eq_true (by omega)) | exact y_gtr rfl rfl (decide_eq_false (by omega)) | exact y_gtr rfl rfl rfl) ?_
    refine l_end ?_
    refine e_then ?_
    refine cond_f rfl ?_
    refine s_skip ?_
    refine e_then ?_
    refine s_seq ?_
    refine s_reg ?_
    refine l_q (by exact y_mv_int rfl) ?_
    refine l_q (by first | exact y_eql rfl rfl (decide_eq_true (by omega)) | exact y_eql rfl rfl (decide_eq_false (by omega)) | exact y_eql rfl rfl rfl) ?_
    refine l_q (by exact y_mv_bool rfl) ?_
    first | refine l_gskip rfl rfl ?_ | refine l_gskip_u rfl rfl ?_ | refine l_gdo rfl rfl (by exact y_mv_bool rfl) ?_
    refine l_q (by first | exact y_pk_bt rfl rfl | exact y_pk_bf rfl rfl) ?_
    refine l_q (by exact y_mv_bool rfl) ?_
    first | refine l_gskip rfl rfl ?_ | refine l_gskip_u rfl rfl ?_ | refine l_gdo rfl rfl (by exact y_mv_bool rfl) ?_
    first | refine l_gskip rfl rfl ?_ | refine l_gskip_u rfl rfl ?_ | refine l_gdo rfl rfl (by first | exact y_not_t rfl | exact y_not_f rfl | exact y_notd rfl) ?_
    refine l_q (by first | exact y_pk_bt rfl rfl | exact y_pk_bf rfl rfl) ?_
    refine l_q (by exact y_as_bool rfl) ?_
    refine l_end ?_
    refine e_then ?_
    refine s_ret ?_
    exact ret_ [.bool _] rfl ⟨rfl, trivial⟩ ⟨rfl, hs.nil⟩
  · by_cases h2 : B < n
    · refine s_seq ?_
      refine s_reg ?_
      refine l_q (by exact y_as_bool rfl) ?_
      refine l_end ?_
      refine e_then ?_
      refine s_seq ?_
      refine s_seq ?_
      refine s_reg ?_
      refine l_w (w_call rfl (fact_c hs) rfl (fun _ w h => ?_))
      obtain ⟨rfl, hs⟩ := h
      refine l_q (by first | exact y_not_t rfl | exact y_not_f rfl | exact y_notd rfl) ?_
      refine l_end ?_
      refine e_then ?_
      refine cond_f rfl ?_
      refine s_skip ?_
      refine e_then ?_
      refine s_seq ?_
      refine s_reg ?_
      refine l_q (by exact y_mv_int rfl) ?_
      refine l_q (by exact y_mv_int rfl) ?_
      refine l_q (by exact y_mv_int rfl) ?_
      refine l_w (w_call rfl (filled_e hs hr hB hl) rfl (fun _ w h => ?_))
      obtain ⟨rfl, hs⟩ := h
      refine l_w (w_alloc (cs := [_, _, _, _]) hs rfl (fun b11 w hs hb11 => ?_))
      refine l_w (w_storeA (vs := [_, _, _, _]) hs rfl rfl rfl rfl rfl (fun w hs => ?_))
      refine l_end ?_
      refine e_then ?_
      refine s_seq ?_
      refine s_reg ?_
      refine l_q (by exact y_mv_int rfl) ?_
      refine l_w (w_call rfl (by first | exact rest_e _ hn (by omega) (by omega) | exact rest_e _ hnow (by omega) (by omega)) rfl (fun _ w h => ?_))
      obtain ⟨rfl, rfl⟩ := h
      refine l_q (by exact y_mv_int rfl) ?_
      refine l_w (w_call rfl (by first | exact rest_e _ hn (by omega) (by omega) | exact rest_e _ hnow (by omega) (by omega)) rfl (fun _ w h => ?_))
      obtain ⟨rfl, rfl⟩ := h
      refine l_q (by exact y_as_int rfl) ?_
      refine l_q (by exact y_as_int rfl) ?_
      refine l_end ?_
      refine e_then ?_
      refine s_seq ?_
      refine s_reg ?_
      refine l_q (by exact y_ldA (vs := [_, _, _, _]) hs rfl rfl rfl) ?_
      refine l_q (by exact y_mv_int rfl) ?_
      refine l_q (by exact y_mv_int rfl) ?_
      refine l_w (w_call rfl (by first | exact wait_1 hs V (by omega) (by omega) (by omega) (by omega) (by omega) | exact wait_2 hs V (by omega) (by omega) (by omega) (by omega) (by omega) (by omega) | exact wait_3 hs V (by omega) (by omega) (by omega) (by omega) (by omega) (by omega) (by omega) | exact wait_4 hs V (by omega) (by omega) (by omega) (by omega) (by omega) (by omega) h3 hq) rfl (fun _ w h => ?_))
      obtain ⟨rfl, hs⟩ := h
      refine l_q (by exact y_mv_tuple rfl) ?_
      refine l_q (by exact y_extract rfl rfl) ?_
      refine l_q (by exact y_extract rfl rfl) ?_
      refine l_q (by exact y_as_int rfl) ?_
      refine l_q (by exact y_as_int rfl) ?_
      refine l_end ?_
      refine e_then ?_
      refine s_seq ?_
      refine s_seq ?_
      refine s_reg ?_
      refine l_q (by exact y_mv_int rfl) ?_
      refine l_q (by first | exact y_neq rfl rfl (decide_eq_true (by omega)) | exact y_neq rfl rfl (decide_eq_false (by omega)) | exact y_neq rfl rfl rfl) ?_
      refine l_end ?_
      refine e_then ?_
      refine cond_t rfl ?_
      refine s_seq ?_
      refine s_reg ?_
      refine l_q (by exact y_mv_int rfl) ?_
      refine l_q (by first | exact y_eql rfl rfl (decide_eq_true (by omega)) | exact y_eql rfl rfl (decide_eq_false (by omega)) | exact y_eql rfl rfl rfl) ?_
      refine l_q (by exact y_mv_bool rfl) ?_
      first | refine l_gskip rfl rfl ?_ | refine l_gskip_u rfl rfl ?_ | refine l_gdo rfl rfl (by exact y_mv_int rfl) ?_
      first | refine l_gskip rfl rfl ?_ | refine l_gskip_u rfl rfl ?_ | refine l_gdo rfl rfl (by first | exact y_eql rfl rfl (decide_eq_true (by omega)) | exact y_eql rfl rfl (decide_eq_false (by omega)) | exact y_eql rfl rfl rfl) ?_
      first | refine l_gskip rfl rfl ?_ | refine l_gskip_u rfl rfl ?_ | refine l_gdo rfl rfl (by exact y_mv_bool rfl) ?_
      first | refine l_gskip rfl rfl ?_ | refine l_gskip_u rfl rfl ?_ | refine l_gdo rfl rfl (by exact y_mv_int rfl) ?_
      first | refine l_gskip rfl rfl ?_ | refine l_gskip_u rfl rfl ?_ | refine l_gdo rfl rfl (by exact y_field rfl) ?_
      first | refine l_gskip rfl rfl ?_ | refine l_gskip_u rfl rfl ?_ | refine l_gdo rfl rfl (by exact y_ld hs rfl rfl) ?_
      first | refine l_gskip rfl rfl ?_ | refine l_gskip_u rfl rfl ?_ | refine l_gdo rfl rfl (by first | exact y_gtr rfl rfl (decide_eq_true (by omega)) | exact y_gtr rfl rfl (decide_eq_false (by omega)) | exact y_gtr rfl rfl rfl) ?_
      first | refine l_gskip rfl rfl ?_ | refine l_gskip_u rfl rfl ?_ | refine l_gdo rfl rfl (by first | exact y_pk_bt rfl rfl | exact y_pk_bf rfl rfl) ?_
      first | refine l_gskip rfl rfl ?_ | refine l_gskip_u rfl rfl ?_ | refine l_gdo rfl rfl (by exact y_mv_bool rfl) ?_
      first | refine l_gskip rfl rfl ?_ | refine l_gskip_u rfl rfl ?_ | refine l_gdo rfl rfl (by exact y_mv_int rfl) ?_
      first | refine l_gskip rfl rfl ?_ | refine l_gskip_u rfl rfl ?_ | refine l_gdo rfl rfl (by first | exact y_eql rfl rfl (decide_eq_true (by omega)) | exact y_eql rfl rfl (decide_eq_false (by omega)) | exact y_eql rfl rfl rfl) ?_
      first | refine l_gskip rfl rfl ?_ | refine l_gskip_u rfl rfl ?_ | refine l_gdo rfl rfl (by exact y_mv_bool rfl) ?_
      first | refine l_gskip rfl rfl ?_ | refine l_gskip_u rfl rfl ?_ | refine l_gdo rfl rfl (by exact y_field rfl) ?_
      first | refine l_gskip rfl rfl ?_ | refine l_gskip_u rfl rfl ?_ | refine l_gdo rfl rfl (by exact y_ld hs rfl rfl) ?_
      first | refine l_gskip rfl rfl ?_ | refine l_gskip_u rfl rfl ?_ | refine l_gdo rfl rfl (by first | exact y_eql rfl rfl (decide_eq_true (by omega)) | exact y_eql rfl rfl (decide_eq_false (by omega)) | exact y_eql rfl rfl rfl) ?_
      first | refine l_gskip rfl rfl ?_ | refine l_gskip_u rfl rfl ?_ | refine l_gdo rfl rfl (by first | exact y_pk_bt rfl rfl | exact y_pk_bf rfl rfl) ?_
      first | refine l_gskip rfl rfl ?_ | refine l_gskip_u rfl rfl ?_ | refine l_gdo rfl rfl (by first | exact y_pk_bt rfl rfl | exact y_pk_bf rfl rfl) ?_
      refine l_q (by first | exact y_pk_bt rfl rfl | exact y_pk_bf rfl rfl) ?_
      refine l_q (by exact y_as_bool rfl) ?_
      refine l_end ?_
      refine e_then ?_
      refine s_ret ?_
      refine e_then_r ?_
      exact ret_ [.bool _] rfl ⟨rfl, trivial⟩ ⟨rfl, hs.nil⟩
    · by_cases h3 : r = 0
      · refine s_seq ?_
        refine s_reg ?_
        refine l_q (by exact y_as_bool rfl) ?_
        refine l_end ?_
        refine e_then ?_
        refine s_seq ?_
        refine s_seq ?_
        refine s_reg ?_
        refine l_w (w_call rfl (fact_c hs) rfl (fun _ w h => ?_))
        obtain ⟨rfl, hs⟩ := h
        refine l_q (by first | exact y_not_t rfl | exact y_not_f rfl | exact y_notd rfl) ?_
        refine l_end ?_
        refine e_then ?_
        refine cond_f rfl ?_
        refine s_skip ?_
        refine e_then ?_
        refine s_seq ?_
        refine s_reg ?_
        refine l_q (by exact y_mv_int rfl) ?_
        refine l_q (by exact y_mv_int rfl) ?_
        refine l_q (by exact y_mv_int rfl) ?_
        refine l_w (w_call rfl (filled_e hs hr hB hl) rfl (fun _ w h => ?_))
        obtain ⟨rfl, hs⟩ := h
        refine l_w (w_alloc (cs := [_, _, _, _]) hs rfl (fun b11 w hs hb11 => ?_))
        refine l_w (w_storeA (vs := [_, _, _, _]) hs rfl rfl rfl rfl rfl (fun w hs => ?_))
        refine l_end ?_
        refine e_then ?_
        refine s_seq ?_
        refine s_reg ?_
        refine l_q (by exact y_mv_int rfl) ?_
        refine l_w (w_call rfl (by first | exact rest_e _ hn (by omega) (by omega) | exact rest_e _ hnow (by omega) (by omega)) rfl (fun _ w h => ?_))
        obtain ⟨rfl, rfl⟩ := h
        refine l_q (by exact y_mv_int rfl) ?_
        refine l_w (w_call rfl (by first | exact rest_e _ hn (by omega) (by omega) | exact rest_e _ hnow (by omega) (by omega)) rfl (fun _ w h => ?_))
        obtain ⟨rfl, rfl⟩ := h
        refine l_q (by exact y_as_int rfl) ?_
        refine l_q (by exact y_as_int rfl) ?_
        refine l_end ?_
        refine e_then ?_
        refine s_seq ?_
        refine s_reg ?_
        refine l_q (by exact y_ldA (vs := [_, _, _, _]) hs rfl rfl rfl) ?_
        refine l_q (by exact y_mv_int rfl) ?_
        refine l_q (by exact y_mv_int rfl) ?_
        refine l_w (w_call rfl (by first | exact wait_1 hs V (by omega) (by omega) (by omega) (by omega) (by omega) | exact wait_2 hs V (by omega) (by omega) (by omega) (by omega) (by omega) (by omega) | exact wait_3 hs V (by omega) (by omega) (by omega) (by omega) (by omega) (by omega) (by omega) | exact wait_4 hs V (by omega) (by omega) (by omega) (by omega) (by omega) (by omega) h3 hq) rfl (fun _ w h => ?_))
        obtain ⟨rfl, hs⟩ := h
        refine l_q (by exact y_mv_tuple rfl) ?_
        refine l_q (by exact y_extract rfl rfl) ?_
        refine l_q (by exact y_extract rfl rfl) ?_
        refine l_q (by exact y_as_int rfl) ?_
        refine l_q (by exact y_as_int rfl) ?_
        refine l_end ?_
        refine e_then ?_
        refine s_seq ?_
        refine s_seq ?_
        refine s_reg ?_
        refine l_q (by exact y_mv_int rfl) ?_
        refine l_q (by first | exact y_neq rfl rfl (decide_eq_true (by omega)) | exact y_neq rfl rfl (decide_eq_false (by omega)) | exact y_neq rfl rfl rfl) ?_
        refine l_end ?_
        refine e_then ?_
        refine cond_t rfl ?_
        refine s_seq ?_
        refine s_reg ?_
        refine l_q (by exact y_mv_int rfl) ?_
        refine l_q (by first | exact y_eql rfl rfl (decide_eq_true (by omega)) | exact y_eql rfl rfl (decide_eq_false (by omega)) | exact y_eql rfl rfl rfl) ?_
        refine l_q (by exact y_mv_bool rfl) ?_
        first | refine l_gskip rfl rfl ?_ | refine l_gskip_u rfl rfl ?_ | refine l_gdo rfl rfl (by exact y_mv_int rfl) ?_
        first | refine l_gskip rfl rfl ?_ | refine l_gskip_u rfl rfl ?_ | refine l_gdo rfl rfl (by first | exact y_eql rfl rfl (decide_eq_true (by omega)) | exact y_eql rfl rfl (decide_eq_false (by omega)) | exact y_eql rfl rfl rfl) ?_
        first | refine l_gskip rfl rfl ?_ | refine l_gskip_u rfl rfl ?_ | refine l_gdo rfl rfl (by exact y_mv_bool rfl) ?_
        first | refine l_gskip rfl rfl ?_ | refine l_gskip_u rfl rfl ?_ | refine l_gdo rfl rfl (by exact y_mv_int rfl) ?_
        first | refine l_gskip rfl rfl ?_ | refine l_gskip_u rfl rfl ?_ | refine l_gdo rfl rfl (by exact y_field rfl) ?_
        first | refine l_gskip rfl rfl ?_ | refine l_gskip_u rfl rfl ?_ | refine l_gdo rfl rfl (by exact y_ld hs rfl rfl) ?_
        first | refine l_gskip rfl rfl ?_ | refine l_gskip_u rfl rfl ?_ | refine l_gdo rfl rfl (by first | exact y_gtr rfl rfl (decide_eq_true (by omega)) | exact y_gtr rfl rfl (decide_eq_false (by omega)) | exact y_gtr rfl rfl rfl) ?_
        first | refine l_gskip rfl rfl ?_ | refine l_gskip_u rfl rfl ?_ | refine l_gdo rfl rfl (by first | exact y_pk_bt rfl rfl | exact y_pk_bf rfl rfl) ?_
        first | refine l_gskip rfl rfl ?_ | refine l_gskip_u rfl rfl ?_ | refine l_gdo rfl rfl (by exact y_mv_bool rfl) ?_
        first | refine l_gskip rfl rfl ?_ | refine l_gskip_u rfl rfl ?_ | refine l_gdo rfl rfl (by exact y_mv_int rfl) ?_
        first | refine l_gskip rfl rfl ?_ | refine l_gskip_u rfl rfl ?_ | refine l_gdo rfl rfl (by first | exact y_eql rfl rfl (decide_eq_true (by omega)) | exact y_eql rfl rfl (decide_eq_false (by omega)) | exact y_eql rfl rfl rfl) ?_
        first | refine l_gskip rfl rfl ?_ | refine l_gskip_u rfl rfl ?_ | refine l_gdo rfl rfl (by exact y_mv_bool rfl) ?_
        first | refine l_gskip rfl rfl ?_ | refine l_gskip_u rfl rfl ?_ | refine l_gdo rfl rfl (by exact y_field rfl) ?_
        first | refine l_gskip rfl rfl ?_ | refine l_gskip_u rfl rfl ?_ | refine l_gdo rfl rfl (by exact y_ld hs rfl rfl) ?_
        first | refine l_gskip rfl rfl ?_ | refine l_gskip_u rfl rfl ?_ | refine l_gdo rfl rfl (by first | exact y_eql rfl rfl (decide_eq_true (by omega)) | exact y_eql rfl rfl (decide_eq_false (by omega)) | exact y_eql rfl rfl rfl) ?_
        first | refine l_gskip rfl rfl ?_ | refine l_gskip_u rfl rfl ?_ | refine l_gdo rfl rfl (by first | exact y_pk_bt rfl rfl | exact y_pk_bf rfl rfl) ?_
        first | refine l_gskip rfl rfl ?_ | refine l_gskip_u rfl rfl ?_ | refine l_gdo rfl rfl (by first | exact y_pk_bt rfl rfl | exact y_pk_bf rfl rfl) ?_
        refine l_q (by first | exact y_pk_bt rfl rfl | exact y_pk_bf rfl rfl) ?_
        refine l_q (by exact y_as_bool rfl) ?_
        refine l_end ?_
        refine e_then ?_
        refine s_ret ?_
        refine e_then_r ?_
        exact ret_ [.bool _] rfl ⟨rfl, trivial⟩ ⟨rfl, hs.nil⟩
      · obtain ⟨q, hq⟩ : ∃ q, (1000 * n - lev r B l 0 now + r - 1) / r = q := ⟨_, rfl⟩
        obtain ⟨q1, q2, q3, q4⟩ := wait_spec V (by omega) (by omega) (by omega) h3 hq
        refine s_seq ?_
        refine s_reg ?_
        refine l_q (by exact y_as_bool rfl) ?_
        refine l_end ?_
        refine e_then ?_
        refine s_seq ?_
        refine s_seq ?_
        refine s_reg ?_
        refine l_w (w_call rfl (fact_c hs) rfl (fun _ w h => ?_))
        obtain ⟨rfl, hs⟩ := h
        refine l_q (by first | exact y_not_t rfl | exact y_not_f rfl | exact y_notd rfl) ?_
        refine l_end ?_
        refine e_then ?_
        refine cond_f rfl ?_
        refine s_skip ?_
        refine e_then ?_
        refine s_seq ?_
        refine s_reg ?_
        refine l_q (by exact y_mv_int rfl) ?_
        refine l_q (by exact y_mv_int rfl) ?_
        refine l_q (by exact y_mv_int rfl) ?_
        refine l_w (w_call rfl (filled_e hs hr hB hl) rfl (fun _ w h => ?_))
        obtain ⟨rfl, hs⟩ := h
        refine l_w (w_alloc (cs := [_, _, _, _]) hs rfl (fun b11 w hs hb11 => ?_))
        refine l_w (w_storeA (vs := [_, _, _, _]) hs rfl rfl rfl rfl rfl (fun w hs => ?_))
        refine l_end ?_
        refine e_then ?_
        refine s_seq ?_
        refine s_reg ?_
        refine l_q (by exact y_mv_int rfl) ?_
        refine l_w (w_call rfl (by first | exact rest_e _ hn (by omega) (by omega) | exact rest_e _ hnow (by omega) (by omega)) rfl (fun _ w h => ?_))
        obtain ⟨rfl, rfl⟩ := h
        refine l_q (by exact y_mv_int rfl) ?_
        refine l_w (w_call rfl (by first | exact rest_e _ hn (by omega) (by omega) | exact rest_e _ hnow (by omega) (by omega)) rfl (fun _ w h => ?_))
        obtain ⟨rfl, rfl⟩ := h
        refine l_q (by exact y_as_int rfl) ?_
        refine l_q (by exact y_as_int rfl) ?_
        refine l_end ?_
        refine e_then ?_
        refine s_seq ?_
        refine s_reg ?_
        refine l_q (by exact y_ldA (vs := [_, _, _, _]) hs rfl rfl rfl) ?_
        refine l_q (by exact y_mv_int rfl) ?_
        refine l_q (by exact y_mv_int rfl) ?_
        refine l_w (w_call rfl (by first | exact wait_1 hs V (by omega) (by omega) (by omega) (by omega) (by omega) | exact wait_2 hs V (by omega) (by omega) (by omega) (by omega) (by omega) (by omega) | exact wait_3 hs V (by omega) (by omega) (by omega) (by omega) (by omega) (by omega) (by omega) | exact wait_4 hs V (by omega) (by omega) (by omega) (by omega) (by omega) (by omega) h3 hq) rfl (fun _ w h => ?_))
        obtain ⟨rfl, hs⟩ := h
        refine l_q (by exact y_mv_tuple rfl) ?_
        refine l_q (by exact y_extract rfl rfl) ?_
        refine l_q (by exact y_extract rfl rfl) ?_
        refine l_q (by exact y_as_int rfl) ?_
        refine l_q (by exact y_as_int rfl) ?_
        refine l_end ?_
        refine e_then ?_
        refine s_seq ?_
        refine s_seq ?_
        refine s_reg ?_
        refine l_q (by exact y_mv_int rfl) ?_
        refine l_q (by first | exact y_neq rfl rfl (decide_eq_true (by omega)) | exact y_neq rfl rfl (decide_eq_false (by omega)) | exact y_neq rfl rfl rfl) ?_
        refine l_end ?_
        refine e_then ?_
        refine cond_f rfl ?_
        refine s_skip ?_
        refine e_then ?_
        refine s_seq ?_
        refine s_reg ?_
        refine l_q (by exact y_ldA (vs := [_, _, _, _]) hs rfl rfl rfl) ?_
        refine l_q (by exact y_mv_int rfl) ?_
        refine l_q (by exact y_mv_int rfl) ?_
        refine l_q (by exact y_mv_int rfl) ?_
        refine l_q (by first | exact y_addn rfl rfl (by omega) | exact y_add rfl rfl rfl) ?_
        refine l_w (w_call rfl (by first | exact take_no hs V (by omega) (by omega) (by omega) (by omega) (by omega) | exact take_yes hs V (by omega) (by omega) (by omega) (by omega) (by omega)) rfl (fun _ w h => ?_))
        obtain ⟨rfl, hs⟩ := h
        refine l_q (by exact y_mv_tuple rfl) ?_
        refine l_q (by exact y_extract rfl rfl) ?_
        refine l_q (by exact y_extract rfl rfl) ?_
        refine l_q (by exact y_extract rfl rfl) ?_
        refine l_w (w_alloc (cs := [_, _, _, _]) hs rfl (fun b14 w hs hb14 => ?_))
        refine l_w (w_storeA (vs := [_, _, _, _]) hs rfl rfl rfl rfl rfl (fun w hs => ?_))
        refine l_q (by exact y_as_bool rfl) ?_
        refine l_q (by exact y_as_int rfl) ?_
        refine l_end ?_
        refine e_then ?_
        refine s_seq ?_
        refine s_reg ?_
        refine l_q (by exact y_as_bool rfl) ?_
        refine l_end ?_
        refine e_then ?_
        refine s_seq ?_
        refine s_seq ?_
        refine s_reg ?_
        refine l_q (by exact y_mv_int rfl) ?_
        refine l_q (by first | exact y_gtr rfl rfl (decide_eq_true (by omega)) | exact y_gtr rfl rfl (decide_eq_false (by omega)) | exact y_gtr rfl rfl rfl) ?_
        refine l_end ?_
        refine e_then ?_
        refine cond_t rfl ?_
        refine s_reg ?_
        refine l_q (by exact y_ldA (vs := [_, _, _, _]) hs rfl rfl rfl) ?_
        refine l_q (by exact y_mv_int rfl) ?_
        refine l_q (by exact y_mv_int rfl) ?_
        refine l_q (by exact y_mv_int rfl) ?_
        refine l_q (by first | exact y_addn rfl rfl (by omega) | exact y_add rfl rfl rfl) ?_
        refine l_q (by first | exact y_subn rfl rfl (by omega) | exact y_sub rfl rfl rfl) ?_
        refine l_w (w_call rfl (by first | exact take_no hs V (by omega) (by omega) (by omega) (by omega) (by omega) | exact take_yes hs V (by omega) (by omega) (by omega) (by omega) (by omega)) rfl (fun _ w h => ?_))
        obtain ⟨rfl, hs⟩ := h
        refine l_q (by exact y_mv_tuple rfl) ?_
        refine l_q (by exact y_extract rfl rfl) ?_
        refine l_q (by exact y_extract rfl rfl) ?_
        refine l_q (by exact y_extract rfl rfl) ?_
        refine l_q (by exact y_as_bool rfl) ?_
        refine l_end ?_
        refine e_then ?_
        refine s_seq ?_
        refine s_reg ?_
        refine l_q (by exact y_mv_int rfl) ?_
        refine l_q (by first | exact y_eql rfl rfl (decide_eq_true (by omega)) | exact y_eql rfl rfl (decide_eq_false (by omega)) | exact y_eql rfl rfl rfl) ?_
        refine l_q (by exact y_mv_bool rfl) ?_
        first | refine l_gskip rfl rfl ?_ | refine l_gskip_u rfl rfl ?_ | refine l_gdo rfl rfl (by exact y_mv_bool rfl) ?_
        refine l_q (by first | exact y_pk_bt rfl rfl | exact y_pk_bf rfl rfl) ?_
        refine l_q (by exact y_mv_bool rfl) ?_
        first | refine l_gskip rfl rfl ?_ | refine l_gskip_u rfl rfl ?_ | refine l_gdo rfl rfl (by exact y_mv_bool rfl) ?_
        first | refine l_gskip rfl rfl ?_ | refine l_gskip_u rfl rfl ?_ | refine l_gdo rfl rfl (by first | exact y_not_t rfl | exact y_not_f rfl | exact y_notd rfl) ?_
        refine l_q (by first | exact y_pk_bt rfl rfl | exact y_pk_bf rfl rfl) ?_
        refine l_q (by exact y_as_bool rfl) ?_
        refine l_end ?_
        refine e_then ?_
        refine s_ret ?_
        exact ret_ [.bool _] rfl ⟨rfl, trivial⟩ ⟨rfl, hs.nil⟩
end Go.Proofs.Ytfjobjbbncclbaa
