/- Facts on the functions and types of this seat that its laws are proved from: contracts under the premises that each theorem names. -/
import Derived.Test.YtfjobjbbncclbaaFa
namespace Go.Proofs.Ytfjobjbbncclbaa
open Go Go.RowKit PB
set_option linter.unusedVariables false

def lev (r B l t now : Int) : Int := if 1000 * B < l + r * (now - t) then 1000 * B else l + r * (now - t)

theorem mul_bd (r d : Int) (h0 : 0 ≤ r) (h1 : r ≤ 1000000) (h2 : 0 ≤ d) (h3 : d ≤ 1000000000) : 0 ≤ r * d ∧ r * d ≤ 1000000000000000 := by
  refine ⟨Int.mul_nonneg h0 h2, ?_⟩
  have := Int.mul_le_mul h1 h3 h2 (by omega)
  omega

structure Vld (r B l t : Int) : Prop where
  r0 : 0 ≤ r
  r1 : r ≤ 1000000
  b0 : 0 ≤ B
  b1 : B ≤ 1000000
  l0 : 0 ≤ l
  l1 : l ≤ 1000 * B
  t0 : 0 ≤ t
  t1 : t ≤ 1000000000

theorem in_c (a b c : Int) (w : World) (h1 : b ≤ a) (h2 : a ≤ c) : FnC Try.prog 17 [.int .i64 a, .int .i64 b, .int .i64 c] w (fun v w' => v = .bool true ∧ w' = w) := by
  refine FnC.enter Try.func17 rfl Try.ntmps17 rfl fun ρ => ?_
  refine s_seq ?_
  refine s_reg ?_
  refine l_q (by exact y_as_bool rfl) ?_
  refine l_end ?_
  refine e_then ?_
  refine s_seq ?_
  refine s_reg ?_
  refine l_q (by exact y_mv_int rfl) ?_
  refine l_q (by exact y_mv_int rfl) ?_
  refine l_q (by first | exact y_geq rfl rfl (decide_eq_true (by omega)) | exact y_geq rfl rfl (decide_eq_false (by omega)) | exact y_geq rfl rfl rfl) ?_
  refine l_q (by exact y_mv_bool rfl) ?_
  first | refine l_gskip rfl rfl ?_ | refine l_gskip_u rfl rfl ?_ | refine l_gdo rfl rfl (by exact y_mv_int rfl) ?_
  first | refine l_gskip rfl rfl ?_ | refine l_gskip_u rfl rfl ?_ | refine l_gdo rfl rfl (by exact y_mv_int rfl) ?_
  first | refine l_gskip rfl rfl ?_ | refine l_gskip_u rfl rfl ?_ | refine l_gdo rfl rfl (by first | exact y_leq rfl rfl (decide_eq_true (by omega)) | exact y_leq rfl rfl (decide_eq_false (by omega)) | exact y_leq rfl rfl rfl) ?_
  refine l_q (by first | exact y_pk_bt rfl rfl | exact y_pk_bf rfl rfl) ?_
  refine l_q (by exact y_as_bool rfl) ?_
  refine l_end ?_
  refine e_then ?_
  refine s_ret ?_
  exact ret_ [.bool _] rfl ⟨rfl, trivial⟩ ⟨rfl, rfl⟩

theorem tmod_eq (a b : Int) (hb : 0 < b) : (if a.tmod b < 0 then a.tmod b + b else a.tmod b) = a % b := by
  rw [Int.tmod_eq_emod]
  have h1 := Int.emod_nonneg a (by omega : b ≠ 0)
  have h2 := Int.emod_lt_of_pos a hb
  by_cases h : 0 ≤ a
  · simp [h]; omega
  · by_cases hd : b ∣ a
    · simp [hd]; omega
    · simp [h, hd]
      have hab : (b.natAbs : Int) = b := by omega
      rw [hab]
      have : a % b ≠ 0 := fun e => hd (Int.dvd_of_emod_eq_zero e)
      split <;> omega

theorem rest_c (a b : Int) (w : World) (hb : 0 < b) (hb2 : b ≤ 1000000000) : FnC Try.prog 9 [.int .i64 a, .int .i64 b] w (fun v w' => v = .int .i64 (a % b) ∧ w' = w) := by
  have ht := Int.tmod_lt_of_pos a hb
  have ht2 := Int.lt_tmod_of_pos a hb
  have he := tmod_eq a b hb
  refine FnC.enter Try.func9 rfl Try.ntmps9 rfl fun ρ => ?_
  by_cases h1 : a.tmod b < 0
  · rw [if_pos h1] at he
    refine s_seq ?_
    refine s_reg ?_
    refine l_q (by exact y_as_int rfl) ?_
    refine l_end ?_
    refine e_then ?_
    refine s_seq ?_
    refine s_reg ?_
    refine l_q (by exact y_mv_int rfl) ?_
    refine l_q (by exact y_mv_int rfl) ?_
    refine l_q (by first | exact y_remn rfl rfl (by omega) | exact y_rem rfl rfl (by first | decide | omega) rfl) ?_
    refine l_q (by exact y_as_int rfl) ?_
    refine l_end ?_
    refine e_then ?_
    refine s_seq ?_
    refine s_seq ?_
    refine s_reg ?_
    refine l_q (by exact y_mv_int rfl) ?_
    refine l_q (by first | exact y_lss rfl rfl (decide_eq_true (by omega)) | exact y_lss rfl rfl (decide_eq_false (by omega)) | exact y_lss rfl rfl rfl) ?_
    refine l_end ?_
    refine e_then ?_
    refine cond_t rfl ?_
    refine s_seq ?_
    refine s_reg ?_
    refine l_q (by exact y_mv_int rfl) ?_
    refine l_q (by exact y_mv_int rfl) ?_
    refine l_q (by first | exact y_addn rfl rfl (by omega) | exact y_add rfl rfl rfl) ?_
    refine l_q (by exact y_as_int rfl) ?_
    refine l_end ?_
    refine e_then ?_
    refine s_ret ?_
    refine e_then_r ?_
    exact ret_ [.int .i64 _] rfl ⟨rfl, trivial⟩ ⟨by rw [← he]; rfl, rfl⟩
  · rw [if_neg h1] at he
    refine s_seq ?_
    refine s_reg ?_
    refine l_q (by exact y_as_int rfl) ?_
    refine l_end ?_
    refine e_then ?_
    refine s_seq ?_
    refine s_reg ?_
    refine l_q (by exact y_mv_int rfl) ?_
    refine l_q (by exact y_mv_int rfl) ?_
    refine l_q (by first | exact y_remn rfl rfl (by omega) | exact y_rem rfl rfl (by first | decide | omega) rfl) ?_
    refine l_q (by exact y_as_int rfl) ?_
    refine l_end ?_
    refine e_then ?_
    refine s_seq ?_
    refine s_seq ?_
    refine s_reg ?_
    refine l_q (by exact y_mv_int rfl) ?_
    refine l_q (by first | exact y_lss rfl rfl (decide_eq_true (by omega)) | exact y_lss rfl rfl (decide_eq_false (by omega)) | exact y_lss rfl rfl rfl) ?_
    refine l_end ?_
    refine e_then ?_
    refine cond_f rfl ?_
    refine s_skip ?_
    refine e_then ?_
    refine s_seq ?_
    refine s_reg ?_
    refine l_q (by exact y_mv_int rfl) ?_
    refine l_q (by exact y_as_int rfl) ?_
    refine l_end ?_
    refine e_then ?_
    refine s_ret ?_
    exact ret_ [.int .i64 _] rfl ⟨rfl, trivial⟩ ⟨by rw [← he]; rfl, rfl⟩

theorem check_c {W0 w : World} {L : List (Nat × MObj)} (hs : St W0 w L) {r B l t : Int} (V : Vld r B l t) :
    FnC Try.prog 11 [.agg #[.int .i64 r, .int .i64 B, .int .i64 l, .int .i64 t]] w (fun v w' => v = .int .i64 0 ∧ St W0 w' L) := by
  obtain ⟨r0, r1, b0, b1, l0, l1, t0, t1⟩ := V
  refine FnC.enter Try.func11 rfl Try.ntmps11 rfl fun ρ => ?_
  refine s_seq ?_
  refine s_reg ?_
  refine l_w (w_boxA (vs := [_, _, _, _]) hs rfl (fun b1 w hs hb1 => ?_))
  refine l_q (by exact y_as_int rfl) ?_
  refine l_end ?_
  refine e_then ?_
  refine s_seq ?_
  refine s_seq ?_
  refine s_reg ?_
  refine l_q (by exact y_field rfl) ?_
  refine l_q (by exact y_ld hs rfl rfl) ?_
  refine l_w (w_call rfl (in_c _ _ _ _ (by omega) (by omega)) rfl (fun _ w h => ?_))
  obtain ⟨rfl, rfl⟩ := h
  refine l_q (by first | exact y_not_t rfl | exact y_not_f rfl | exact y_notd rfl) ?_
  refine l_q (by exact y_mv_bool rfl) ?_
  first | refine l_gskip rfl rfl ?_ | refine l_gskip_u rfl rfl ?_ | refine l_gdo rfl rfl (by exact y_field rfl) ?_
  first | refine l_gskip rfl rfl ?_ | refine l_gskip_u rfl rfl ?_ | refine l_gdo rfl rfl (by exact y_ld hs rfl rfl) ?_
  first | refine l_gskip rfl rfl ?_ | refine l_gskip_u rfl rfl ?_ | (refine l_gw rfl rfl (w_call rfl (in_c _ _ _ _ (by omega) (by omega)) rfl (fun _ w h => ?_)); obtain ⟨rfl, rfl⟩ := h)
  first | refine l_gskip rfl rfl ?_ | refine l_gskip_u rfl rfl ?_ | refine l_gdo rfl rfl (by first | exact y_not_t rfl | exact y_not_f rfl | exact y_notd rfl) ?_
  refine l_q (by first | exact y_pk_bt rfl rfl | exact y_pk_bf rfl rfl) ?_
  refine l_q (by exact y_mv_bool rfl) ?_
  first | refine l_gskip rfl rfl ?_ | refine l_gskip_u rfl rfl ?_ | refine l_gdo rfl rfl (by exact y_field rfl) ?_
  first | refine l_gskip rfl rfl ?_ | refine l_gskip_u rfl rfl ?_ | refine l_gdo rfl rfl (by exact y_ld hs rfl rfl) ?_
  first | refine l_gskip rfl rfl ?_ | refine l_gskip_u rfl rfl ?_ | refine l_gdo rfl rfl (by exact y_field rfl) ?_
  first | refine l_gskip rfl rfl ?_ | refine l_gskip_u rfl rfl ?_ | refine l_gdo rfl rfl (by exact y_ld hs rfl rfl) ?_
  first | refine l_gskip rfl rfl ?_ | refine l_gskip_u rfl rfl ?_ | refine l_gdo rfl rfl (by first | exact y_muln rfl rfl (by omega) | exact y_mul rfl rfl rfl) ?_
  first | refine l_gskip rfl rfl ?_ | refine l_gskip_u rfl rfl ?_ | (refine l_gw rfl rfl (w_call rfl (in_c _ _ _ _ (by omega) (by omega)) rfl (fun _ w h => ?_)); obtain ⟨rfl, rfl⟩ := h)
  first | refine l_gskip rfl rfl ?_ | refine l_gskip_u rfl rfl ?_ | refine l_gdo rfl rfl (by first | exact y_not_t rfl | exact y_not_f rfl | exact y_notd rfl) ?_
  refine l_q (by first | exact y_pk_bt rfl rfl | exact y_pk_bf rfl rfl) ?_
  refine l_q (by exact y_mv_bool rfl) ?_
  first | refine l_gskip rfl rfl ?_ | refine l_gskip_u rfl rfl ?_ | refine l_gdo rfl rfl (by exact y_field rfl) ?_
  first | refine l_gskip rfl rfl ?_ | refine l_gskip_u rfl rfl ?_ | refine l_gdo rfl rfl (by exact y_ld hs rfl rfl) ?_
  first | refine l_gskip rfl rfl ?_ | refine l_gskip_u rfl rfl ?_ | (refine l_gw rfl rfl (w_call rfl (in_c _ _ _ _ (by omega) (by omega)) rfl (fun _ w h => ?_)); obtain ⟨rfl, rfl⟩ := h)
  first | refine l_gskip rfl rfl ?_ | refine l_gskip_u rfl rfl ?_ | refine l_gdo rfl rfl (by first | exact y_not_t rfl | exact y_not_f rfl | exact y_notd rfl) ?_
  refine l_q (by first | exact y_pk_bt rfl rfl | exact y_pk_bf rfl rfl) ?_
  refine l_end ?_
  refine e_then ?_
  refine cond_f rfl ?_
  refine s_skip ?_
  refine e_then ?_
  refine s_seq ?_
  refine s_reg ?_
  refine l_q (by exact y_as_int rfl) ?_
  refine l_end ?_
  refine e_then ?_
  refine s_ret ?_
  exact ret_ [.int .i64 _] rfl ⟨rfl, trivial⟩ ⟨rfl, hs.tail⟩

theorem begin_c {W0 w : World} {L : List (Nat × MObj)} (hs : St W0 w L) {r B l t n now : Int} (V : Vld r B l t) (n0 : 0 ≤ n) (n1 : n ≤ 1000000) (m0 : t ≤ now) (m1 : now ≤ 1000000000) :
    FnC Try.prog 15 [.agg #[.int .i64 r, .int .i64 B, .int .i64 l, .int .i64 t], .int .i64 n, .int .i64 now] w (fun v w' => v = .int .i64 0 ∧ St W0 w' L) := by
  have t0 := V.t0
  refine FnC.enter Try.func15 rfl Try.ntmps15 rfl fun ρ => ?_
  refine s_seq ?_
  refine s_reg ?_
  refine l_w (w_boxA (vs := [_, _, _, _]) hs rfl (fun b3 w hs hb3 => ?_))
  refine l_q (by exact y_as_int rfl) ?_
  refine l_end ?_
  refine e_then ?_
  refine s_seq ?_
  refine s_seq ?_
  refine s_reg ?_
  refine l_q (by exact y_ldA (vs := [_, _, _, _]) hs rfl rfl rfl) ?_
  refine l_w (w_call rfl (check_c hs V) rfl (fun _ w h => ?_))
  obtain ⟨rfl, hs⟩ := h
  refine l_q (by exact y_as_int rfl) ?_
  refine l_end ?_
  refine e_then ?_
  refine s_seq ?_
  refine s_reg ?_
  refine l_q (by exact y_mv_int rfl) ?_
  refine l_q (by first | exact y_neq rfl rfl (decide_eq_true (by omega)) | exact y_neq rfl rfl (decide_eq_false (by omega)) | exact y_neq rfl rfl rfl) ?_
  refine l_end ?_
  refine e_then ?_
  refine cond_f rfl ?_
  refine s_skip ?_
  refine e_then ?_
  refine s_seq ?_
  refine s_block ?_
  refine s_seq ?_
  refine s_reg ?_
  refine l_q (by exact y_mv_int rfl) ?_
  refine l_w (w_call rfl (in_c _ _ _ _ (by omega) (by omega)) rfl (fun _ w h => ?_))
  obtain ⟨rfl, rfl⟩ := h
  refine l_q (by first | exact y_not_t rfl | exact y_not_f rfl | exact y_notd rfl) ?_
  refine l_q (by exact y_mv_bool rfl) ?_
  first | refine l_gskip rfl rfl ?_ | refine l_gskip_u rfl rfl ?_ | refine l_gdo rfl rfl (by exact y_mv_int rfl) ?_
  first | refine l_gskip rfl rfl ?_ | refine l_gskip_u rfl rfl ?_ | (refine l_gw rfl rfl (w_call rfl (in_c _ _ _ _ (by omega) (by omega)) rfl (fun _ w h => ?_)); obtain ⟨rfl, rfl⟩ := h)
  first | refine l_gskip rfl rfl ?_ | refine l_gskip_u rfl rfl ?_ | refine l_gdo rfl rfl (by first | exact y_not_t rfl | exact y_not_f rfl | exact y_notd rfl) ?_
  refine l_q (by first | exact y_pk_bt rfl rfl | exact y_pk_bf rfl rfl) ?_
  refine l_q (by exact y_as_bool rfl) ?_
  refine l_end ?_
  refine e_then ?_
  refine cond_f rfl ?_
  refine s_seq ?_
  refine s_reg ?_
  refine l_q (by exact y_mv_int rfl) ?_
  refine l_q (by exact y_field rfl) ?_
  refine l_q (by exact y_ld hs rfl rfl) ?_
  refine l_q (by first | exact y_lss rfl rfl (decide_eq_true (by omega)) | exact y_lss rfl rfl (decide_eq_false (by omega)) | exact y_lss rfl rfl rfl) ?_
  refine l_q (by exact y_as_bool rfl) ?_
  refine l_end ?_
  refine e_then ?_
  refine cond_f rfl ?_
  refine s_skip ?_
  refine e_blk ?_
  refine e_then ?_
  refine s_seq ?_
  refine s_reg ?_
  refine l_q (by exact y_as_int rfl) ?_
  refine l_end ?_
  refine e_then ?_
  refine s_ret ?_
  exact ret_ [.int .i64 _] rfl ⟨rfl, trivial⟩ ⟨rfl, hs.tail⟩

theorem pass_c {W0 w : World} {L : List (Nat × MObj)} (hs : St W0 w L) {r B l t now : Int} (V : Vld r B l t) (m0 : t ≤ now) (m1 : now ≤ 1000000000) :
    FnC Try.prog 16 [.agg #[.int .i64 r, .int .i64 B, .int .i64 l, .int .i64 t], .int .i64 now] w (fun v w' => v = .agg #[.int .i64 r, .int .i64 B, .int .i64 (lev r B l t now), .int .i64 now] ∧ St W0 w' L) := by
  obtain ⟨r0, r1, b0, b1, l0, l1, t0, t1⟩ := V
  have hm := mul_bd r (now - t) r0 r1 (by omega) (by omega)
  refine FnC.enter Try.func16 rfl Try.ntmps16 rfl fun ρ => ?_
  refine s_seq ?_
  refine s_reg ?_
  refine l_w (w_boxA (vs := [_, _, _, _]) hs rfl (fun b2 w hs hb2 => ?_))
  refine l_w (w_alloc (cs := [_, _, _, _]) hs rfl (fun b4 w hs hb4 => ?_))
  refine l_end ?_
  refine e_then ?_
  refine s_seq ?_
  refine s_reg ?_
  refine l_q (by exact y_field rfl) ?_
  refine l_q (by exact y_ld hs rfl rfl) ?_
  refine l_q (by exact y_field rfl) ?_
  refine l_q (by exact y_ld hs rfl rfl) ?_
  refine l_q (by exact y_mv_int rfl) ?_
  refine l_q (by exact y_field rfl) ?_
  refine l_q (by exact y_ld hs rfl rfl) ?_
  refine l_q (by first | exact y_subn rfl rfl (by omega) | exact y_sub rfl rfl rfl) ?_
  refine l_q (by first | exact y_muln rfl rfl (by omega) | exact y_mul rfl rfl rfl) ?_
  refine l_q (by first | exact y_addn rfl rfl (by omega) | exact y_add rfl rfl rfl) ?_
  refine l_q (by exact y_field rfl) ?_
  refine l_q (by exact y_ld hs rfl rfl) ?_
  refine l_q (by first | exact y_muln rfl rfl (by omega) | exact y_mul rfl rfl rfl) ?_
  refine l_q (by exact y_min rfl rfl rfl) ?_
  refine l_q (by exact y_field rfl) ?_
  refine l_w (w_store hs rfl rfl rfl rfl (fun w hs => ?_))
  refine l_end ?_
  refine e_then ?_
  refine s_seq ?_
  refine s_reg ?_
  refine l_q (by exact y_mv_int rfl) ?_
  refine l_q (by exact y_field rfl) ?_
  refine l_w (w_store hs rfl rfl rfl rfl (fun w hs => ?_))
  refine l_end ?_
  refine e_then ?_
  refine s_seq ?_
  refine s_reg ?_
  refine l_q (by exact y_ldA (vs := [_, _, _, _]) hs rfl rfl rfl) ?_
  refine l_w (w_storeA (vs := [_, _, _, _]) hs rfl rfl rfl rfl rfl (fun w hs => ?_))
  refine l_end ?_
  refine e_then ?_
  refine s_ret ?_
  exact ret_ [.agg (List.toArray [_, _, _, _])] rfl ⟨⟨_, rfl, run_ldA hs rfl rfl⟩, trivial⟩ ⟨rfl, hs.tail.tail⟩

theorem lev_bd {r B l t now : Int} (V : Vld r B l t) (m0 : t ≤ now) (m1 : now ≤ 1000000000) : 0 ≤ lev r B l t now ∧ lev r B l t now ≤ 1000 * B ∧ lev r B l t now ≤ l + r * (now - t) := by
  obtain ⟨r0, r1, b0, b1, l0, l1, t0, t1⟩ := V
  have hm := mul_bd r (now - t) r0 r1 (by omega) (by omega)
  unfold lev; split <;> omega

/-- What Take answers. -/
def takeV (r B l t n now : Int) : Value :=
  if lev r B l t now < 1000 * n then .tuple #[.agg #[.int .i64 r, .int .i64 B, .int .i64 (lev r B l t now), .int .i64 now], .bool false, .int .i64 0]
  else .tuple #[.agg #[.int .i64 r, .int .i64 B, .int .i64 (lev r B l t now - 1000 * n), .int .i64 now], .bool true, .int .i64 0]

theorem take_c {W0 w : World} {L : List (Nat × MObj)} (hs : St W0 w L) {r B l t n now : Int} (V : Vld r B l t) (n0 : 0 ≤ n) (n1 : n ≤ 1000000) (m0 : t ≤ now) (m1 : now ≤ 1000000000) :
    FnC Try.prog 10 [.agg #[.int .i64 r, .int .i64 B, .int .i64 l, .int .i64 t], .int .i64 n, .int .i64 now] w (fun v w' => v = takeV r B l t n now ∧ St W0 w' L) := by
  have hl := lev_bd V m0 m1
  have b1 := V.b1
  refine FnC.enter Try.func10 rfl Try.ntmps10 rfl fun ρ => ?_
  by_cases h1 : lev r B l t now < 1000 * n
  · refine s_seq ?_
    refine s_reg ?_
    refine l_w (w_boxA (vs := [_, _, _, _]) hs rfl (fun b3 w hs hb3 => ?_))
    refine l_w (w_alloc (cs := [_, _, _, _]) hs rfl (fun b6 w hs hb6 => ?_))
    refine l_q (by exact y_as_bool rfl) ?_
    refine l_q (by exact y_as_int rfl) ?_
    refine l_end ?_
    refine e_then ?_
    refine s_seq ?_
    refine s_seq ?_
    refine s_reg ?_
    refine l_q (by exact y_ldA (vs := [_, _, _, _]) hs rfl rfl rfl) ?_
    refine l_q (by exact y_mv_int rfl) ?_
    refine l_q (by exact y_mv_int rfl) ?_
    refine l_w (w_call rfl (begin_c hs V (by omega) (by omega) (by omega) (by omega)) rfl (fun _ w h => ?_))
    obtain ⟨rfl, hs⟩ := h
    refine l_q (by exact y_as_int rfl) ?_
    refine l_end ?_
    refine e_then ?_
    refine s_seq ?_
    refine s_reg ?_
    refine l_q (by exact y_mv_int rfl) ?_
    refine l_q (by first | exact y_neq rfl rfl (decide_eq_true (by omega)) | exact y_neq rfl rfl (decide_eq_false (by omega)) | exact y_neq rfl rfl rfl) ?_
    refine l_end ?_
    refine e_then ?_
    refine cond_f rfl ?_
    refine s_skip ?_
    refine e_then ?_
    refine s_seq ?_
    refine s_reg ?_
    refine l_q (by exact y_ldA (vs := [_, _, _, _]) hs rfl rfl rfl) ?_
    refine l_q (by exact y_mv_int rfl) ?_
    refine l_w (w_call rfl (pass_c hs V (by omega) (by omega)) rfl (fun _ w h => ?_))
    obtain ⟨rfl, hs⟩ := h
    refine l_w (w_storeA (vs := [_, _, _, _]) hs rfl rfl rfl rfl rfl (fun w hs => ?_))
    refine l_end ?_
    refine e_then ?_
    refine s_seq ?_
    refine s_seq ?_
    refine s_reg ?_
    refine l_q (by exact y_field rfl) ?_
    refine l_q (by exact y_ld hs rfl rfl) ?_
    refine l_q (by exact y_mv_int rfl) ?_
    refine l_q (by first | exact y_muln rfl rfl (by omega) | exact y_mul rfl rfl rfl) ?_
    refine l_q (by first | exact y_lss rfl rfl (decide_eq_true (by omega)) | exact y_lss rfl rfl (decide_eq_false (by omega)) | exact y_lss rfl rfl rfl) ?_
    refine l_end ?_
    refine e_then ?_
    refine cond_t rfl ?_
    refine s_seq ?_
    refine s_reg ?_
    refine l_q (by exact y_ldA (vs := [_, _, _, _]) hs rfl rfl rfl) ?_
    refine l_w (w_storeA (vs := [_, _, _, _]) hs rfl rfl rfl rfl rfl (fun w hs => ?_))
    refine l_q (by exact y_as_bool rfl) ?_
    refine l_q (by exact y_as_int rfl) ?_
    refine l_end ?_
    refine e_then ?_
    refine s_ret ?_
    refine e_then_r ?_
    exact ret_ [.agg (List.toArray [_, _, _, _]), .bool _, .int .i64 _] rfl ⟨⟨_, rfl, run_ldA hs rfl rfl⟩, rfl, rfl, trivial⟩ ⟨by unfold takeV; rw [if_pos h1]; rfl, hs.tail.tail⟩
  · refine s_seq ?_
    refine s_reg ?_
    refine l_w (w_boxA (vs := [_, _, _, _]) hs rfl (fun b3 w hs hb3 => ?_))
    refine l_w (w_alloc (cs := [_, _, _, _]) hs rfl (fun b6 w hs hb6 => ?_))
    refine l_q (by exact y_as_bool rfl) ?_
    refine l_q (by exact y_as_int rfl) ?_
    refine l_end ?_
    refine e_then ?_
    refine s_seq ?_
    refine s_seq ?_
    refine s_reg ?_
    refine l_q (by exact y_ldA (vs := [_, _, _, _]) hs rfl rfl rfl) ?_
    refine l_q (by exact y_mv_int rfl) ?_
    refine l_q (by exact y_mv_int rfl) ?_
    refine l_w (w_call rfl (begin_c hs V (by omega) (by omega) (by omega) (by omega)) rfl (fun _ w h => ?_))
    obtain ⟨rfl, hs⟩ := h
    refine l_q (by exact y_as_int rfl) ?_
    refine l_end ?_
    refine e_then ?_
    refine s_seq ?_
    refine s_reg ?_
    refine l_q (by exact y_mv_int rfl) ?_
    refine l_q (by first | exact y_neq rfl rfl (decide_eq_true (by omega)) | exact y_neq rfl rfl (decide_eq_false (by omega)) | exact y_neq rfl rfl rfl) ?_
    refine l_end ?_
    refine e_then ?_
    refine cond_f rfl ?_
    refine s_skip ?_
    refine e_then ?_
    refine s_seq ?_
    refine s_reg ?_
    refine l_q (by exact y_ldA (vs := [_, _, _, _]) hs rfl rfl rfl) ?_
    refine l_q (by exact y_mv_int rfl) ?_
    refine l_w (w_call rfl (pass_c hs V (by omega) (by omega)) rfl (fun _ w h => ?_))
    obtain ⟨rfl, hs⟩ := h
    refine l_w (w_storeA (vs := [_, _, _, _]) hs rfl rfl rfl rfl rfl (fun w hs => ?_))
    refine l_end ?_
    refine e_then ?_
    refine s_seq ?_
    refine s_seq ?_
    refine s_reg ?_
    refine l_q (by exact y_field rfl) ?_
    refine l_q (by exact y_ld hs rfl rfl) ?_
    refine l_q (by exact y_mv_int rfl) ?_
    refine l_q (by first | exact y_muln rfl rfl (by omega) | exact y_mul rfl rfl rfl) ?_
    refine l_q (by first | exact y_lss rfl rfl (decide_eq_true (by omega)) | exact y_lss rfl rfl (decide_eq_false (by omega)) | exact y_lss rfl rfl rfl) ?_
    refine l_end ?_
    refine e_then ?_
    refine cond_f rfl ?_
    refine s_skip ?_
    refine e_then ?_
    refine s_seq ?_
    refine s_reg ?_
    refine l_q (by exact y_field rfl) ?_
    refine l_q (by exact y_ld hs rfl rfl) ?_
    refine l_q (by exact y_mv_int rfl) ?_
    refine l_q (by first | exact y_muln rfl rfl (by omega) | exact y_mul rfl rfl rfl) ?_
    refine l_q (by first | exact y_subn rfl rfl (by omega) | exact y_sub rfl rfl rfl) ?_
    refine l_q (by exact y_field rfl) ?_
    refine l_w (w_store hs rfl rfl rfl rfl (fun w hs => ?_))
    refine l_end ?_
    refine e_then ?_
    refine s_seq ?_
    refine s_reg ?_
    refine l_q (by exact y_ldA (vs := [_, _, _, _]) hs rfl rfl rfl) ?_
    refine l_w (w_storeA (vs := [_, _, _, _]) hs rfl rfl rfl rfl rfl (fun w hs => ?_))
    refine l_q (by exact y_as_bool rfl) ?_
    refine l_q (by exact y_as_int rfl) ?_
    refine l_end ?_
    refine e_then ?_
    refine s_ret ?_
    exact ret_ [.agg (List.toArray [_, _, _, _]), .bool _, .int .i64 _] rfl ⟨⟨_, rfl, run_ldA hs rfl rfl⟩, rfl, rfl, trivial⟩ ⟨by unfold takeV; rw [if_neg h1]; rfl, hs.tail.tail⟩

theorem full_c {W0 w : World} {L : List (Nat × MObj)} (hs : St W0 w L) :
    FnC Try.prog 14 [.int .i64 5, .int .i64 2, .int .i64 0] w (fun v w' => v = .tuple #[.agg #[.int .i64 5, .int .i64 2, .int .i64 2000, .int .i64 0], .int .i64 0] ∧ St W0 w' L) := by
  have V : Vld 5 2 0 0 := ⟨by decide, by decide, by decide, by decide, by decide, by decide, by decide, by decide⟩
  refine FnC.enter Try.func14 rfl Try.ntmps14 rfl fun ρ => ?_
  refine s_seq ?_
  refine s_reg ?_
  refine l_w (w_alloc (cs := [_, _, _, _]) hs rfl (fun b6 w hs hb6 => ?_))
  refine l_q (by exact y_as_int rfl) ?_
  refine l_end ?_
  refine e_then ?_
  refine s_seq ?_
  refine s_reg ?_
  refine l_q (by exact y_mv_int rfl) ?_
  refine l_q (by exact y_mv_int rfl) ?_
  refine l_q (by exact y_mv_int rfl) ?_
  refine l_q (by exact y_build (pv := [(0, .int .i64 _), (1, .int .i64 _), (3, .int .i64 _)]) (vs := [_, _, _, _]) rfl rfl) ?_
  refine l_w (w_alloc (cs := [_, _, _, _]) hs rfl (fun b8 w hs hb8 => ?_))
  refine l_w (w_storeA (vs := [_, _, _, _]) hs rfl rfl rfl rfl rfl (fun w hs => ?_))
  refine l_end ?_
  refine e_then ?_
  refine s_seq ?_
  refine s_seq ?_
  refine s_reg ?_
  refine l_q (by exact y_ldA (vs := [_, _, _, _]) hs rfl rfl rfl) ?_
  refine l_w (w_call rfl (check_c hs V) rfl (fun _ w h => ?_))
  obtain ⟨rfl, hs⟩ := h
  refine l_q (by exact y_as_int rfl) ?_
  refine l_end ?_
  refine e_then ?_
  refine s_seq ?_
  refine s_reg ?_
  refine l_q (by exact y_mv_int rfl) ?_
  refine l_q (by first | exact y_neq rfl rfl (decide_eq_true (by omega)) | exact y_neq rfl rfl (decide_eq_false (by omega)) | exact y_neq rfl rfl rfl) ?_
  refine l_end ?_
  refine e_then ?_
  refine cond_f rfl ?_
  refine s_skip ?_
  refine e_then ?_
  refine s_seq ?_
  refine s_reg ?_
  refine l_q (by exact y_mv_int rfl) ?_
  refine l_q (by first | exact y_muln rfl rfl (by omega) | exact y_mul rfl rfl rfl) ?_
  refine l_q (by exact y_field rfl) ?_
  refine l_w (w_store hs rfl rfl rfl rfl (fun w hs => ?_))
  refine l_end ?_
  refine e_then ?_
  refine s_seq ?_
  refine s_reg ?_
  refine l_q (by exact y_ldA (vs := [_, _, _, _]) hs rfl rfl rfl) ?_
  refine l_w (w_storeA (vs := [_, _, _, _]) hs rfl rfl rfl rfl rfl (fun w hs => ?_))
  refine l_q (by exact y_as_int rfl) ?_
  refine l_end ?_
  refine e_then ?_
  refine s_ret ?_
  exact ret_ [.agg (List.toArray [_, _, _, _]), .int .i64 _] rfl ⟨⟨_, rfl, run_ldA hs rfl rfl⟩, rfl, trivial⟩ ⟨rfl, hs.tail.tail⟩

theorem fact_c {W0 w : World} {L : List (Nat × MObj)} (hs : St W0 w L) : FnC Try.prog 7 [] w (fun v w' => v = .bool true ∧ St W0 w' L) := by
  refine FnC.enter Try.func7 rfl Try.ntmps7 rfl fun ρ => ?_
  refine s_seq ?_
  refine s_reg ?_
  refine l_q (by exact y_as_bool rfl) ?_
  refine l_end ?_
  refine e_then ?_
  refine s_seq ?_
  refine s_reg ?_
  refine l_w (w_call rfl (full_c hs) rfl (fun _ w h => ?_))
  obtain ⟨rfl, hs⟩ := h
  refine l_q (by exact y_mv_tuple rfl) ?_
  refine l_q (by exact y_extract rfl rfl) ?_
  refine l_q (by exact y_extract rfl rfl) ?_
  refine l_w (w_alloc (cs := [_, _, _, _]) hs rfl (fun b1 w hs hb1 => ?_))
  refine l_w (w_storeA (vs := [_, _, _, _]) hs rfl rfl rfl rfl rfl (fun w hs => ?_))
  refine l_q (by exact y_as_int rfl) ?_
  refine l_end ?_
  refine e_then ?_
  refine s_seq ?_
  refine s_reg ?_
  refine l_q (by exact y_ldA (vs := [_, _, _, _]) hs rfl rfl rfl) ?_
  refine l_q (by exact y_build (pv := [(0, .int .i64 _), (1, .int .i64 _), (2, .int .i64 _)]) (vs := [_, _, _, _]) rfl rfl) ?_
  refine l_q (by exact y_eqlA rfl rfl rfl rfl) ?_
  refine l_q (by exact y_mv_bool rfl) ?_
  first | refine l_gskip rfl rfl ?_ | refine l_gskip_u rfl rfl ?_ | refine l_gdo rfl rfl (by exact y_mv_int rfl) ?_
  first | refine l_gskip rfl rfl ?_ | refine l_gskip_u rfl rfl ?_ | refine l_gdo rfl rfl (by first | exact y_eql rfl rfl (decide_eq_true (by omega)) | exact y_eql rfl rfl (decide_eq_false (by omega)) | exact y_eql rfl rfl rfl) ?_
  refine l_q (by first | exact y_pk_bt rfl rfl | exact y_pk_bf rfl rfl) ?_
  refine l_q (by exact y_as_bool rfl) ?_
  refine l_end ?_
  refine e_then ?_
  refine s_ret ?_
  exact ret_ [.bool _] rfl ⟨rfl, trivial⟩ ⟨rfl, hs.tail⟩

theorem filled_c {W0 w : World} {L : List (Nat × MObj)} (hs : St W0 w L) (a b c : Int) :
    FnC Try.prog 8 [.int .i64 a, .int .i64 b, .int .i64 c] w (fun v w' => v = .agg #[.int .i64 (a % 5000), .int .i64 (1 + b % 50), .int .i64 (c % (1000 * (1 + b % 50) + 1)), .int .i64 0] ∧ St W0 w' L) := by
  refine FnC.enter Try.func8 rfl Try.ntmps8 rfl fun ρ => ?_
  refine s_seq ?_
  refine s_reg ?_
  refine l_w (w_alloc (cs := [_, _, _, _]) hs rfl (fun b6 w hs hb6 => ?_))
  refine l_end ?_
  refine e_then ?_
  refine s_seq ?_
  refine s_reg ?_
  refine l_q (by exact y_mv_int rfl) ?_
  refine l_w (w_call rfl (rest_c _ _ _ (by omega) (by omega)) rfl (fun _ w h => ?_))
  obtain ⟨rfl, rfl⟩ := h
  refine l_q (by exact y_mv_int rfl) ?_
  refine l_w (w_call rfl (rest_c _ _ _ (by omega) (by omega)) rfl (fun _ w h => ?_))
  obtain ⟨rfl, rfl⟩ := h
  refine l_q (by first | exact y_addn rfl rfl (by omega) | exact y_add rfl rfl rfl) ?_
  refine l_q (by exact y_build (pv := [(0, .int .i64 _), (1, .int .i64 _)]) (vs := [_, _, _, _]) rfl rfl) ?_
  refine l_w (w_alloc (cs := [_, _, _, _]) hs rfl (fun b7 w hs hb7 => ?_))
  refine l_w (w_storeA (vs := [_, _, _, _]) hs rfl rfl rfl rfl rfl (fun w hs => ?_))
  refine l_end ?_
  refine e_then ?_
  refine s_seq ?_
  refine s_reg ?_
  refine l_q (by exact y_mv_int rfl) ?_
  refine l_q (by exact y_field rfl) ?_
  refine l_q (by exact y_ld hs rfl rfl) ?_
  refine l_q (by first | exact y_muln rfl rfl (by omega) | exact y_mul rfl rfl rfl) ?_
  refine l_q (by first | exact y_addn rfl rfl (by omega) | exact y_add rfl rfl rfl) ?_
  refine l_w (w_call rfl (rest_c _ _ _ (by omega) (by omega)) rfl (fun _ w h => ?_))
  obtain ⟨rfl, rfl⟩ := h
  refine l_q (by exact y_field rfl) ?_
  refine l_w (w_store hs rfl rfl rfl rfl (fun w hs => ?_))
  refine l_end ?_
  refine e_then ?_
  refine s_seq ?_
  refine s_reg ?_
  refine l_q (by exact y_ldA (vs := [_, _, _, _]) hs rfl rfl rfl) ?_
  refine l_w (w_storeA (vs := [_, _, _, _]) hs rfl rfl rfl rfl rfl (fun w hs => ?_))
  refine l_end ?_
  refine e_then ?_
  refine s_ret ?_
  exact ret_ [.agg (List.toArray [_, _, _, _])] rfl ⟨⟨_, rfl, run_ldA hs rfl rfl⟩, trivial⟩ ⟨rfl, hs.tail.tail⟩

theorem take_no {W0 w : World} {L : List (Nat × MObj)} (hs : St W0 w L) {r B l t n now : Int} (V : Vld r B l t) (n0 : 0 ≤ n) (n1 : n ≤ 1000000) (m0 : t ≤ now) (m1 : now ≤ 1000000000) (h : lev r B l t now < 1000 * n) :
    FnC Try.prog 10 [.agg #[.int .i64 r, .int .i64 B, .int .i64 l, .int .i64 t], .int .i64 n, .int .i64 now] w (fun v w' => v = .tuple #[.agg #[.int .i64 r, .int .i64 B, .int .i64 (lev r B l t now), .int .i64 now], .bool false, .int .i64 0] ∧ St W0 w' L) := by
  have := take_c hs V n0 n1 m0 m1
  unfold takeV at this
  rw [if_pos h] at this
  exact this
theorem take_yes {W0 w : World} {L : List (Nat × MObj)} (hs : St W0 w L) {r B l t n now : Int} (V : Vld r B l t) (n0 : 0 ≤ n) (n1 : n ≤ 1000000) (m0 : t ≤ now) (m1 : now ≤ 1000000000) (h : 1000 * n ≤ lev r B l t now) :
    FnC Try.prog 10 [.agg #[.int .i64 r, .int .i64 B, .int .i64 l, .int .i64 t], .int .i64 n, .int .i64 now] w (fun v w' => v = .tuple #[.agg #[.int .i64 r, .int .i64 B, .int .i64 (lev r B l t now - 1000 * n), .int .i64 now], .bool true, .int .i64 0] ∧ St W0 w' L) := by
  have := take_c hs V n0 n1 m0 m1
  unfold takeV at this
  rw [if_neg (by omega)] at this
  exact this
end Go.Proofs.Ytfjobjbbncclbaa
