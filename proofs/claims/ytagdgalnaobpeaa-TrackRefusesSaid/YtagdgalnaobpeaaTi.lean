/- Facts on the functions and types of this seat that its laws are proved from: contracts under the premises that each theorem names. -/
import Derived.Test.YtagdgalnaobpeaaTh
set_option linter.unusedSimpArgs false
set_option linter.unusedVariables false
set_option linter.unnecessarySimpa false
namespace Go.Proofs.Ytagdgalnaobpeaa
open Go Go.RowKit PB
set_option linter.unusedVariables false
set_option linter.unusedSimpArgs false

abbrev overF (tb : Nat) : Value := .func (.func 34) #[] #[.pointer (some ⟨tb, 0, none⟩)]
theorem index_nil {W0 w : World} {L : List (Nat × MObj)} (f : Value) (hs : St W0 w L) :
    FnC Try.prog 43 [.slice none 0 0, f] w (fun v w' => v = I64 (-1) ∧ St W0 w' L) := by
  refine FnC.enter Try.func43 rfl Try.ntmps43 rfl fun ρ => ?_
  refine s_seq ?_
  refine s_reg ?_
  refine l_q (by exact y_as_int rfl) ?_
  refine l_end ?_
  refine e_then ?_
  refine s_seq ?_
  refine s_seq ?_
  refine s_reg ?_
  refine l_q (by exact y_mv_slice rfl) ?_
  refine l_q (by exact y_len_slice rfl) ?_
  refine l_q (by exact y_mv_int rfl) ?_
  refine l_end ?_
  refine e_then ?_
  refine s_block ?_
  refine loop_st (X := Unit) (fun _ => [(7, I64 0), (8, I64 0)]) (fun _ w' => w' = w) (fun _ => 0) () ⟨rfl, rfl, trivial⟩ rfl ?_
  rintro _ ρ w' rfl
  refine s_seq ?_
  refine s_reg ?_
  refine l_q (by first | exact y_lss rfl rfl (decide_eq_true (by omega)) | exact y_lss rfl rfl (decide_eq_false (by omega)) | exact y_lss rfl rfl rfl) ?_
  refine l_end ?_
  refine e_then ?_
  refine s_seq ?_
  refine cond_f rfl ?_
  refine s_exit ?_
  refine e_then_x ?_
  refine e_then_x ?_
  refine e_blk_x ?_
  refine e_then ?_
  refine s_seq ?_
  refine s_reg ?_
  refine l_q (by exact y_as_int rfl) ?_
  refine l_end ?_
  refine e_then ?_
  refine s_ret ?_
  exact ret_ [.int .i64 _] rfl ⟨rfl, trivial⟩ ⟨rfl, hs⟩

theorem index_one {W0 w : World} {L : List (Nat × MObj)} {tb eb cap : Nat} (e : Ent) (esp : List Value) (now : Int) (ov : Bool) (ho : decide (e.til ≤ now) = ov) [hi : InL tb (.cells [I64 now] 3) L] [hi2 : InL eb (.cells (e.cells ++ esp) 70) L] (hs : St W0 w L) :
    FnC Try.prog 43 [.slice (some ⟨eb, 0, none⟩) 1 cap, overF tb] w (fun v w' => v = I64 (if ov then 0 else -1) ∧ St W0 w' L) := by
  refine FnC.enter Try.func43 rfl Try.ntmps43 rfl fun ρ => ?_
  refine s_seq ?_
  refine s_reg ?_
  refine l_q (by exact y_as_int rfl) ?_
  refine l_end ?_
  refine e_then ?_
  refine s_seq ?_
  refine s_seq ?_
  refine s_reg ?_
  refine l_q (by exact y_mv_slice rfl) ?_
  refine l_q (by exact y_len_slice rfl) ?_
  refine l_q (by exact y_mv_int rfl) ?_
  refine l_end ?_
  refine e_then ?_
  refine s_block ?_
  refine loop_st (X := Nat) (fun i => [(0, .slice (some ⟨eb, 0, none⟩) 1 cap), (1, overF tb), (7, I64 1), (8, I64 i)]) (fun i w' => St W0 w' L ∧ i ≤ 1 ∧ (i = 1 → ov = false)) (fun i => 1 - i) 0 ⟨rfl, rfl, rfl, rfl, trivial⟩ ⟨hs, by omega, by omega⟩ ?_
  rintro i ρ w' ⟨hs, hi1, hi2⟩
  by_cases c : i = 0
  · subst c
    cases ov
    · refine s_seq ?_
      refine s_reg ?_
      refine l_q (by first | exact y_lss rfl rfl (decide_eq_true (by omega)) | exact y_lss rfl rfl (decide_eq_false (by omega)) | exact y_lss rfl rfl rfl) ?_
      refine l_end ?_
      refine e_then ?_
      refine s_seq ?_
      refine cond_t rfl ?_
      refine s_skip ?_
      refine e_then ?_
      refine s_seq ?_
      refine s_block ?_
      refine s_seq ?_
      refine s_reg ?_
      refine l_q (by exact y_mv_int rfl) ?_
      refine l_q (by exact y_as_int rfl) ?_
      refine l_end ?_
      refine e_then ?_
      refine s_seq ?_
      refine s_reg ?_
      refine l_q (by exact y_mv_func rfl) ?_
      refine l_q (by exact y_mv_slice rfl) ?_
      refine l_q (by exact y_mv_int rfl) ?_
      refine l_q (by exact y_indexT (off := 0) rfl rfl (by decide) (by decide) rfl rfl) ?_
      refine l_q (by exact y_ldA (vs := e.cells) hs rfl rfl rfl) ?_
      refine l_w (w_call rfl (over_c (tb := tb) e now _ ho hs) rfl (fun _ w h => ?_))
      obtain ⟨rfl, hs⟩ := h
      refine l_end ?_
      refine e_then ?_
      refine cond_f rfl ?_
      refine s_skip ?_
      refine e_blk ?_
      refine e_then ?_
      refine s_reg ?_
      refine l_q (by first | exact y_addn rfl rfl (by omega) | exact y_add rfl rfl rfl) ?_
      refine l_q (by exact y_mv_int rfl) ?_
      refine l_end ?_
      refine e_then ?_
      exact ⟨1, _, nx ⟨rfl, rfl, rfl, rfl, trivial⟩, ⟨hs, by omega, fun _ => rfl⟩, by omega⟩
    · refine s_seq ?_
      refine s_reg ?_
      refine l_q (by first | exact y_lss rfl rfl (decide_eq_true (by omega)) | exact y_lss rfl rfl (decide_eq_false (by omega)) | exact y_lss rfl rfl rfl) ?_
      refine l_end ?_
      refine e_then ?_
      refine s_seq ?_
      refine cond_t rfl ?_
      refine s_skip ?_
      refine e_then ?_
      refine s_seq ?_
      refine s_block ?_
      refine s_seq ?_
      refine s_reg ?_
      refine l_q (by exact y_mv_int rfl) ?_
      refine l_q (by exact y_as_int rfl) ?_
      refine l_end ?_
      refine e_then ?_
      refine s_seq ?_
      refine s_reg ?_
      refine l_q (by exact y_mv_func rfl) ?_
      refine l_q (by exact y_mv_slice rfl) ?_
      refine l_q (by exact y_mv_int rfl) ?_
      refine l_q (by exact y_indexT (off := 0) rfl rfl (by decide) (by decide) rfl rfl) ?_
      refine l_q (by exact y_ldA (vs := e.cells) hs rfl rfl rfl) ?_
      refine l_w (w_call rfl (over_c (tb := tb) e now _ ho hs) rfl (fun _ w h => ?_))
      obtain ⟨rfl, hs⟩ := h
      refine l_end ?_
      refine e_then ?_
      refine cond_t rfl ?_
      refine s_seq ?_
      refine s_reg ?_
      refine l_q (by exact y_mv_int rfl) ?_
      refine l_q (by exact y_as_int rfl) ?_
      refine l_end ?_
      refine e_then ?_
      refine s_ret ?_
      refine e_blk_r ?_
      refine e_then_r ?_
      refine e_then_r ?_
      refine e_blk_r ?_
      refine e_then_r ?_
      exact ret_ [.int .i64 _] rfl ⟨rfl, trivial⟩ ⟨rfl, hs⟩
  · have : i = 1 := by omega
    subst this
    have := hi2 rfl
    subst this
    refine s_seq ?_
    refine s_reg ?_
    refine l_q (by first | exact y_lss rfl rfl (decide_eq_true (by omega)) | exact y_lss rfl rfl (decide_eq_false (by omega)) | exact y_lss rfl rfl rfl) ?_
    refine l_end ?_
    refine e_then ?_
    refine s_seq ?_
    refine cond_f rfl ?_
    refine s_exit ?_
    refine e_then_x ?_
    refine e_then_x ?_
    refine e_blk_x ?_
    refine e_then ?_
    refine s_seq ?_
    refine s_reg ?_
    refine l_q (by exact y_as_int rfl) ?_
    refine l_end ?_
    refine e_then ?_
    refine s_ret ?_
    exact ret_ [.int .i64 _] rfl ⟨rfl, trivial⟩ ⟨rfl, hs⟩
end Go.Proofs.Ytagdgalnaobpeaa
