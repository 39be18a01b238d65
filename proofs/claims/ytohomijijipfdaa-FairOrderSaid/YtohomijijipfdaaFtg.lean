/- Facts on the functions and types of this seat that its laws are proved from: contracts under the premises that each theorem names. -/
import Derived.Test.YtohomijijipfdaaFtf
set_option linter.unusedSimpArgs false
set_option linter.unusedVariables false
set_option linter.unnecessarySimpa false
namespace Go.Proofs.Ytohomijijipfdaa
open Go Go.RowKit PB
set_option linter.unusedVariables false


theorem weights_c {W w : World} {a0 : Option Addr} {len0 cap0 : Nat} {z : List Int} {L : List (Nat × MObj)} (h0 : Ints W a0 len0 z) (l0 : len0 ≤ 9223372036854775807) (hs : St W w []) :
    FnC Try.prog 7 [.slice a0 len0 cap0] w (fun v w' => ∃ (s : OS) (ws : List Int), v = .slice s.ad ws.length s.cap ∧ s.ok (ws.map I64) ws.length 1 ∧ 1 ≤ ws.length ∧ ws.length ≤ 8 ∧ (∀ w ∈ ws, 1 ≤ w ∧ w ≤ 20) ∧ St W w' (s.blk (ws.map I64) 3 ++ [])) := by
  refine FnC.enter Try.func7 rfl Try.ntmps7 rfl fun ρ => ?_
  refine s_seq ?_
  refine s_reg ?_
  refine l_q (by exact y_as_slice rfl) ?_
  refine l_end ?_
  refine e_then ?_
  refine s_seq ?_
  refine s_reg ?_
  refine l_w (w_buildSlice (pv := [(0, .int .i64 _)]) (vs := [_]) hs rfl rfl rfl rfl (fun b6 w hs hb6 => ?_))
  refine l_q (by exact y_as_slice rfl) ?_
  refine l_end ?_
  refine e_then ?_
  refine s_seq ?_
  refine s_seq ?_
  refine s_reg ?_
  refine l_q (by exact y_as_int rfl) ?_
  refine l_end ?_
  refine e_then ?_
  refine s_block ?_
  refine loop_st (X := Nat × List Int × OS) (fun x => [(0, .slice a0 len0 cap0), (3, .slice x.2.2.ad x.2.1.length x.2.2.cap), (4, I64 x.1)])
    (fun x w => St W w (x.2.2.blk (x.2.1.map I64) 3 ++ []) ∧ x.1 ≤ 8 ∧ x.2.2.ok (x.2.1.map I64) x.2.1.length 1 ∧ (x.1 = 0 → x.2.1 = [1]) ∧ (0 < x.1 → x.2.1.length = x.1) ∧ (∀ w ∈ x.2.1, 1 ≤ w ∧ w ≤ 20)) (fun x => 8 - x.1) (0, [1], ⟨some b6, 1, []⟩) ⟨rfl, rfl, rfl, trivial⟩ ⟨hs, by omega, ⟨rfl, rfl, Nat.le_refl _, fun h => by cases h⟩, fun _ => rfl, fun h => absurd h (by omega), by simp⟩ ?_
  rintro ⟨i, ws, s⟩ ρ w ⟨hs, i1, hok, z1, z2, hb⟩
  dsimp only at *
  have hlen : 1 ≤ ws.length ∧ ws.length ≤ 8 := by
    rcases Nat.eq_zero_or_pos i with h | h
    · rw [z1 h]; simp
    · rw [z2 h]; omega
  by_cases c : i < len0 ∧ i < 8
  · obtain ⟨c1, c2⟩ := c
    obtain ⟨x0, hx0, hc0⟩ := h0.at_ i c1
    have r1 := Int.emod_nonneg (z.getD i 0) (show (20 : Int) ≠ 0 by omega)
    have r2 := Int.emod_lt_of_pos (z.getD i 0) (show (0 : Int) < 20 by omega)
    by_cases ci : i = 0
    · have hws := z1 ci
      subst hws
      obtain ⟨g, hga⟩ : ∃ g, s.a = some g := by
        cases h : s.a with
        | none => have := hok.nil_ h; simp at this
        | some g => exact ⟨g, rfl⟩
      have had : s.ad = some ⟨g, 0, none⟩ := by simp [OS.ad, hga]
      refine s_seq ?_
      refine s_seq ?_
      refine s_reg ?_
      refine l_q (by exact y_mv_int rfl) ?_
      refine l_q (by exact y_mv_slice rfl) ?_
      refine l_q (by exact y_len_slice rfl) ?_
      refine l_q (by first | exact y_lss rfl rfl (decide_eq_true (by omega)) | exact y_lss rfl rfl (decide_eq_false (by omega)) | exact y_lss rfl rfl rfl) ?_
      refine l_q (by exact y_mv_bool rfl) ?_
      first | refine l_gskip rfl rfl ?_ | refine l_gskip_u rfl rfl ?_ | refine l_gdo rfl rfl (by exact y_mv_int rfl) ?_
      first | refine l_gskip rfl rfl ?_ | refine l_gskip_u rfl rfl ?_ | refine l_gdo rfl rfl (by first | exact y_lss rfl rfl (decide_eq_true (by omega)) | exact y_lss rfl rfl (decide_eq_false (by omega)) | exact y_lss rfl rfl rfl) ?_
      refine l_q (by first | exact y_pk_bt rfl rfl | exact y_pk_bf rfl rfl) ?_
      refine l_end ?_
      refine e_then ?_
      refine cond_t rfl ?_
      refine s_skip ?_
      refine e_then ?_
      refine s_seq ?_
      refine s_block ?_
      refine s_seq ?_
      refine s_reg ?_
      refine l_q (by exact y_mv_slice rfl) ?_
      refine l_q (by exact y_mv_int rfl) ?_
      refine l_q (by exact y_indexA1 rfl rfl (by omega) (by omega) hx0) ?_
      refine l_q (by exact y_ldOld hs rfl hc0) ?_
      refine l_w (w_call rfl (rest_c _ _ _ (by omega) (by omega)) rfl (fun _ w h => ?_))
      obtain ⟨rfl, rfl⟩ := h
      refine l_q (by first | exact y_addn rfl rfl (by omega) | exact y_add rfl rfl rfl) ?_
      refine l_q (by exact y_as_int rfl) ?_
      refine l_end ?_
      refine e_then ?_
      refine s_seq ?_
      refine s_reg ?_
      refine l_q (by exact y_mv_int rfl) ?_
      refine l_q (by first | exact y_eql rfl rfl (decide_eq_true (by omega)) | exact y_eql rfl rfl (decide_eq_false (by omega)) | exact y_eql rfl rfl rfl) ?_
      refine l_end ?_
      refine e_then ?_
      refine cond_t rfl ?_
      refine s_reg ?_
      refine l_q (by exact y_mv_slice rfl) ?_
      refine l_q (by exact y_mv_int rfl) ?_
      refine l_q (by exact y_indexT (off := 0) rfl rfl (by omega) (by simp) had (by omega)) ?_
      refine l_w (w_storeF (v := I64 (1 + z.getD i 0 % 20)) (xs' := [I64 (1 + z.getD i 0 % 20)]) [] hs hga rfl rfl rfl (by rw [Nat.blt_eq]; simp) rfl (fun w hs => ?_))
      refine l_end ?_
      refine e_blk ?_
      refine e_then ?_
      refine s_reg ?_
      refine l_q (by exact y_mv_int rfl) ?_
      refine l_q (by first | exact y_addn rfl rfl (by omega) | exact y_add rfl rfl rfl) ?_
      refine l_q (by exact y_as_int rfl) ?_
      refine l_end ?_
      refine e_then ?_
      exact ⟨(i + 1, [1 + z.getD i 0 % 20], s), _, nx ⟨rfl, rfl, rfl, trivial⟩, ⟨hs, by dsimp only; omega, ⟨rfl, hok.sp_, hok.cap_, hok.nil_⟩, fun h => absurd h (by dsimp only; omega), fun _ => by dsimp only; simp [ci], by simp; omega⟩, by dsimp only; omega⟩
    · have hl := z2 (by omega)
      refine s_seq ?_
      refine s_seq ?_
      refine s_reg ?_
      refine l_q (by exact y_mv_int rfl) ?_
      refine l_q (by exact y_mv_slice rfl) ?_
      refine l_q (by exact y_len_slice rfl) ?_
      refine l_q (by first | exact y_lss rfl rfl (decide_eq_true (by omega)) | exact y_lss rfl rfl (decide_eq_false (by omega)) | exact y_lss rfl rfl rfl) ?_
      refine l_q (by exact y_mv_bool rfl) ?_
      first | refine l_gskip rfl rfl ?_ | refine l_gskip_u rfl rfl ?_ | refine l_gdo rfl rfl (by exact y_mv_int rfl) ?_
      first | refine l_gskip rfl rfl ?_ | refine l_gskip_u rfl rfl ?_ | refine l_gdo rfl rfl (by first | exact y_lss rfl rfl (decide_eq_true (by omega)) | exact y_lss rfl rfl (decide_eq_false (by omega)) | exact y_lss rfl rfl rfl) ?_
      refine l_q (by first | exact y_pk_bt rfl rfl | exact y_pk_bf rfl rfl) ?_
      refine l_end ?_
      refine e_then ?_
      refine cond_t rfl ?_
      refine s_skip ?_
      refine e_then ?_
      refine s_seq ?_
      refine s_block ?_
      refine s_seq ?_
      refine s_reg ?_
      refine l_q (by exact y_mv_slice rfl) ?_
      refine l_q (by exact y_mv_int rfl) ?_
      refine l_q (by exact y_indexA1 rfl rfl (by omega) (by omega) hx0) ?_
      refine l_q (by exact y_ldOld hs rfl hc0) ?_
      refine l_w (w_call rfl (rest_c _ _ _ (by omega) (by omega)) rfl (fun _ w h => ?_))
      obtain ⟨rfl, rfl⟩ := h
      refine l_q (by first | exact y_addn rfl rfl (by omega) | exact y_add rfl rfl rfl) ?_
      refine l_q (by exact y_as_int rfl) ?_
      refine l_end ?_
      refine e_then ?_
      refine s_seq ?_
      refine s_reg ?_
      refine l_q (by exact y_mv_int rfl) ?_
      refine l_q (by first | exact y_eql rfl rfl (decide_eq_true (by omega)) | exact y_eql rfl rfl (decide_eq_false (by omega)) | exact y_eql rfl rfl rfl) ?_
      refine l_end ?_
      refine e_then ?_
      refine cond_f rfl ?_
      refine s_reg ?_
      refine l_q (by exact y_mv_slice rfl) ?_
      refine l_q (by exact y_mv_int rfl) ?_
      refine l_w (w_buildSlice (pv := [(0, .int .i64 _)]) (vs := [_]) hs rfl rfl rfl rfl (fun b30 w hs hb30 => ?_))
      refine l_w (w_append (ys := [_]) [(b30, _)] hs hok rfl rfl rfl rfl rfl rfl (.inl (by decide)) (by decide) (by omega) (fun s' w hok' hga' hs => ?_))
      refine l_q (by exact y_as_slice rfl) ?_
      refine l_end ?_
      refine e_blk ?_
      refine e_then ?_
      refine s_reg ?_
      refine l_q (by exact y_mv_int rfl) ?_
      refine l_q (by first | exact y_addn rfl rfl (by omega) | exact y_add rfl rfl rfl) ?_
      refine l_q (by exact y_as_int rfl) ?_
      refine l_end ?_
      refine e_then ?_
      refine ⟨(i + 1, ws ++ [1 + z.getD i 0 % 20], s'), _, nx ⟨rfl, by simp only [List.length_append, List.length_cons, List.length_nil]; rfl, rfl, trivial⟩, ⟨?_, by dsimp only; omega, by simpa using hok', fun h => absurd h (by dsimp only; omega), fun _ => by dsimp only; simp [hl], ?_⟩, by dsimp only; omega⟩
      · simpa using hs.tail
      · intro w hw
        dsimp only at hw
        rw [List.mem_append] at hw
        rcases hw with hw | hw
        · exact hb w hw
        · simp at hw; omega
  · by_cases c1 : i < len0
    · have c2 : ¬ i < 8 := fun h => c ⟨c1, h⟩
      refine s_seq ?_
      refine s_seq ?_
      refine s_reg ?_
      refine l_q (by exact y_mv_int rfl) ?_
      refine l_q (by exact y_mv_slice rfl) ?_
      refine l_q (by exact y_len_slice rfl) ?_
      refine l_q (by first | exact y_lss rfl rfl (decide_eq_true (by omega)) | exact y_lss rfl rfl (decide_eq_false (by omega)) | exact y_lss rfl rfl rfl) ?_
      refine l_q (by exact y_mv_bool rfl) ?_
      first | refine l_gskip rfl rfl ?_ | refine l_gskip_u rfl rfl ?_ | refine l_gdo rfl rfl (by exact y_mv_int rfl) ?_
      first | refine l_gskip rfl rfl ?_ | refine l_gskip_u rfl rfl ?_ | refine l_gdo rfl rfl (by first | exact y_lss rfl rfl (decide_eq_true (by omega)) | exact y_lss rfl rfl (decide_eq_false (by omega)) | exact y_lss rfl rfl rfl) ?_
      refine l_q (by first | exact y_pk_bt rfl rfl | exact y_pk_bf rfl rfl) ?_
      refine l_end ?_
      refine e_then ?_
      refine cond_f rfl ?_
      refine s_exit ?_
      refine e_then_x ?_
      refine e_then_x ?_
      refine e_blk_x ?_
      refine e_then ?_
      refine s_seq ?_
      refine s_reg ?_
      refine l_q (by exact y_mv_slice rfl) ?_
      refine l_q (by exact y_as_slice rfl) ?_
      refine l_end ?_
      refine e_then ?_
      refine s_ret ?_
      exact ret_ [.slice _ _ _] rfl ⟨rfl, trivial⟩ ⟨s, ws, rfl, hok, hlen.1, hlen.2, hb, hs⟩
    · refine s_seq ?_
      refine s_seq ?_
      refine s_reg ?_
      refine l_q (by exact y_mv_int rfl) ?_
      refine l_q (by exact y_mv_slice rfl) ?_
      refine l_q (by exact y_len_slice rfl) ?_
      refine l_q (by first | exact y_lss rfl rfl (decide_eq_true (by omega)) | exact y_lss rfl rfl (decide_eq_false (by omega)) | exact y_lss rfl rfl rfl) ?_
      refine l_q (by exact y_mv_bool rfl) ?_
      first | refine l_gskip rfl rfl ?_ | refine l_gskip_u rfl rfl ?_ | refine l_gdo rfl rfl (by exact y_mv_int rfl) ?_
      first | refine l_gskip rfl rfl ?_ | refine l_gskip_u rfl rfl ?_ | refine l_gdo rfl rfl (by first | exact y_lss rfl rfl (decide_eq_true (by omega)) | exact y_lss rfl rfl (decide_eq_false (by omega)) | exact y_lss rfl rfl rfl) ?_
      refine l_q (by first | exact y_pk_bt rfl rfl | exact y_pk_bf rfl rfl) ?_
      refine l_end ?_
      refine e_then ?_
      refine cond_f rfl ?_
      refine s_exit ?_
      refine e_then_x ?_
      refine e_then_x ?_
      refine e_blk_x ?_
      refine e_then ?_
      refine s_seq ?_
      refine s_reg ?_
      refine l_q (by exact y_mv_slice rfl) ?_
      refine l_q (by exact y_as_slice rfl) ?_
      refine l_end ?_
      refine e_then ?_
      refine s_ret ?_
      exact ret_ [.slice _ _ _] rfl ⟨rfl, trivial⟩ ⟨s, ws, rfl, hok, hlen.1, hlen.2, hb, hs⟩
end Go.Proofs.Ytohomijijipfdaa
