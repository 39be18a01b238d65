/- Facts on the functions and types of this seat that its laws are proved from: contracts under the premises that each theorem names. -/
import Derived.Test.YtohomijijipfdaaFto
set_option linter.unusedSimpArgs false
set_option linter.unusedVariables false
set_option linter.unnecessarySimpa false
namespace Go.Proofs.Ytohomijijipfdaa
open Go Go.RowKit PB
set_option linter.unusedVariables false

theorem mul_bd {a b A B : Int} (a0 : 0 ≤ a) (a1 : a ≤ A) (b0 : 0 ≤ b) (b1 : b ≤ B) : 0 ≤ a * b ∧ a * b ≤ A * B :=
  ⟨Int.mul_nonneg a0 b0, Int.mul_le_mul a1 b1 b0 (by omega)⟩

theorem share_ineq {V ci ck wi wk Q di dk xi xk : Int} (hi : xi = (V + ci) * (wi * Q) - di) (hk : xk = (V + ck) * (wk * Q) - dk) (c1 : ci ≤ 1) (c2 : 0 ≤ ck) (d1 : 0 ≤ di) (d2 : dk ≤ 100 + wk * Q) (w1 : 0 ≤ wi) (w2 : 0 ≤ wk) (q0 : 0 ≤ Q) :
    xi * wk - xk * wi ≤ 2 * Q * wi * wk + 100 * (wi + wk) := by
  have e : xi * wk - xk * wi = (ci - ck) * (wi * wk * Q) - di * wk + dk * wi := by rw [hi, hk]; grind
  have p0 : 0 ≤ wi * wk * Q := Int.mul_nonneg (Int.mul_nonneg w1 w2) q0
  have h1 : (ci - ck) * (wi * wk * Q) ≤ 1 * (wi * wk * Q) := Int.mul_le_mul_of_nonneg_right (by omega) p0
  have h2 : 0 ≤ di * wk := Int.mul_nonneg d1 w2
  have h3 : dk * wi ≤ (100 + wk * Q) * wi := Int.mul_le_mul_of_nonneg_right d2 w1
  have e3 : (100 + wk * Q) * wi = 100 * wi + wi * wk * Q := by grind
  have e4 : 2 * Q * wi * wk = 2 * (wi * wk * Q) := by grind
  omega

theorem own_get {s : OS} {ws : List Int} {i : Nat} {w : Int} (h : ws[i]? = some w) : (ws.map I64 ++ s.sp)[i]? = some (I64 w) := by
  obtain ⟨hl, he⟩ := List.getElem?_eq_some_iff.1 h
  rw [List.getElem?_append_left (by simpa using hl), List.getElem?_map, h]; rfl
theorem map_get {ws : List Int} {i : Nat} {w : Int} (h : ws[i]? = some w) : (ws.map I64)[i]? = some (I64 w) := by rw [List.getElem?_map, h]; rfl


theorem shares_walk (W : World) (a0 : Option Addr) (len0 cap0 : Nat) (z0 : List Int) (h0 : Ints W a0 len0 z0) (l0 : len0 ≤ 9223372036854775807) (c0 : len0 ≤ cap0) (a1 : Int) (a2 : Option Addr) (len2 cap2 : Nat) (z2 : List Int) (h2 : Ints W a2 len2 z2) (l2 : len2 ≤ 9223372036854775807) (c2 : len2 ≤ cap2) :
    FnC Try.prog 6 [.slice a0 len0 cap0, I64 a1, .slice a2 len2 cap2] W (fun v w' => v = .bool true ∧ St W w' []) := by
  have hs := St.start W
  obtain ⟨Q, hQ⟩ : ∃ Q, Q = 1 + a1 % 150 := ⟨_, rfl⟩
  refine FnC.enter Try.func6 rfl Try.ntmps6 rfl fun ρ => ?_
  by_cases c : len2 = 0
  · refine s_seq ?_
    refine s_reg ?_
    refine l_q (by exact y_as_bool rfl) ?_
    refine l_end ?_
    refine e_then ?_
    refine s_seq ?_
    refine s_seq ?_
    refine s_reg ?_
    refine l_w (w_call rfl (fact_c hs) rfl (fun _ w h => ?_))
    obtain ⟨rfl, hs⟩ := h
    refine l_q (by first | exact y_not_t rfl | exact y_not_f rfl | exact y_notd rfl) ?_
    refine l_end ?_
    refine e_then ?_
    refine cond_f rfl ?_
    refine s_skip ?_
    refine e_then ?_
    refine s_seq ?_
    refine s_seq ?_
    refine s_reg ?_
    refine l_q (by exact y_mv_slice rfl) ?_
    refine l_q (by exact y_len_slice rfl) ?_
    refine l_q (by first | exact y_eql rfl rfl (decide_eq_true (by omega)) | exact y_eql rfl rfl (decide_eq_false (by omega)) | exact y_eql rfl rfl rfl) ?_
    refine l_end ?_
    refine e_then ?_
    refine cond_t rfl ?_
    refine s_seq ?_
    refine s_reg ?_
    refine l_q (by exact y_as_bool rfl) ?_
    refine l_end ?_
    refine e_then ?_
    refine s_ret ?_
    refine e_then_r ?_
    exact ret_ [.bool _] rfl ⟨rfl, trivial⟩ ⟨rfl, hs.nil⟩
  · refine s_seq ?_
    refine s_reg ?_
    refine l_q (by exact y_as_bool rfl) ?_
    refine l_end ?_
    refine e_then ?_
    refine s_seq ?_
    refine s_seq ?_
    refine s_reg ?_
    refine l_w (w_call rfl (fact_c hs) rfl (fun _ w h => ?_))
    obtain ⟨rfl, hs⟩ := h
    refine l_q (by first | exact y_not_t rfl | exact y_not_f rfl | exact y_notd rfl) ?_
    refine l_end ?_
    refine e_then ?_
    refine cond_f rfl ?_
    refine s_skip ?_
    refine e_then ?_
    refine s_seq ?_
    refine s_seq ?_
    refine s_reg ?_
    refine l_q (by exact y_mv_slice rfl) ?_
    refine l_q (by exact y_len_slice rfl) ?_
    refine l_q (by first | exact y_eql rfl rfl (decide_eq_true (by omega)) | exact y_eql rfl rfl (decide_eq_false (by omega)) | exact y_eql rfl rfl rfl) ?_
    refine l_end ?_
    refine e_then ?_
    refine cond_f rfl ?_
    refine s_skip ?_
    refine e_then ?_
    refine s_seq ?_
    refine s_reg ?_
    refine l_q (by exact y_mv_slice rfl) ?_
    refine l_w (w_call rfl (weights_c (L := []) h0 l0 hs) rfl (fun _ w h => ?_))
    obtain ⟨s, ws, rfl, hsok, n1, n2, hw, hs⟩ := h
    refine l_q (by exact y_as_slice rfl) ?_
    refine l_end ?_
    refine e_then ?_
    refine s_seq ?_
    refine s_reg ?_
    refine l_q (by exact y_mv_int rfl) ?_
    refine l_w (w_call rfl (rest_c _ _ _ (by omega) (by omega)) rfl (fun _ w h => ?_))
    obtain ⟨rfl, rfl⟩ := h
    refine l_q (by exact y_toI (b := Q) (y_addn rfl rfl (by omega)) (by omega)) ?_
    refine l_q (by exact y_as_int rfl) ?_
    refine l_end ?_
    refine e_then ?_
    refine s_seq ?_
    refine s_reg ?_
    refine l_q (by exact y_mv_slice rfl) ?_
    refine l_q (by exact y_mv_int rfl) ?_
    refine l_q (by exact y_mv_slice rfl) ?_
    refine l_w (w_call rfl (served_c hsok n1 n2 (w100 hw) (by omega) (by omega) h2 l2 (by omega) hs) rfl (fun _ w h => ?_))
    obtain ⟨b, sv, rfl, hsh, hs⟩ := h
    refine l_q (by exact y_mv_tuple rfl) ?_
    refine l_q (by exact y_extract rfl rfl) ?_
    refine l_q (by exact y_extract rfl rfl) ?_
    refine l_q (by exact y_as_slice rfl) ?_
    refine l_q (by exact y_as_bool rfl) ?_
    refine l_end ?_
    refine e_then ?_
    refine s_seq ?_
    refine s_seq ?_
    refine s_reg ?_
    refine l_q (by exact y_mv_bool rfl) ?_
    refine l_q (by first | exact y_not_t rfl | exact y_not_f rfl | exact y_notd rfl) ?_
    refine l_end ?_
    refine e_then ?_
    refine cond_f rfl ?_
    refine s_skip ?_
    refine e_then ?_
    refine s_seq ?_
    refine s_seq ?_
    refine s_reg ?_
    refine l_q (by exact y_mv_slice rfl) ?_
    refine l_q (by exact y_len_slice rfl) ?_
    refine l_q (by exact y_mv_int rfl) ?_
    refine l_end ?_
    refine e_then ?_
    refine s_block ?_
    obtain ⟨hsl, V, hsa⟩ := hsh
    obtain ⟨g, hga⟩ : ∃ g, s.a = some g := by
      cases h : s.a with
      | none => have := hsok.nil_ h; omega
      | some g => exact ⟨g, rfl⟩
    have had : s.ad = some ⟨g, 0, none⟩ := by simp [OS.ad, hga]
    haveI := inl_blk hga (ws.map I64) 3
    refine loop_st (X := Nat) (fun i => [(1, I64 Q), (7, .slice s.ad ws.length s.cap), (8, .slice (some ⟨b, 0, none⟩) ws.length ws.length), (32, I64 ws.length), (33, I64 i)])
      (fun i w => St W w ((b, .cells (sv.map I64) 3) :: (s.blk (ws.map I64) 3 ++ [])) ∧ i ≤ ws.length) (fun i => ws.length - i) 0 ⟨rfl, rfl, rfl, rfl, rfl, trivial⟩ ⟨hs, by omega⟩ ?_
    clear hs
    rintro i ρ w ⟨hs, i1⟩
    by_cases ci : i < ws.length
    · refine s_seq ?_
      refine s_reg ?_
      refine l_q (by first | exact y_lss rfl rfl (decide_eq_true (by omega)) | exact y_lss rfl rfl (decide_eq_false (by omega)) | exact y_lss rfl rfl rfl) ?_
      refine l_end ?_
      refine e_then ?_
      refine s_seq ?_
      refine cond_t rfl ?_
      refine s_skip ?_
      refine e_then ?_
      refine s_seq ?_
      refine s_block ?_
      refine s_seq ?_
      refine s_reg ?_
      refine l_q (by exact y_mv_int rfl) ?_
      refine l_q (by exact y_as_int rfl) ?_
      refine l_end ?_
      refine e_then ?_
      refine s_seq ?_
      refine s_reg ?_
      refine l_q (by exact y_mv_slice rfl) ?_
      refine l_q (by exact y_len_slice rfl) ?_
      refine l_q (by exact y_mv_int rfl) ?_
      refine l_end ?_
      refine e_then ?_
      refine s_block ?_
      refine loop_st (X := Nat) (fun k => [(1, I64 Q), (7, .slice s.ad ws.length s.cap), (8, .slice (some ⟨b, 0, none⟩) ws.length ws.length), (10, I64 i), (32, I64 ws.length), (33, I64 i), (37, I64 ws.length), (38, I64 k)])
        (fun k w => St W w ((b, .cells (sv.map I64) 3) :: (s.blk (ws.map I64) 3 ++ [])) ∧ k ≤ ws.length) (fun k => ws.length - k) 0 ⟨rfl, rfl, rfl, rfl, rfl, rfl, rfl, rfl, trivial⟩ ⟨hs, by omega⟩ ?_
      clear hs
      rintro k ρ w ⟨hs, k1⟩
      by_cases ck : k < ws.length
      · have hwi : ws[i]? = some ws[i] := List.getElem?_eq_getElem ci
        have hwk : ws[k]? = some ws[k] := List.getElem?_eq_getElem ck
        have hwi2 := hw _ (List.getElem_mem ci)
        have hwk2 := hw _ (List.getElem_mem ck)
        have hxi : sv[i]? = some sv[i] := List.getElem?_eq_getElem (by omega)
        have hxk : sv[k]? = some sv[k] := List.getElem?_eq_getElem (by omega)
        obtain ⟨c1, d1, e1, e2, e3, e4, e5, e6, e7⟩ := hsa i _ _ hwi hxi
        obtain ⟨c2, d2, f1, f2, f3, f4, f5, f6, f7⟩ := hsa k _ _ hwk hxk
        have hineq := share_ineq e3 f3 e2 f1 e4 f5 (by omega) (by omega) (by omega)
        generalize ws[i] = wi at *
        generalize ws[k] = wk at *
        generalize sv[i] = xi at *
        generalize sv[k] = xk at *
        have b1 := mul_bd e6 e7 (show 0 ≤ wk by omega) hwk2.2
        have b2 := mul_bd f6 f7 (show 0 ≤ wi by omega) hwi2.2
        have b3 := mul_bd (show 0 ≤ 2 * Q by omega) (show 2 * Q ≤ 300 by omega) (show 0 ≤ wi by omega) hwi2.2
        have b4 := mul_bd b3.1 b3.2 (show 0 ≤ wk by omega) hwk2.2
        clear e3 e5 f3 f5 hsa
        refine s_seq ?_
        refine s_reg ?_
        refine l_q (by first | exact y_lss rfl rfl (decide_eq_true (by omega)) | exact y_lss rfl rfl (decide_eq_false (by omega)) | exact y_lss rfl rfl rfl) ?_
        refine l_end ?_
        refine e_then ?_
        refine s_seq ?_
        refine cond_t rfl ?_
        refine s_skip ?_
        refine e_then ?_
        refine s_seq ?_
        refine s_block ?_
        refine s_seq ?_
        refine s_reg ?_
        refine l_q (by exact y_mv_int rfl) ?_
        refine l_q (by exact y_as_int rfl) ?_
        refine l_end ?_
        refine e_then ?_
        refine s_seq ?_
        refine r_dr (.q 0 (.q 1 (.q 2 (.q 3 (.q 4 (.q 5 (.q 6 (.q 7 (.q 8 (.q 9 (.q 10 (.q 11 (.q 12 (.q 13 (.q 14 (.q 15 (.q 16 (.q 17 (.q 18 (.q 19 (.q 20 (.q 21 (.q 22 (.q 23 (.q 24 (.q 25 (.q 26 (.q 27 (.q 28 (.q 29 (.q 30 (.q 31 (.q 32 (.q 33 (.q 34 (.q 35 (.q 36 (.q 37 (.q 38 (.q 39 (.q 40 (.q 41 (.q 42 (.nil)))))))))))))))))))))))))))))))))))))))))))) 42 hs mixed (by kernel_rfl) (fun hs => ?_)
        refine c_q rfl (by first | exact hs | exact hs.subl | exact hs.cellAt rfl | trivial) (fun _ _ _ h => h) (fun w hs => by exact y_mv_slice rfl) ?_
        refine c_q rfl (by first | exact hs | exact hs.subl | exact hs.cellAt rfl | trivial) (fun _ _ _ h => h) (fun w hs => by exact y_mv_int rfl) ?_
        refine c_q rfl (by first | exact hs | exact hs.subl | exact hs.cellAt rfl | trivial) (fun _ _ _ h => h) (fun w hs => by exact y_indexT (off := i) rfl rfl (by omega) (by omega) rfl (by omega)) ?_
        refine c_q rfl (by first | exact hs | exact hs.subl | exact hs.cellAt rfl | trivial) (fun _ _ _ h => h) (fun w hs => by exact y_ld (v := .int .i64 xi) hs rfl (map_get hxi)) ?_
        refine c_q rfl (by first | exact hs | exact hs.subl | exact hs.cellAt rfl | trivial) (fun _ _ _ h => h) (fun w hs => by exact y_mv_slice rfl) ?_
        refine c_q rfl (by first | exact hs | exact hs.subl | exact hs.cellAt rfl | trivial) (fun _ _ _ h => h) (fun w hs => by exact y_mv_int rfl) ?_
        refine c_q rfl (by first | exact hs | exact hs.subl | exact hs.cellAt rfl | trivial) (fun _ _ _ h => h) (fun w hs => by exact y_indexT (off := k) rfl rfl (by omega) (by omega) had (by omega)) ?_
        refine c_q rfl (by first | exact hs | exact hs.subl | exact hs.cellAt rfl | trivial) (fun _ _ _ h => h) (fun w hs => by exact y_ld (v := .int .i64 wk) hs rfl (own_get hwk)) ?_
        refine c_q rfl (by first | exact hs | exact hs.subl | exact hs.cellAt rfl | trivial) (fun _ _ _ h => h) (fun w hs => by first | exact y_muln rfl rfl (by omega) | exact y_mul rfl rfl rfl) ?_
        refine c_q rfl (by first | exact hs | exact hs.subl | exact hs.cellAt rfl | trivial) (fun _ _ _ h => h) (fun w hs => by exact y_mv_slice rfl) ?_
        refine c_q rfl (by first | exact hs | exact hs.subl | exact hs.cellAt rfl | trivial) (fun _ _ _ h => h) (fun w hs => by exact y_mv_int rfl) ?_
        refine c_q rfl (by first | exact hs | exact hs.subl | exact hs.cellAt rfl | trivial) (fun _ _ _ h => h) (fun w hs => by exact y_indexT (off := k) rfl rfl (by omega) (by omega) rfl (by omega)) ?_
        refine c_q rfl (by first | exact hs | exact hs.subl | exact hs.cellAt rfl | trivial) (fun _ _ _ h => h) (fun w hs => by exact y_ld (v := .int .i64 xk) hs rfl (map_get hxk)) ?_
        refine c_q rfl (by first | exact hs | exact hs.subl | exact hs.cellAt rfl | trivial) (fun _ _ _ h => h) (fun w hs => by exact y_mv_slice rfl) ?_
        refine c_q rfl (by first | exact hs | exact hs.subl | exact hs.cellAt rfl | trivial) (fun _ _ _ h => h) (fun w hs => by exact y_mv_int rfl) ?_
        refine c_q rfl (by first | exact hs | exact hs.subl | exact hs.cellAt rfl | trivial) (fun _ _ _ h => h) (fun w hs => by exact y_indexT (off := i) rfl rfl (by omega) (by omega) had (by omega)) ?_
        refine c_q rfl (by first | exact hs | exact hs.subl | exact hs.cellAt rfl | trivial) (fun _ _ _ h => h) (fun w hs => by exact y_ld (v := .int .i64 wi) hs rfl (own_get hwi)) ?_
        refine c_q rfl (by first | exact hs | exact hs.subl | exact hs.cellAt rfl | trivial) (fun _ _ _ h => h) (fun w hs => by first | exact y_muln rfl rfl (by omega) | exact y_mul rfl rfl rfl) ?_
        refine c_q rfl (by first | exact hs | exact hs.subl | exact hs.cellAt rfl | trivial) (fun _ _ _ h => h) (fun w hs => by first | exact y_subn rfl rfl (by omega) | exact y_sub rfl rfl rfl) ?_
        refine c_q rfl (by first | exact hs | exact hs.subl | exact hs.cellAt rfl | trivial) (fun _ _ _ h => h) (fun w hs => by exact y_mv_int rfl) ?_
        refine c_q rfl (by first | exact hs | exact hs.subl | exact hs.cellAt rfl | trivial) (fun _ _ _ h => h) (fun w hs => by first | exact y_muln rfl rfl (by omega) | exact y_mul rfl rfl rfl) ?_
        refine c_q rfl (by first | exact hs | exact hs.subl | exact hs.cellAt rfl | trivial) (fun _ _ _ h => h) (fun w hs => by exact y_mv_slice rfl) ?_
        refine c_q rfl (by first | exact hs | exact hs.subl | exact hs.cellAt rfl | trivial) (fun _ _ _ h => h) (fun w hs => by exact y_mv_int rfl) ?_
        refine c_q rfl (by first | exact hs | exact hs.subl | exact hs.cellAt rfl | trivial) (fun _ _ _ h => h) (fun w hs => by exact y_indexT (off := i) rfl rfl (by omega) (by omega) had (by omega)) ?_
        refine c_q rfl (by first | exact hs | exact hs.subl | exact hs.cellAt rfl | trivial) (fun _ _ _ h => h) (fun w hs => by exact y_ld (v := .int .i64 wi) hs rfl (own_get hwi)) ?_
        refine c_q rfl (by first | exact hs | exact hs.subl | exact hs.cellAt rfl | trivial) (fun _ _ _ h => h) (fun w hs => by first | exact y_muln rfl rfl (by omega) | exact y_mul rfl rfl rfl) ?_
        refine c_q rfl (by first | exact hs | exact hs.subl | exact hs.cellAt rfl | trivial) (fun _ _ _ h => h) (fun w hs => by exact y_mv_slice rfl) ?_
        refine c_q rfl (by first | exact hs | exact hs.subl | exact hs.cellAt rfl | trivial) (fun _ _ _ h => h) (fun w hs => by exact y_mv_int rfl) ?_
        refine c_q rfl (by first | exact hs | exact hs.subl | exact hs.cellAt rfl | trivial) (fun _ _ _ h => h) (fun w hs => by exact y_indexT (off := k) rfl rfl (by omega) (by omega) had (by omega)) ?_
        refine c_q rfl (by first | exact hs | exact hs.subl | exact hs.cellAt rfl | trivial) (fun _ _ _ h => h) (fun w hs => by exact y_ld (v := .int .i64 wk) hs rfl (own_get hwk)) ?_
        refine c_q rfl (by first | exact hs | exact hs.subl | exact hs.cellAt rfl | trivial) (fun _ _ _ h => h) (fun w hs => by first | exact y_muln rfl rfl (by omega) | exact y_mul rfl rfl rfl) ?_
        refine c_q rfl (by first | exact hs | exact hs.subl | exact hs.cellAt rfl | trivial) (fun _ _ _ h => h) (fun w hs => by exact y_mv_slice rfl) ?_
        refine c_q rfl (by first | exact hs | exact hs.subl | exact hs.cellAt rfl | trivial) (fun _ _ _ h => h) (fun w hs => by exact y_mv_int rfl) ?_
        refine c_q rfl (by first | exact hs | exact hs.subl | exact hs.cellAt rfl | trivial) (fun _ _ _ h => h) (fun w hs => by exact y_indexT (off := i) rfl rfl (by omega) (by omega) had (by omega)) ?_
        refine c_q rfl (by first | exact hs | exact hs.subl | exact hs.cellAt rfl | trivial) (fun _ _ _ h => h) (fun w hs => by exact y_ld (v := .int .i64 wi) hs rfl (own_get hwi)) ?_
        refine c_q rfl (by first | exact hs | exact hs.subl | exact hs.cellAt rfl | trivial) (fun _ _ _ h => h) (fun w hs => by exact y_mv_slice rfl) ?_
        refine c_q rfl (by first | exact hs | exact hs.subl | exact hs.cellAt rfl | trivial) (fun _ _ _ h => h) (fun w hs => by exact y_mv_int rfl) ?_
        refine c_q rfl (by first | exact hs | exact hs.subl | exact hs.cellAt rfl | trivial) (fun _ _ _ h => h) (fun w hs => by exact y_indexT (off := k) rfl rfl (by omega) (by omega) had (by omega)) ?_
        refine c_q rfl (by first | exact hs | exact hs.subl | exact hs.cellAt rfl | trivial) (fun _ _ _ h => h) (fun w hs => by exact y_ld (v := .int .i64 wk) hs rfl (own_get hwk)) ?_
        refine c_q rfl (by first | exact hs | exact hs.subl | exact hs.cellAt rfl | trivial) (fun _ _ _ h => h) (fun w hs => by first | exact y_addn rfl rfl (by omega) | exact y_add rfl rfl rfl) ?_
        refine c_q rfl (by first | exact hs | exact hs.subl | exact hs.cellAt rfl | trivial) (fun _ _ _ h => h) (fun w hs => by first | exact y_muln rfl rfl (by omega) | exact y_mul rfl rfl rfl) ?_
        refine c_q rfl (by first | exact hs | exact hs.subl | exact hs.cellAt rfl | trivial) (fun _ _ _ h => h) (fun w hs => by first | exact y_addn rfl rfl (by omega) | exact y_add rfl rfl rfl) ?_
        refine c_q rfl (by first | exact hs | exact hs.subl | exact hs.cellAt rfl | trivial) (fun _ _ _ h => h) (fun w hs => by first | exact y_gtr rfl rfl (decide_eq_true (by omega)) | exact y_gtr rfl rfl (decide_eq_false (by omega)) | exact y_gtr rfl rfl rfl) ?_
        refine c_end ?_
        refine e_then ?_
        refine cond_f rfl ?_
        refine s_skip ?_
        refine e_blk ?_
        refine e_then ?_
        refine s_reg ?_
        refine l_q (by first | exact y_addn rfl rfl (by omega) | exact y_add rfl rfl rfl) ?_
        refine l_q (by exact y_mv_int rfl) ?_
        refine l_end ?_
        refine e_then ?_
        exact ⟨k + 1, _, nx ⟨rfl, rfl, rfl, rfl, rfl, rfl, rfl, rfl, trivial⟩, ⟨hs, by omega⟩, by omega⟩
      · refine s_seq ?_
        refine s_reg ?_
        refine l_q (by first | exact y_lss rfl rfl (decide_eq_true (by omega)) | exact y_lss rfl rfl (decide_eq_false (by omega)) | exact y_lss rfl rfl rfl) ?_
        refine l_end ?_
        refine e_then ?_
        refine s_seq ?_
        refine cond_f rfl ?_
        refine s_exit ?_
        refine e_then_x ?_
        refine e_then_x ?_
        refine e_blk_x ?_
        refine e_blk ?_
        refine e_then ?_
        refine s_reg ?_
        refine l_q (by first | exact y_addn rfl rfl (by omega) | exact y_add rfl rfl rfl) ?_
        refine l_q (by exact y_mv_int rfl) ?_
        refine l_end ?_
        refine e_then ?_
        exact ⟨i + 1, _, nx ⟨rfl, rfl, rfl, rfl, rfl, trivial⟩, ⟨hs, by omega⟩, by omega⟩
    · refine s_seq ?_
      refine s_reg ?_
      refine l_q (by first | exact y_lss rfl rfl (decide_eq_true (by omega)) | exact y_lss rfl rfl (decide_eq_false (by omega)) | exact y_lss rfl rfl rfl) ?_
      refine l_end ?_
      refine e_then ?_
      refine s_seq ?_
      refine cond_f rfl ?_
      refine s_exit ?_
      refine e_then_x ?_
      refine e_then_x ?_
      refine e_blk_x ?_
      refine e_then ?_
      refine s_seq ?_
      refine s_reg ?_
      refine l_q (by exact y_as_bool rfl) ?_
      refine l_end ?_
      refine e_then ?_
      refine s_ret ?_
      exact ret_ [.bool _] rfl ⟨rfl, trivial⟩ ⟨rfl, hs.nil⟩
end Go.Proofs.Ytohomijijipfdaa
