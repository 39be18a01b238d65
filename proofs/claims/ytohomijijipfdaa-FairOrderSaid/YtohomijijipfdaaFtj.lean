/- Facts on the functions and types of this seat that its laws are proved from: contracts under the premises that each theorem names. -/
import Derived.Test.YtohomijijipfdaaFti
set_option linter.unusedSimpArgs false
set_option linter.unusedVariables false
set_option linter.unnecessarySimpa false
namespace Go.Proofs.Ytohomijijipfdaa
open Go Go.RowKit PB
set_option linter.unusedVariables false

theorem nat_mod (a : Int) {n : Nat} (h : 1 ≤ n) : ∃ k : Nat, a % (n : Int) = k ∧ k < n := by
  have h1 := Int.emod_nonneg a (show (n : Int) ≠ 0 by omega)
  have h2 := Int.emod_lt_of_pos a (show (0 : Int) < n by omega)
  exact ⟨(a % n).toNat, by omega, by omega⟩
theorem rest_k {a b : Int} {k : Nat} (h : a % b = k) (w : World) (hb : 0 < b) (hb2 : b ≤ 1000000000) : FnC Try.prog 9 [.int .i64 a, .int .i64 b] w (fun v w' => v = I64 k ∧ w' = w) := by
  rw [← h]
  exact rest_c a b w hb hb2
theorem w100 {ws : List Int} (h : ∀ w ∈ ws, 1 ≤ w ∧ w ≤ 20) : ∀ w ∈ ws, 1 ≤ w ∧ w ≤ 100 := fun w hw => by have := h w hw; omega

def strs (z : List Int) (i : Nat) : List ByteArray := (List.range i).map fun j => zstr (z.getD j 0 % 200).toNat
theorem strs_succ (z : List Int) (i : Nat) : strs z (i + 1) = strs z i ++ [zstr (z.getD i 0 % 200).toNat] := by simp [strs, List.range_succ]
theorem strs_len (z : List Int) (i : Nat) : (strs z i).length = i := by simp [strs]
theorem strs_drop (z : List Int) {i m : Nat} (h : i < m) : (strs z m).drop i = zstr (z.getD i 0 % 200).toNat :: (strs z m).drop (i + 1) := by
  have hl := strs_len z m
  rw [List.drop_eq_getElem_cons (by omega)]
  simp [strs]


theorem alone_walk (W : World) (a0 : Option Addr) (len0 cap0 : Nat) (z0 : List Int) (h0 : Ints W a0 len0 z0) (l0 : len0 ≤ 9223372036854775807) (c0 : len0 ≤ cap0) (a1 a2 : Int) (a3 : Option Addr) (len3 cap3 : Nat) (z3 : List Int) (h3 : Ints W a3 len3 z3) (l3 : len3 ≤ 9223372036854775807) (c3 : len3 ≤ cap3) :
    FnC Try.prog 4 [.slice a0 len0 cap0, I64 a1, I64 a2, .slice a3 len3 cap3] W (fun v w' => v = .bool true ∧ St W w' []) := by
  have hs := St.start W
  obtain ⟨mm, hmm, hmm1, hmm2⟩ : ∃ mm : Nat, (if (40 : Int) < len3 then (40 : Int) else (len3 : Int)) = mm ∧ mm ≤ 40 ∧ mm ≤ len3 := by
    split
    · exact ⟨40, rfl, by omega, by omega⟩
    · exact ⟨len3, rfl, by omega, by omega⟩
  refine FnC.enter Try.func4 rfl Try.ntmps4 rfl fun ρ => ?_
  refine s_seq ?_
  refine s_reg ?_
  refine l_q (by exact y_as_bool rfl) ?_
  refine l_end ?_
  refine e_then ?_
  refine s_seq ?_
  refine s_reg ?_
  refine l_q (by exact y_mv_slice rfl) ?_
  refine l_w (w_call rfl (weights_c (L := []) h0 l0 hs) rfl (fun _ w h => ?_))
  obtain ⟨s, ws, rfl, hsok, n1, n2, hw, hs⟩ := h; obtain ⟨kk, hkk, hk2⟩ := nat_mod a2 n1
  refine l_q (by exact y_as_slice rfl) ?_
  refine l_end ?_
  refine e_then ?_
  refine s_seq ?_
  refine s_reg ?_
  refine l_q (by exact y_mv_slice rfl) ?_
  refine l_q (by exact y_mv_int rfl) ?_
  refine l_w (w_call rfl (rest_c _ _ _ (by omega) (by omega)) rfl (fun _ w h => ?_))
  obtain ⟨rfl, rfl⟩ := h
  refine l_q (by first | exact y_addn rfl rfl (by omega) | exact y_add rfl rfl rfl) ?_
  refine l_w (w_call rfl (new_a hsok n1 n2 (w100 hw) (by omega) (by omega) hs) rfl (fun _ w h => ?_))
  obtain ⟨x, rfl, hok, habs, hs⟩ := h
  refine l_q (by exact y_mv_tuple rfl) ?_
  refine l_q (by exact y_extract rfl rfl) ?_
  refine l_q (by exact y_extract rfl rfl) ?_
  refine l_q (by exact y_as_ptr rfl) ?_
  refine l_q (by exact y_as_int rfl) ?_
  refine l_end ?_
  refine e_then ?_
  refine s_seq ?_
  refine s_seq ?_
  refine s_reg ?_
  refine l_w (w_call rfl (fact_c hs) rfl (fun _ w h => ?_))
  obtain ⟨rfl, hs⟩ := h
  refine l_q (by first | exact y_not_t rfl | exact y_not_f rfl | exact y_notd rfl) ?_
  refine l_q (by exact y_mv_bool rfl) ?_
  first | refine l_gskip rfl rfl ?_ | refine l_gskip_u rfl rfl ?_ | refine l_gdo rfl rfl (by exact y_mv_int rfl) ?_
  first | refine l_gskip rfl rfl ?_ | refine l_gskip_u rfl rfl ?_ | refine l_gdo rfl rfl (by first | exact y_neq rfl rfl (decide_eq_true (by omega)) | exact y_neq rfl rfl (decide_eq_false (by omega)) | exact y_neq rfl rfl rfl) ?_
  refine l_q (by first | exact y_pk_bt rfl rfl | exact y_pk_bf rfl rfl) ?_
  refine l_q (by exact y_mv_bool rfl) ?_
  first | refine l_gskip rfl rfl ?_ | refine l_gskip_u rfl rfl ?_ | refine l_gdo rfl rfl (by exact y_mv_ptr rfl) ?_
  first | refine l_gskip rfl rfl ?_ | refine l_gskip_u rfl rfl ?_ | refine l_gdo rfl rfl (by first | exact y_ptr_nn rfl rfl | exact y_ptr_eql rfl rfl rfl) ?_
  refine l_q (by first | exact y_pk_bt rfl rfl | exact y_pk_bf rfl rfl) ?_
  refine l_end ?_
  refine e_then ?_
  refine cond_f rfl ?_
  refine s_skip ?_
  refine e_then ?_
  refine s_seq ?_
  refine s_reg ?_
  refine l_q (by exact y_mv_int rfl) ?_
  refine l_q (by exact y_mv_slice rfl) ?_
  refine l_q (by exact y_len_slice rfl) ?_
  refine l_w (w_call rfl (rest_k hkk _ (by omega) (by omega)) rfl (fun _ w h => ?_))
  obtain ⟨rfl, rfl⟩ := h
  refine l_q (by exact y_as_int rfl) ?_
  refine l_end ?_
  refine e_then ?_
  refine s_seq ?_
  refine s_reg ?_
  refine l_q (by exact y_mv_slice rfl) ?_
  refine l_q (by exact y_mv_slice rfl) ?_
  refine l_q (by exact y_len_slice rfl) ?_
  refine l_q (by exact y_min (v := .int .i64 mm) rfl rfl (by rw [hmm])) ?_
  refine l_q (by exact y_slice_hi rfl rfl (by omega) (by omega)) ?_
  refine l_q (by exact y_as_slice rfl) ?_
  refine l_end ?_
  refine e_then ?_
  refine s_seq ?_
  refine s_seq ?_
  refine s_reg ?_
  refine l_q (by exact y_mv_slice rfl) ?_
  refine l_q (by exact y_len_slice rfl) ?_
  refine l_q (by exact y_mv_int rfl) ?_
  refine l_end ?_
  refine e_then ?_
  refine s_block ?_
  have hwf0 := wf_new n1 n2 (w100 hw) (Q := 1 + a1 % 300) (by omega) (by omega)
  generalize s.blk (ws.map I64) 3 ++ [] = R at hs
  obtain ⟨b, hb⟩ : ∃ b, b = x.qb := ⟨_, rfl⟩
  rw [← hb]
  refine loop_st (X := Nat × QI) (fun y => [(3, .slice a3 mm cap3), (10, .pointer (some ⟨b, 0, none⟩)), (12, I64 kk), (52, .slice a3 mm cap3), (53, I64 mm), (54, I64 y.1)])
    (fun y w => St W w (y.2.L R) ∧ y.2.qb = b ∧ y.2.ok ∧ Alone y.2.abs ws.length kk (strs z3 y.1) ∧ y.1 ≤ mm) (fun y => mm - y.1) (0, x) ⟨rfl, rfl, rfl, rfl, rfl, rfl, trivial⟩ ⟨hs, hb.symm, hok, by rw [habs]; exact alone_new hk2 hwf0, by dsimp only; omega⟩ ?_
  clear hs hok habs hb
  rintro ⟨i, x⟩ ρ w ⟨hs, hqb, hok, hal, i1⟩
  dsimp only at *
  by_cases c : i < mm
  · obtain ⟨x3, hx3, hc3⟩ := h3.at_ i (by omega)
    obtain ⟨q, hq, hl⟩ := hal.get
    refine s_seq ?_
    refine s_reg ?_
    refine l_q (by first | exact y_lss rfl rfl (decide_eq_true (by omega)) | exact y_lss rfl rfl (decide_eq_false (by omega)) | exact y_lss rfl rfl rfl) ?_
    refine l_end ?_
    refine e_then ?_
    refine s_seq ?_
    refine cond_t rfl ?_
    refine s_skip ?_
    refine e_then ?_
    refine s_seq ?_
    refine s_block ?_
    refine s_seq ?_
    refine s_reg ?_
    refine l_q (by exact y_indexA1 rfl rfl (by omega) (by omega) hx3) ?_
    refine l_q (by exact y_ldOld hs rfl hc3) ?_
    refine l_q (by exact y_as_int rfl) ?_
    refine l_end ?_
    refine e_then ?_
    refine s_seq ?_
    refine s_reg ?_
    refine l_q (by exact y_mv_ptr rfl) ?_
    refine l_q (by exact y_mv_int rfl) ?_
    refine l_q (by exact y_mv_int rfl) ?_
    refine l_w (w_call rfl (rest_c _ _ _ (by omega) (by omega)) rfl (fun _ w h => ?_))
    obtain ⟨rfl, rfl⟩ := h
    refine l_w (w_makeSliceI hs rfl rfl (by omega) (by omega) (by omega) (fun b62 w hs hb62 => ?_))
    refine l_q (by exact y_b2z hs rfl rfl) ?_
    refine l_w (w_call rfl (put_b hqb hok hq (by rw [zstr_size]; omega) (by rw [hl, strs_len]; omega) hs.tail) rfl (fun _ w h => ?_))
    obtain ⟨rfl, x', hqb', hok', habs', hs⟩ := h
    refine l_q (by first | exact y_neq rfl rfl (decide_eq_true (by omega)) | exact y_neq rfl rfl (decide_eq_false (by omega)) | exact y_neq rfl rfl rfl) ?_
    refine l_end ?_
    refine e_then ?_
    refine cond_f rfl ?_
    refine s_skip ?_
    refine e_blk ?_
    refine e_then ?_
    refine s_reg ?_
    refine l_q (by first | exact y_addn rfl rfl (by omega) | exact y_add rfl rfl rfl) ?_
    refine l_q (by exact y_mv_int rfl) ?_
    refine l_end ?_
    refine e_then ?_
    exact ⟨(i + 1, x'), _, nx ⟨rfl, rfl, rfl, rfl, rfl, rfl, trivial⟩, ⟨hs, hqb', hok', by dsimp only; rw [habs', strs_succ]; exact alone_put hal hq hl (by rw [zstr_size]; omega) (by rw [strs_len]; omega), by dsimp only; omega⟩, by dsimp only; omega⟩
  · have hi : i = mm := by omega
    subst hi
    refine s_seq ?_
    refine s_reg ?_
    refine l_q (by first | exact y_lss rfl rfl (decide_eq_true (by omega)) | exact y_lss rfl rfl (decide_eq_false (by omega)) | exact y_lss rfl rfl rfl) ?_
    refine l_end ?_
    refine e_then ?_
    refine s_seq ?_
    refine cond_f rfl ?_
    refine s_exit ?_
    refine e_then_x ?_
    refine e_then_x ?_
    refine e_blk_x ?_
    refine e_then ?_
    refine s_seq ?_
    refine s_seq ?_
    refine s_reg ?_
    refine l_q (by exact y_mv_slice rfl) ?_
    refine l_q (by exact y_len_slice rfl) ?_
    refine l_q (by exact y_mv_int rfl) ?_
    refine l_end ?_
    refine e_then ?_
    refine s_block ?_
    refine loop_st (X := Nat × QI) (fun y => [(10, .pointer (some ⟨b, 0, none⟩)), (12, I64 kk), (67, .slice a3 i cap3), (68, I64 i), (69, I64 y.1)])
      (fun y w => St W w (y.2.L R) ∧ y.2.qb = b ∧ y.2.ok ∧ Alone y.2.abs ws.length kk ((strs z3 i).drop y.1) ∧ y.1 ≤ i) (fun y => i - y.1) (0, x) ⟨rfl, rfl, rfl, rfl, rfl, trivial⟩ ⟨hs, hqb, hok, hal, by dsimp only; omega⟩ ?_
    clear hs hok hqb hal
    rintro ⟨j, x⟩ ρ w ⟨hs, hqb, hok, hal, j1⟩
    dsimp only at *
    by_cases c : j < i
    · obtain ⟨x3, hx3, hc3⟩ := h3.at_ j (by omega)
      rw [strs_drop z3 c] at hal
      obtain ⟨m, a', hr, hal'⟩ := alone_take hal
      have hsz := zstr_size (z3.getD j 0 % 200).toNat
      refine s_seq ?_
      refine s_reg ?_
      refine l_q (by first | exact y_lss rfl rfl (decide_eq_true (by omega)) | exact y_lss rfl rfl (decide_eq_false (by omega)) | exact y_lss rfl rfl rfl) ?_
      refine l_end ?_
      refine e_then ?_
      refine s_seq ?_
      refine cond_t rfl ?_
      refine s_skip ?_
      refine e_then ?_
      refine s_seq ?_
      refine s_block ?_
      refine s_seq ?_
      refine s_reg ?_
      refine l_q (by exact y_indexA1 rfl rfl (by omega) (by omega) hx3) ?_
      refine l_q (by exact y_ldOld hs rfl hc3) ?_
      refine l_q (by exact y_as_int rfl) ?_
      refine l_end ?_
      refine e_then ?_
      refine s_seq ?_
      refine s_reg ?_
      refine l_q (by exact y_mv_ptr rfl) ?_
      refine l_w (w_call rfl (take_b hqb hok hal.wf hr hs) rfl (fun _ w h => ?_))
      obtain ⟨rfl, x', hqb', hok', habs', hs⟩ := h
      refine l_q (by exact y_mv_tuple rfl) ?_
      refine l_q (by exact y_extract rfl rfl) ?_
      refine l_q (by exact y_extract rfl rfl) ?_
      refine l_q (by exact y_extract rfl rfl) ?_
      refine l_q (by exact y_as_int rfl) ?_
      refine l_q (by exact y_as_str rfl) ?_
      refine l_q (by exact y_as_bool rfl) ?_
      refine l_end ?_
      refine e_then ?_
      refine s_seq ?_
      refine s_reg ?_
      refine l_q (by exact y_mv_bool rfl) ?_
      refine l_q (by first | exact y_not_t rfl | exact y_not_f rfl | exact y_notd rfl) ?_
      refine l_q (by exact y_mv_bool rfl) ?_
      first | refine l_gskip rfl rfl ?_ | refine l_gskip_u rfl rfl ?_ | refine l_gdo rfl rfl (by exact y_mv_int rfl) ?_
      first | refine l_gskip rfl rfl ?_ | refine l_gskip_u rfl rfl ?_ | refine l_gdo rfl rfl (by exact y_mv_int rfl) ?_
      first | refine l_gskip rfl rfl ?_ | refine l_gskip_u rfl rfl ?_ | refine l_gdo rfl rfl (by first | exact y_neq rfl rfl (decide_eq_true (by omega)) | exact y_neq rfl rfl (decide_eq_false (by omega)) | exact y_neq rfl rfl rfl) ?_
      refine l_q (by first | exact y_pk_bt rfl rfl | exact y_pk_bf rfl rfl) ?_
      refine l_q (by exact y_mv_bool rfl) ?_
      first | refine l_gskip rfl rfl ?_ | refine l_gskip_u rfl rfl ?_ | refine l_gdo rfl rfl (by exact y_mv_str rfl) ?_
      first | refine l_gskip rfl rfl ?_ | refine l_gskip_u rfl rfl ?_ | refine l_gdo rfl rfl (by exact y_len_str rfl) ?_
      first | refine l_gskip rfl rfl ?_ | refine l_gskip_u rfl rfl ?_ | refine l_gdo rfl rfl (by exact y_mv_int rfl) ?_
      first | refine l_gskip rfl rfl ?_ | refine l_gskip_u rfl rfl ?_ | (refine l_gw rfl rfl (w_call rfl (rest_c _ _ _ (by omega) (by omega)) rfl (fun _ w h => ?_)); obtain ⟨rfl, rfl⟩ := h)
      first | refine l_gskip rfl rfl ?_ | refine l_gskip_u rfl rfl ?_ | refine l_gdo rfl rfl (by first | exact y_neq rfl rfl (decide_eq_true (by omega)) | exact y_neq rfl rfl (decide_eq_false (by omega)) | exact y_neq rfl rfl rfl) ?_
      refine l_q (by first | exact y_pk_bt rfl rfl | exact y_pk_bf rfl rfl) ?_
      refine l_end ?_
      refine e_then ?_
      refine cond_f rfl ?_
      refine s_skip ?_
      refine e_blk ?_
      refine e_then ?_
      refine s_reg ?_
      refine l_q (by first | exact y_addn rfl rfl (by omega) | exact y_add rfl rfl rfl) ?_
      refine l_q (by exact y_mv_int rfl) ?_
      refine l_end ?_
      refine e_then ?_
      exact ⟨(j + 1, x'), _, nx ⟨rfl, rfl, rfl, rfl, rfl, trivial⟩, ⟨hs, hqb', hok', by dsimp only; rw [habs']; exact hal', by dsimp only; omega⟩, by dsimp only; omega⟩
    · have hj : j = i := by omega
      subst hj
      rw [List.drop_of_length_le (by rw [strs_len]; omega)] at hal
      refine s_seq ?_
      refine s_reg ?_
      refine l_q (by first | exact y_lss rfl rfl (decide_eq_true (by omega)) | exact y_lss rfl rfl (decide_eq_false (by omega)) | exact y_lss rfl rfl rfl) ?_
      refine l_end ?_
      refine e_then ?_
      refine s_seq ?_
      refine cond_f rfl ?_
      refine s_exit ?_
      refine e_then_x ?_
      refine e_then_x ?_
      refine e_blk_x ?_
      refine e_then ?_
      refine s_seq ?_
      refine s_reg ?_
      refine l_q (by exact y_mv_ptr rfl) ?_
      refine l_w (w_call rfl (takeNone_b hqb hok (alone_none hal) hs) rfl (fun _ w h => ?_))
      obtain ⟨rfl, hs⟩ := h
      refine l_q (by exact y_mv_tuple rfl) ?_
      refine l_q (by exact y_extract rfl rfl) ?_
      refine l_q (by exact y_extract rfl rfl) ?_
      refine l_q (by exact y_extract rfl rfl) ?_
      refine l_q (by exact y_as_int rfl) ?_
      refine l_q (by exact y_as_str rfl) ?_
      refine l_q (by exact y_as_bool rfl) ?_
      refine l_end ?_
      refine e_then ?_
      refine s_seq ?_
      refine s_reg ?_
      refine l_q (by exact y_mv_bool rfl) ?_
      refine l_q (by first | exact y_not_t rfl | exact y_not_f rfl | exact y_notd rfl) ?_
      refine l_q (by exact y_as_bool rfl) ?_
      refine l_end ?_
      refine e_then ?_
      refine s_ret ?_
      exact ret_ [.bool _] rfl ⟨rfl, trivial⟩ ⟨rfl, hs.nil⟩
end Go.Proofs.Ytohomijijipfdaa
