/- Facts on the functions and types of this seat that its laws are proved from: contracts under the premises that each theorem names. -/
import Derived.Test.YtfjobjbbncclbaaCta
namespace Go.Proofs.Ytfjobjbbncclbaa
open Go Go.RowKit PB
set_option linter.unusedVariables false

theorem lev_add {r B l lv now d : Int} (hl : l = lev r B lv 0 now) (h : 0 ≤ r * d) : lev r B l now (now + d) = lev r B lv 0 (now + d) := by
  have h1 : r * (now + d - now) = r * d := by congr 1; omega
  have h2 : r * (now + d - 0) = r * now + r * d := by rw [Int.sub_zero, Int.mul_add]
  have h3 : r * (now - 0) = r * now := by rw [Int.sub_zero]
  unfold lev at *
  rw [h1, h2]
  rw [h3] at hl
  split at hl <;> split <;> split <;> omega


theorem steps_walk (W : World) (a0 a1 a2 : Int) (a3 : Option Addr) (len3 cap3 : Nat) (z3 : List Int) (h3 : Ints W a3 len3 z3) (l3 : len3 ≤ 9223372036854775807) (a4 : Int) :
    FnC Try.prog 4 [.int .i64 a0, .int .i64 a1, .int .i64 a2, .slice a3 len3 cap3, .int .i64 a4] W (fun v w' => v = .bool true ∧ St W w' []) := by
  have r0 : 0 ≤ a0 % 5000 := Int.emod_nonneg _ (by decide)
  have r1 : a0 % 5000 < 5000 := Int.emod_lt_of_pos _ (by decide)
  have B0 : 1 ≤ 1 + a1 % 50 := by omega
  have B1 : 1 + a1 % 50 ≤ 50 := by omega
  have L0 : 0 ≤ a2 % (1000 * (1 + a1 % 50) + 1) := Int.emod_nonneg _ (by omega)
  have L1 : a2 % (1000 * (1 + a1 % 50) + 1) < 1000 * (1 + a1 % 50) + 1 := Int.emod_lt_of_pos _ (by omega)
  have hV0 : Vld (a0 % 5000) (1 + a1 % 50) (a2 % (1000 * (1 + a1 % 50) + 1)) 0 := by constructor <;> omega
  have hs := St.start W
  refine FnC.enter Try.func4 rfl Try.ntmps4 rfl fun ρ => ?_
  refine s_seq ?_
  refine s_reg ?_
  refine l_q (by exact y_as_bool rfl) ?_
  refine l_end ?_
  refine e_then ?_
  refine s_seq ?_
  refine s_seq ?_
  refine s_reg ?_
  refine l_w (w_call rfl (fact_c hs) rfl (fun _ w h => ?_))
  obtain ⟨rfl, hs⟩ := h
  refine l_q (by first | exact y_not_t rfl | exact y_not_f rfl | exact y_notd rfl) ?_
  refine l_end ?_
  refine e_then ?_
  refine cond_f rfl ?_
  refine s_skip ?_
  refine e_then ?_
  refine s_seq ?_
  refine s_reg ?_
  refine l_q (by exact y_mv_int rfl) ?_
  refine l_q (by exact y_mv_int rfl) ?_
  refine l_q (by exact y_mv_int rfl) ?_
  refine l_w (w_call rfl (filled_c hs _ _ _) rfl (fun _ w h => ?_))
  obtain ⟨rfl, hs⟩ := h
  refine l_w (w_alloc (cs := [_, _, _, _]) hs rfl (fun b11 w hs hb11 => ?_))
  refine l_w (w_storeA (vs := [_, _, _, _]) hs rfl rfl rfl rfl rfl (fun w hs => ?_))
  refine l_end ?_
  refine e_then ?_
  refine s_seq ?_
  refine s_reg ?_
  refine l_q (by exact y_ldA (vs := [_, _, _, _]) hs rfl rfl rfl) ?_
  refine l_w (w_alloc (cs := [_, _, _, _]) hs rfl (fun b12 w hs hb12 => ?_))
  refine l_w (w_storeA (vs := [_, _, _, _]) hs rfl rfl rfl rfl rfl (fun w hs => ?_))
  refine l_end ?_
  refine e_then ?_
  refine s_seq ?_
  refine s_reg ?_
  refine l_q (by exact y_as_int rfl) ?_
  refine l_end ?_
  refine e_then ?_
  refine cut (Y := Int) (fun now => [(4, .int .i64 a4), (11, .pointer (some ⟨b11, 0, none⟩)), (12, .pointer (some ⟨b12, 0, none⟩)), (13, .int .i64 now)]) (fun now w => St W w [(b12, .cells [.int .i64 (a0 % 5000), .int .i64 (1 + a1 % 50), .int .i64 (lev (a0 % 5000) (1 + a1 % 50) (a2 % (1000 * (1 + a1 % 50) + 1)) 0 now), .int .i64 now] 25), (b11, .cells [.int .i64 (a0 % 5000), .int .i64 (1 + a1 % 50), .int .i64 (a2 % (1000 * (1 + a1 % 50) + 1)), .int .i64 0] 25)] ∧ 0 ≤ now ∧ now ≤ 12000) (fun K hK => ?_) (fun u ρ w hI => ?_)
  refine s_seq ?_
  refine s_reg ?_
  refine l_q (by exact y_as_int rfl) ?_
  refine l_end ?_
  refine e_then ?_
  refine s_block ?_
  all_goals
    generalize a0 % 5000 = r at *
    generalize 1 + a1 % 50 = B at *
    generalize a2 % (1000 * B + 1) = lv at *
  · refine loop_st (X := Nat × Int) (fun x => [(3, .slice a3 len3 cap3), (4, .int .i64 a4), (11, .pointer (some ⟨b11, 0, none⟩)), (12, .pointer (some ⟨b12, 0, none⟩)), (13, .int .i64 x.2), (14, .int .i64 x.1)])
      (fun x w => St W w [(b12, .cells [.int .i64 r, .int .i64 B, .int .i64 (lev r B lv 0 x.2), .int .i64 x.2] 25), (b11, .cells [.int .i64 r, .int .i64 B, .int .i64 lv, .int .i64 0] 25)] ∧ x.1 ≤ 40 ∧ 0 ≤ x.2 ∧ x.2 ≤ 300 * x.1) (fun x => 40 - x.1) (0, 0) ⟨rfl, rfl, rfl, rfl, rfl, rfl, trivial⟩ ⟨?_, by dsimp only; omega, by dsimp only; omega, by dsimp only; omega⟩ ?_
    · have : lev r B lv 0 0 = lv := by unfold lev; rw [Int.sub_zero, Int.mul_zero]; split <;> omega
      dsimp only
      rw [this]
      exact hs
    rintro ⟨i, now⟩ ρ w ⟨hs, i1, n0, n1⟩
    dsimp only at *
    have hl := lev_bd hV0 (now := now) (by omega) (by omega)
    have V' : Vld r B (lev r B lv 0 now) now := by constructor <;> omega
    have V0 := hV0
    by_cases c1 : i < len3
    · by_cases c2 : i < 40
      · obtain ⟨x3, ha3, hc3⟩ := h3.at_ i c1
        generalize z3.getD i 0 = u3 at *
        have hla := lev_add (r := r) (B := B) (lv := lv) (now := now) (d := u3 % 300) rfl (Int.mul_nonneg r0 (Int.emod_nonneg _ (by decide)))
        have hl2 := lev_bd hV0 (now := now + u3 % 300) (by omega) (by omega)
        have hlz := hla ▸ hl2.1
        refine s_seq ?_
        refine s_seq ?_
        refine s_reg ?_
        refine l_q (by exact y_mv_int rfl) ?_
        refine l_q (by exact y_mv_slice rfl) ?_
        refine l_q (by exact y_len_slice rfl) ?_
        refine l_q (by first | exact y_lss rfl rfl (decide_eq_true (by omega)) | exact y_lss rfl rfl (decide_eq_false (by omega)) | exact y_lss rfl rfl rfl) ?_
        refine l_q (by exact y_mv_bool rfl) ?_
        first | refine l_gskip rfl rfl ?_ | refine l_gskip_u rfl rfl ?_ | refine l_gdo rfl rfl (by exact y_mv_int rfl) ?_
        first | refine l_gskip rfl rfl ?_ | refine l_gskip_u rfl rfl ?_ | refine l_gdo rfl rfl (by first | exact y_lss rfl rfl (decide_eq_true (by omega)) | exact y_lss rfl rfl (decide_eq_false (by omega)) | exact y_lss rfl rfl rfl) ?_
        refine l_q (by first | exact y_pk_bt rfl rfl | exact y_pk_bf rfl rfl) ?_
        refine l_end ?_
        refine e_then ?_
        refine cond_t rfl ?_
        refine s_skip ?_
        refine e_then ?_
        refine s_seq ?_
        refine s_block ?_
        refine s_seq ?_
        refine s_reg ?_
        refine l_q (by exact y_mv_int rfl) ?_
        refine l_q (by exact y_mv_slice rfl) ?_
        refine l_q (by exact y_mv_int rfl) ?_
        refine l_q (by exact y_indexA1 rfl rfl (by omega) (by omega) ha3) ?_
        refine l_q (by exact y_ldOld hs rfl hc3) ?_
        refine l_w (w_call rfl (rest_c _ _ _ (by omega) (by omega)) rfl (fun _ w h => ?_))
        obtain ⟨rfl, rfl⟩ := h
        refine l_q (by first | exact y_addn rfl rfl (by omega) | exact y_add rfl rfl rfl) ?_
        refine l_q (by exact y_as_int rfl) ?_
        refine l_end ?_
        refine e_then ?_
        refine s_seq ?_
        refine s_reg ?_
        refine l_q (by exact y_ldA (vs := [_, _, _, _]) hs rfl rfl rfl) ?_
        refine l_q (by exact y_mv_int rfl) ?_
        refine l_w (w_call rfl (by first | exact take_no hs V' (by omega) (by omega) (by omega) (by omega) (by omega) | exact take_yes hs V' (by omega) (by omega) (by omega) (by omega) (by omega) | exact take_no hs V0 (by omega) (by omega) (by omega) (by omega) (by omega) | exact take_yes hs V0 (by omega) (by omega) (by omega) (by omega) (by omega)) rfl (fun _ w h => ?_))
        obtain ⟨rfl, hs⟩ := h
        refine l_q (by exact y_mv_tuple rfl) ?_
        refine l_q (by exact y_extract rfl rfl) ?_
        refine l_q (by exact y_extract rfl rfl) ?_
        refine l_q (by exact y_extract rfl rfl) ?_
        refine l_w (w_alloc (cs := [_, _, _, _]) hs rfl (fun b15 w hs hb15 => ?_))
        refine l_w (w_storeA (vs := [_, _, _, _]) hs rfl rfl rfl rfl rfl (fun w hs => ?_))
        refine l_q (by exact y_as_bool rfl) ?_
        refine l_q (by exact y_as_int rfl) ?_
        refine l_end ?_
        refine e_then ?_
        refine s_seq ?_
        refine s_seq ?_
        refine s_reg ?_
        refine l_q (by exact y_mv_int rfl) ?_
        refine l_q (by first | exact y_neq rfl rfl (decide_eq_true (by omega)) | exact y_neq rfl rfl (decide_eq_false (by omega)) | exact y_neq rfl rfl rfl) ?_
        refine l_q (by exact y_mv_bool rfl) ?_
        first | refine l_gskip rfl rfl ?_ | refine l_gskip_u rfl rfl ?_ | refine l_gdo rfl rfl (by exact y_mv_bool rfl) ?_
        first | refine l_gskip rfl rfl ?_ | refine l_gskip_u rfl rfl ?_ | refine l_gdo rfl rfl (by first | exact y_not_t rfl | exact y_not_f rfl | exact y_notd rfl) ?_
        refine l_q (by first | exact y_pk_bt rfl rfl | exact y_pk_bf rfl rfl) ?_
        refine l_end ?_
        refine e_then ?_
        refine cond_f rfl ?_
        refine s_skip ?_
        refine e_then ?_
        refine s_reg ?_
        refine l_q (by exact y_ldA (vs := [_, _, _, _]) hs rfl rfl rfl) ?_
        refine l_w (w_storeA (vs := [_, _, _, _]) hs rfl rfl rfl rfl rfl (fun w hs => ?_))
        refine l_end ?_
        refine e_blk ?_
        refine e_then ?_
        refine s_reg ?_
        refine l_q (by exact y_mv_int rfl) ?_
        refine l_q (by first | exact y_addn rfl rfl (by omega) | exact y_add rfl rfl rfl) ?_
        refine l_q (by exact y_as_int rfl) ?_
        refine l_end ?_
        refine e_then ?_
        rw [show lev r B (lev r B lv 0 now) now (now + u3 % 300) - 1000 * 0 = lev r B lv 0 (now + u3 % 300) by omega] at hs
        exact ⟨(i + 1, now + u3 % 300), _, nx ⟨rfl, rfl, rfl, rfl, rfl, rfl, trivial⟩, ⟨hs.tail, by dsimp only; omega, by dsimp only; omega, by dsimp only; omega⟩, by dsimp only; omega⟩
      · refine s_seq ?_
        refine s_seq ?_
        refine s_reg ?_
        refine l_q (by exact y_mv_int rfl) ?_
        refine l_q (by exact y_mv_slice rfl) ?_
        refine l_q (by exact y_len_slice rfl) ?_
        refine l_q (by first | exact y_lss rfl rfl (decide_eq_true (by omega)) | exact y_lss rfl rfl (decide_eq_false (by omega)) | exact y_lss rfl rfl rfl) ?_
        refine l_q (by exact y_mv_bool rfl) ?_
        first | refine l_gskip rfl rfl ?_ | refine l_gskip_u rfl rfl ?_ | refine l_gdo rfl rfl (by exact y_mv_int rfl) ?_
        first | refine l_gskip rfl rfl ?_ | refine l_gskip_u rfl rfl ?_ | refine l_gdo rfl rfl (by first | exact y_lss rfl rfl (decide_eq_true (by omega)) | exact y_lss rfl rfl (decide_eq_false (by omega)) | exact y_lss rfl rfl rfl) ?_
        refine l_q (by first | exact y_pk_bt rfl rfl | exact y_pk_bf rfl rfl) ?_
        refine l_end ?_
        refine e_then ?_
        refine cond_f rfl ?_
        refine s_exit ?_
        refine e_then_x ?_
        refine e_then_x ?_
        refine e_blk_x ?_
        refine e_then ?_
        exact meet hK now ⟨rfl, rfl, rfl, rfl, trivial⟩ ⟨hs, n0, by omega⟩
    · refine s_seq ?_
      refine s_seq ?_
      refine s_reg ?_
      refine l_q (by exact y_mv_int rfl) ?_
      refine l_q (by exact y_mv_slice rfl) ?_
      refine l_q (by exact y_len_slice rfl) ?_
      refine l_q (by first | exact y_lss rfl rfl (decide_eq_true (by omega)) | exact y_lss rfl rfl (decide_eq_false (by omega)) | exact y_lss rfl rfl rfl) ?_
      refine l_q (by exact y_mv_bool rfl) ?_
      first | refine l_gskip rfl rfl ?_ | refine l_gskip_u rfl rfl ?_ | refine l_gdo rfl rfl (by exact y_mv_int rfl) ?_
      first | refine l_gskip rfl rfl ?_ | refine l_gskip_u rfl rfl ?_ | refine l_gdo rfl rfl (by first | exact y_lss rfl rfl (decide_eq_true (by omega)) | exact y_lss rfl rfl (decide_eq_false (by omega)) | exact y_lss rfl rfl rfl) ?_
      refine l_q (by first | exact y_pk_bt rfl rfl | exact y_pk_bf rfl rfl) ?_
      refine l_end ?_
      refine e_then ?_
      refine cond_f rfl ?_
      refine s_exit ?_
      refine e_then_x ?_
      refine e_then_x ?_
      refine e_blk_x ?_
      refine e_then ?_
      exact meet hK now ⟨rfl, rfl, rfl, rfl, trivial⟩ ⟨hs, n0, by omega⟩
  · obtain ⟨hs, n0, n1⟩ := hI
    have hl := lev_bd hV0 (now := u) (by omega) (by omega)
    have V' : Vld r B (lev r B lv 0 u) u := by constructor <;> omega
    have V0 := hV0
    have hlz : lev r B (lev r B lv 0 u) u u = lev r B lv 0 u := by
      have := lev_add (r := r) (B := B) (lv := lv) (now := u) (d := 0) rfl (by simp)
      simpa using this
    have hl0 := lev_bd V' (now := u) (by omega) (by omega)
    by_cases hn : lev r B lv 0 u < 1000 * (a4 % 60)
    · refine cut (Y := Nat) (fun b => [(4, .int .i64 a4), (12, .pointer (some ⟨b12, 0, none⟩)), (13, .int .i64 u), (18, .pointer (some ⟨b, 0, none⟩)), (19, .bool false), (20, .int .i64 0)])
        (fun b w => St W w [(b, .cells [.int .i64 r, .int .i64 B, .int .i64 (lev r B lv 0 u), .int .i64 u] 25), (b12, .cells [.int .i64 r, .int .i64 B, .int .i64 (lev r B lv 0 u), .int .i64 u] 25)]) (fun K hK => ?_) (fun b18 ρ w hs => ?_)
      · refine r_dr (.q 0 (.q 1 (.q 2 (.q 3 (.w2 4 (.q 5 (.q 6 (.q 7 (.q 8 (.w 9 (.w 10 (.q 11 (.q 12 (.nil))))))))) 9 (.w 4 (.q 5 (.q 6 (.q 7 (.q 8 (.w 10 (.q 11 (.q 12 (.nil)))))))))))))) 12 hs mixed (by kernel_rfl) (fun hs => ?_)
        refine c_q rfl (by first | exact hs | exact hs.tail | exact hs.tail.tail) (fun _ _ _ h => h) (fun w hs => by exact y_ldA (vs := [_, _, _, _]) hs rfl rfl rfl) ?_
        refine c_q rfl (by first | exact hs | exact hs.tail | exact hs.tail.tail) (fun _ _ _ h => h) (fun w hs => by exact y_mv_int rfl) ?_
        refine c_qc rfl (by first | exact hs | exact hs.tail | exact hs.tail.tail) (fun _ _ _ h => h) rfl (fun w hs => rest_c _ _ _ (by omega) (by omega)) rfl ?_
        refine c_q rfl (by first | exact hs | exact hs.tail | exact hs.tail.tail) (fun _ _ _ h => h) (fun w hs => by exact y_mv_int rfl) ?_
        refine c_w2 rfl rfl rfl rfl (w_call rfl (by first | exact take_no hs V' (by omega) (by omega) (by omega) (by omega) (by omega) | exact take_yes hs V' (by omega) (by omega) (by omega) (by omega) (by omega) | exact take_no hs V0 (by omega) (by omega) (by omega) (by omega) (by omega) | exact take_yes hs V0 (by omega) (by omega) (by omega) (by omega) (by omega)) rfl (fun _ w h => ?_)) (w_alloc (cs := [_, _, _, _]) hs rfl (fun b18 w hs hb18 => ?_))
        · obtain ⟨rfl, hs⟩ := h
          refine ⟨fun _ => by first | exact hs | exact hs.tail | exact hs.tail.tail, ?_⟩
          refine c_q rfl (by first | exact hs | exact hs.tail | exact hs.tail.tail) (fun _ _ _ h => h) (fun w hs => by exact y_mv_tuple rfl) ?_
          refine c_q rfl (by first | exact hs | exact hs.tail | exact hs.tail.tail) (fun _ _ _ h => h) (fun w hs => by exact y_extract rfl rfl) ?_
          refine c_q rfl (by first | exact hs | exact hs.tail | exact hs.tail.tail) (fun _ _ _ h => h) (fun w hs => by exact y_extract rfl rfl) ?_
          refine c_q rfl (by first | exact hs | exact hs.tail | exact hs.tail.tail) (fun _ _ _ h => h) (fun w hs => by exact y_extract rfl rfl) ?_
          refine c_w rfl (w_alloc (cs := [_, _, _, _]) hs rfl (fun b18 w hs hb18 => ?_))
          refine ⟨fun _ => by first | exact hs | exact hs.tail | exact hs.tail.tail, ?_⟩
          refine c_w rfl (w_storeA (vs := [_, _, _, _]) hs rfl rfl rfl rfl rfl (fun w hs => ?_))
          refine ⟨fun _ => by first | exact hs | exact hs.tail | exact hs.tail.tail, ?_⟩
          refine c_q rfl (by first | exact hs | exact hs.tail | exact hs.tail.tail) (fun _ _ _ h => h) (fun w hs => by exact y_as_bool rfl) ?_
          refine c_q rfl (by first | exact hs | exact hs.tail | exact hs.tail.tail) (fun _ _ _ h => h) (fun w hs => by exact y_as_int rfl) ?_
          refine c_end ?_
          exact e_then (meet hK b18 ⟨rfl, rfl, rfl, rfl, rfl, rfl, trivial⟩ (hs.sub (.cons_cons _ (.cons_cons _ (.cons _ .slnil)))))
        · refine ⟨fun _ => by first | exact hs | exact hs.tail | exact hs.tail.tail, ?_⟩
          refine c_w rfl (w_call rfl (by first | exact take_no hs V' (by omega) (by omega) (by omega) (by omega) (by omega) | exact take_yes hs V' (by omega) (by omega) (by omega) (by omega) (by omega) | exact take_no hs V0 (by omega) (by omega) (by omega) (by omega) (by omega) | exact take_yes hs V0 (by omega) (by omega) (by omega) (by omega) (by omega)) rfl (fun _ w h => ?_))
          obtain ⟨rfl, hs⟩ := h
          refine ⟨fun _ => by first | exact hs | exact hs.tail | exact hs.tail.tail, ?_⟩
          refine c_q rfl (by first | exact hs | exact hs.tail | exact hs.tail.tail) (fun _ _ _ h => h) (fun w hs => by exact y_mv_tuple rfl) ?_
          refine c_q rfl (by first | exact hs | exact hs.tail | exact hs.tail.tail) (fun _ _ _ h => h) (fun w hs => by exact y_extract rfl rfl) ?_
          refine c_q rfl (by first | exact hs | exact hs.tail | exact hs.tail.tail) (fun _ _ _ h => h) (fun w hs => by exact y_extract rfl rfl) ?_
          refine c_q rfl (by first | exact hs | exact hs.tail | exact hs.tail.tail) (fun _ _ _ h => h) (fun w hs => by exact y_extract rfl rfl) ?_
          refine c_w rfl (w_storeA (vs := [_, _, _, _]) hs rfl rfl rfl rfl rfl (fun w hs => ?_))
          refine ⟨fun _ => by first | exact hs | exact hs.tail | exact hs.tail.tail, ?_⟩
          refine c_q rfl (by first | exact hs | exact hs.tail | exact hs.tail.tail) (fun _ _ _ h => h) (fun w hs => by exact y_as_bool rfl) ?_
          refine c_q rfl (by first | exact hs | exact hs.tail | exact hs.tail.tail) (fun _ _ _ h => h) (fun w hs => by exact y_as_int rfl) ?_
          refine c_end ?_
          exact e_then (meet hK b18 ⟨rfl, rfl, rfl, rfl, rfl, rfl, trivial⟩ (hs.sub (.cons_cons _ (.cons_cons _ (.cons _ .slnil)))))
      · refine cut (Y := Nat) (fun b => [(18, .pointer (some ⟨b18, 0, none⟩)), (19, .bool false), (20, .int .i64 0), (21, .pointer (some ⟨b, 0, none⟩)), (22, .bool false), (23, .int .i64 0)])
          (fun b w => St W w [(b, .cells [.int .i64 r, .int .i64 B, .int .i64 (lev r B lv 0 u), .int .i64 u] 25), (b18, .cells [.int .i64 r, .int .i64 B, .int .i64 (lev r B lv 0 u), .int .i64 u] 25)]) (fun K hK => ?_) (fun b21 ρ w hs => ?_)
        · refine r_dr (.q 0 (.q 1 (.q 2 (.q 3 (.w2 4 (.q 5 (.q 6 (.q 7 (.q 8 (.w 9 (.w 10 (.q 11 (.q 12 (.nil))))))))) 9 (.w 4 (.q 5 (.q 6 (.q 7 (.q 8 (.w 10 (.q 11 (.q 12 (.nil)))))))))))))) 12 hs mixed (by kernel_rfl) (fun hs => ?_)
          refine c_q rfl (by first | exact hs | exact hs.tail | exact hs.tail.tail) (fun _ _ _ h => h) (fun w hs => by exact y_ldA (vs := [_, _, _, _]) hs rfl rfl rfl) ?_
          refine c_q rfl (by first | exact hs | exact hs.tail | exact hs.tail.tail) (fun _ _ _ h => h) (fun w hs => by exact y_mv_int rfl) ?_
          refine c_qc rfl (by first | exact hs | exact hs.tail | exact hs.tail.tail) (fun _ _ _ h => h) rfl (fun w hs => rest_c _ _ _ (by omega) (by omega)) rfl ?_
          refine c_q rfl (by first | exact hs | exact hs.tail | exact hs.tail.tail) (fun _ _ _ h => h) (fun w hs => by exact y_mv_int rfl) ?_
          refine c_w2 rfl rfl rfl rfl (w_call rfl (by first | exact take_no hs V' (by omega) (by omega) (by omega) (by omega) (by omega) | exact take_yes hs V' (by omega) (by omega) (by omega) (by omega) (by omega) | exact take_no hs V0 (by omega) (by omega) (by omega) (by omega) (by omega) | exact take_yes hs V0 (by omega) (by omega) (by omega) (by omega) (by omega)) rfl (fun _ w h => ?_)) (w_alloc (cs := [_, _, _, _]) hs rfl (fun b21 w hs hb21 => ?_))
          · obtain ⟨rfl, hs⟩ := h
            refine ⟨fun _ => by first | exact hs | exact hs.tail | exact hs.tail.tail, ?_⟩
            refine c_q rfl (by first | exact hs | exact hs.tail | exact hs.tail.tail) (fun _ _ _ h => h) (fun w hs => by exact y_mv_tuple rfl) ?_
            refine c_q rfl (by first | exact hs | exact hs.tail | exact hs.tail.tail) (fun _ _ _ h => h) (fun w hs => by exact y_extract rfl rfl) ?_
            refine c_q rfl (by first | exact hs | exact hs.tail | exact hs.tail.tail) (fun _ _ _ h => h) (fun w hs => by exact y_extract rfl rfl) ?_
            refine c_q rfl (by first | exact hs | exact hs.tail | exact hs.tail.tail) (fun _ _ _ h => h) (fun w hs => by exact y_extract rfl rfl) ?_
            refine c_w rfl (w_alloc (cs := [_, _, _, _]) hs rfl (fun b21 w hs hb21 => ?_))
            refine ⟨fun _ => by first | exact hs | exact hs.tail | exact hs.tail.tail, ?_⟩
            refine c_w rfl (w_storeA (vs := [_, _, _, _]) hs rfl rfl rfl rfl rfl (fun w hs => ?_))
            refine ⟨fun _ => by first | exact hs | exact hs.tail | exact hs.tail.tail, ?_⟩
            refine c_q rfl (by first | exact hs | exact hs.tail | exact hs.tail.tail) (fun _ _ _ h => h) (fun w hs => by exact y_as_bool rfl) ?_
            refine c_q rfl (by first | exact hs | exact hs.tail | exact hs.tail.tail) (fun _ _ _ h => h) (fun w hs => by exact y_as_int rfl) ?_
            refine c_end ?_
            (try rw [hlz] at hs); exact e_then (meet hK b21 ⟨rfl, rfl, rfl, rfl, rfl, rfl, trivial⟩ (hs.sub (.cons_cons _ (.cons_cons _ (.cons _ .slnil)))))
          · refine ⟨fun _ => by first | exact hs | exact hs.tail | exact hs.tail.tail, ?_⟩
            refine c_w rfl (w_call rfl (by first | exact take_no hs V' (by omega) (by omega) (by omega) (by omega) (by omega) | exact take_yes hs V' (by omega) (by omega) (by omega) (by omega) (by omega) | exact take_no hs V0 (by omega) (by omega) (by omega) (by omega) (by omega) | exact take_yes hs V0 (by omega) (by omega) (by omega) (by omega) (by omega)) rfl (fun _ w h => ?_))
            obtain ⟨rfl, hs⟩ := h
            refine ⟨fun _ => by first | exact hs | exact hs.tail | exact hs.tail.tail, ?_⟩
            refine c_q rfl (by first | exact hs | exact hs.tail | exact hs.tail.tail) (fun _ _ _ h => h) (fun w hs => by exact y_mv_tuple rfl) ?_
            refine c_q rfl (by first | exact hs | exact hs.tail | exact hs.tail.tail) (fun _ _ _ h => h) (fun w hs => by exact y_extract rfl rfl) ?_
            refine c_q rfl (by first | exact hs | exact hs.tail | exact hs.tail.tail) (fun _ _ _ h => h) (fun w hs => by exact y_extract rfl rfl) ?_
            refine c_q rfl (by first | exact hs | exact hs.tail | exact hs.tail.tail) (fun _ _ _ h => h) (fun w hs => by exact y_extract rfl rfl) ?_
            refine c_w rfl (w_storeA (vs := [_, _, _, _]) hs rfl rfl rfl rfl rfl (fun w hs => ?_))
            refine ⟨fun _ => by first | exact hs | exact hs.tail | exact hs.tail.tail, ?_⟩
            refine c_q rfl (by first | exact hs | exact hs.tail | exact hs.tail.tail) (fun _ _ _ h => h) (fun w hs => by exact y_as_bool rfl) ?_
            refine c_q rfl (by first | exact hs | exact hs.tail | exact hs.tail.tail) (fun _ _ _ h => h) (fun w hs => by exact y_as_int rfl) ?_
            refine c_end ?_
            (try rw [hlz] at hs); exact e_then (meet hK b21 ⟨rfl, rfl, rfl, rfl, rfl, rfl, trivial⟩ (hs.sub (.cons_cons _ (.cons_cons _ (.cons _ .slnil)))))
        · refine s_seq ?_
          refine s_reg ?_
          refine l_q (by exact y_mv_int rfl) ?_
          refine l_q (by first | exact y_eql rfl rfl (decide_eq_true (by omega)) | exact y_eql rfl rfl (decide_eq_false (by omega)) | exact y_eql rfl rfl rfl) ?_
          refine l_q (by exact y_mv_bool rfl) ?_
          first | refine l_gskip rfl rfl ?_ | refine l_gskip_u rfl rfl ?_ | refine l_gdo rfl rfl (by exact y_mv_int rfl) ?_
          first | refine l_gskip rfl rfl ?_ | refine l_gskip_u rfl rfl ?_ | refine l_gdo rfl rfl (by first | exact y_eql rfl rfl (decide_eq_true (by omega)) | exact y_eql rfl rfl (decide_eq_false (by omega)) | exact y_eql rfl rfl rfl) ?_
          refine l_q (by first | exact y_pk_bt rfl rfl | exact y_pk_bf rfl rfl) ?_
          refine l_q (by exact y_mv_bool rfl) ?_
          first | refine l_gskip rfl rfl ?_ | refine l_gskip_u rfl rfl ?_ | refine l_gdo rfl rfl (by exact y_ldA (vs := [_, _, _, _]) hs rfl rfl rfl) ?_
          first | refine l_gskip rfl rfl ?_ | refine l_gskip_u rfl rfl ?_ | refine l_gdo rfl rfl (by exact y_ldA (vs := [_, _, _, _]) hs rfl rfl rfl) ?_
          first | refine l_gskip rfl rfl ?_ | refine l_gskip_u rfl rfl ?_ | refine l_gdo rfl rfl (by exact y_eqlAt rfl rfl rfl rfl) ?_
          refine l_q (by first | exact y_pk_bt rfl rfl | exact y_pk_bf rfl rfl) ?_
          refine l_q (by exact y_mv_bool rfl) ?_
          first | refine l_gskip rfl rfl ?_ | refine l_gskip_u rfl rfl ?_ | refine l_gdo rfl rfl (by exact y_mv_bool rfl) ?_
          first | refine l_gskip rfl rfl ?_ | refine l_gskip_u rfl rfl ?_ | refine l_gdo rfl rfl (by exact y_mv_bool rfl) ?_
          first | refine l_gskip rfl rfl ?_ | refine l_gskip_u rfl rfl ?_ | refine l_gdo rfl rfl (by exact y_eqlB rfl rfl rfl) ?_
          refine l_q (by first | exact y_pk_bt rfl rfl | exact y_pk_bf rfl rfl) ?_
          refine l_q (by exact y_as_bool rfl) ?_
          refine l_end ?_
          refine e_then ?_
          refine s_ret ?_
          exact ret_ [.bool _] rfl ⟨rfl, trivial⟩ ⟨by simp [oneOf], hs.nil⟩
    · refine cut (Y := Nat) (fun b => [(4, .int .i64 a4), (12, .pointer (some ⟨b12, 0, none⟩)), (13, .int .i64 u), (18, .pointer (some ⟨b, 0, none⟩)), (19, .bool true), (20, .int .i64 0)])
        (fun b w => St W w [(b, .cells [.int .i64 r, .int .i64 B, .int .i64 (lev r B lv 0 u - 1000 * (a4 % 60)), .int .i64 u] 25), (b12, .cells [.int .i64 r, .int .i64 B, .int .i64 (lev r B lv 0 u), .int .i64 u] 25)]) (fun K hK => ?_) (fun b18 ρ w hs => ?_)
      · refine r_dr (.q 0 (.q 1 (.q 2 (.q 3 (.w2 4 (.q 5 (.q 6 (.q 7 (.q 8 (.w 9 (.w 10 (.q 11 (.q 12 (.nil))))))))) 9 (.w 4 (.q 5 (.q 6 (.q 7 (.q 8 (.w 10 (.q 11 (.q 12 (.nil)))))))))))))) 12 hs mixed (by kernel_rfl) (fun hs => ?_)
        refine c_q rfl (by first | exact hs | exact hs.tail | exact hs.tail.tail) (fun _ _ _ h => h) (fun w hs => by exact y_ldA (vs := [_, _, _, _]) hs rfl rfl rfl) ?_
        refine c_q rfl (by first | exact hs | exact hs.tail | exact hs.tail.tail) (fun _ _ _ h => h) (fun w hs => by exact y_mv_int rfl) ?_
        refine c_qc rfl (by first | exact hs | exact hs.tail | exact hs.tail.tail) (fun _ _ _ h => h) rfl (fun w hs => rest_c _ _ _ (by omega) (by omega)) rfl ?_
        refine c_q rfl (by first | exact hs | exact hs.tail | exact hs.tail.tail) (fun _ _ _ h => h) (fun w hs => by exact y_mv_int rfl) ?_
        refine c_w2 rfl rfl rfl rfl (w_call rfl (by first | exact take_no hs V' (by omega) (by omega) (by omega) (by omega) (by omega) | exact take_yes hs V' (by omega) (by omega) (by omega) (by omega) (by omega) | exact take_no hs V0 (by omega) (by omega) (by omega) (by omega) (by omega) | exact take_yes hs V0 (by omega) (by omega) (by omega) (by omega) (by omega)) rfl (fun _ w h => ?_)) (w_alloc (cs := [_, _, _, _]) hs rfl (fun b18 w hs hb18 => ?_))
        · obtain ⟨rfl, hs⟩ := h
          refine ⟨fun _ => by first | exact hs | exact hs.tail | exact hs.tail.tail, ?_⟩
          refine c_q rfl (by first | exact hs | exact hs.tail | exact hs.tail.tail) (fun _ _ _ h => h) (fun w hs => by exact y_mv_tuple rfl) ?_
          refine c_q rfl (by first | exact hs | exact hs.tail | exact hs.tail.tail) (fun _ _ _ h => h) (fun w hs => by exact y_extract rfl rfl) ?_
          refine c_q rfl (by first | exact hs | exact hs.tail | exact hs.tail.tail) (fun _ _ _ h => h) (fun w hs => by exact y_extract rfl rfl) ?_
          refine c_q rfl (by first | exact hs | exact hs.tail | exact hs.tail.tail) (fun _ _ _ h => h) (fun w hs => by exact y_extract rfl rfl) ?_
          refine c_w rfl (w_alloc (cs := [_, _, _, _]) hs rfl (fun b18 w hs hb18 => ?_))
          refine ⟨fun _ => by first | exact hs | exact hs.tail | exact hs.tail.tail, ?_⟩
          refine c_w rfl (w_storeA (vs := [_, _, _, _]) hs rfl rfl rfl rfl rfl (fun w hs => ?_))
          refine ⟨fun _ => by first | exact hs | exact hs.tail | exact hs.tail.tail, ?_⟩
          refine c_q rfl (by first | exact hs | exact hs.tail | exact hs.tail.tail) (fun _ _ _ h => h) (fun w hs => by exact y_as_bool rfl) ?_
          refine c_q rfl (by first | exact hs | exact hs.tail | exact hs.tail.tail) (fun _ _ _ h => h) (fun w hs => by exact y_as_int rfl) ?_
          refine c_end ?_
          exact e_then (meet hK b18 ⟨rfl, rfl, rfl, rfl, rfl, rfl, trivial⟩ (hs.sub (.cons_cons _ (.cons_cons _ (.cons _ .slnil)))))
        · refine ⟨fun _ => by first | exact hs | exact hs.tail | exact hs.tail.tail, ?_⟩
          refine c_w rfl (w_call rfl (by first | exact take_no hs V' (by omega) (by omega) (by omega) (by omega) (by omega) | exact take_yes hs V' (by omega) (by omega) (by omega) (by omega) (by omega) | exact take_no hs V0 (by omega) (by omega) (by omega) (by omega) (by omega) | exact take_yes hs V0 (by omega) (by omega) (by omega) (by omega) (by omega)) rfl (fun _ w h => ?_))
          obtain ⟨rfl, hs⟩ := h
          refine ⟨fun _ => by first | exact hs | exact hs.tail | exact hs.tail.tail, ?_⟩
          refine c_q rfl (by first | exact hs | exact hs.tail | exact hs.tail.tail) (fun _ _ _ h => h) (fun w hs => by exact y_mv_tuple rfl) ?_
          refine c_q rfl (by first | exact hs | exact hs.tail | exact hs.tail.tail) (fun _ _ _ h => h) (fun w hs => by exact y_extract rfl rfl) ?_
          refine c_q rfl (by first | exact hs | exact hs.tail | exact hs.tail.tail) (fun _ _ _ h => h) (fun w hs => by exact y_extract rfl rfl) ?_
          refine c_q rfl (by first | exact hs | exact hs.tail | exact hs.tail.tail) (fun _ _ _ h => h) (fun w hs => by exact y_extract rfl rfl) ?_
          refine c_w rfl (w_storeA (vs := [_, _, _, _]) hs rfl rfl rfl rfl rfl (fun w hs => ?_))
          refine ⟨fun _ => by first | exact hs | exact hs.tail | exact hs.tail.tail, ?_⟩
          refine c_q rfl (by first | exact hs | exact hs.tail | exact hs.tail.tail) (fun _ _ _ h => h) (fun w hs => by exact y_as_bool rfl) ?_
          refine c_q rfl (by first | exact hs | exact hs.tail | exact hs.tail.tail) (fun _ _ _ h => h) (fun w hs => by exact y_as_int rfl) ?_
          refine c_end ?_
          exact e_then (meet hK b18 ⟨rfl, rfl, rfl, rfl, rfl, rfl, trivial⟩ (hs.sub (.cons_cons _ (.cons_cons _ (.cons _ .slnil)))))
      · refine cut (Y := Nat) (fun b => [(18, .pointer (some ⟨b18, 0, none⟩)), (19, .bool true), (20, .int .i64 0), (21, .pointer (some ⟨b, 0, none⟩)), (22, .bool true), (23, .int .i64 0)])
          (fun b w => St W w [(b, .cells [.int .i64 r, .int .i64 B, .int .i64 (lev r B lv 0 u - 1000 * (a4 % 60)), .int .i64 u] 25), (b18, .cells [.int .i64 r, .int .i64 B, .int .i64 (lev r B lv 0 u - 1000 * (a4 % 60)), .int .i64 u] 25)]) (fun K hK => ?_) (fun b21 ρ w hs => ?_)
        · refine r_dr (.q 0 (.q 1 (.q 2 (.q 3 (.w2 4 (.q 5 (.q 6 (.q 7 (.q 8 (.w 9 (.w 10 (.q 11 (.q 12 (.nil))))))))) 9 (.w 4 (.q 5 (.q 6 (.q 7 (.q 8 (.w 10 (.q 11 (.q 12 (.nil)))))))))))))) 12 hs mixed (by kernel_rfl) (fun hs => ?_)
          refine c_q rfl (by first | exact hs | exact hs.tail | exact hs.tail.tail) (fun _ _ _ h => h) (fun w hs => by exact y_ldA (vs := [_, _, _, _]) hs rfl rfl rfl) ?_
          refine c_q rfl (by first | exact hs | exact hs.tail | exact hs.tail.tail) (fun _ _ _ h => h) (fun w hs => by exact y_mv_int rfl) ?_
          refine c_qc rfl (by first | exact hs | exact hs.tail | exact hs.tail.tail) (fun _ _ _ h => h) rfl (fun w hs => rest_c _ _ _ (by omega) (by omega)) rfl ?_
          refine c_q rfl (by first | exact hs | exact hs.tail | exact hs.tail.tail) (fun _ _ _ h => h) (fun w hs => by exact y_mv_int rfl) ?_
          refine c_w2 rfl rfl rfl rfl (w_call rfl (by first | exact take_no hs V' (by omega) (by omega) (by omega) (by omega) (by omega) | exact take_yes hs V' (by omega) (by omega) (by omega) (by omega) (by omega) | exact take_no hs V0 (by omega) (by omega) (by omega) (by omega) (by omega) | exact take_yes hs V0 (by omega) (by omega) (by omega) (by omega) (by omega)) rfl (fun _ w h => ?_)) (w_alloc (cs := [_, _, _, _]) hs rfl (fun b21 w hs hb21 => ?_))
          · obtain ⟨rfl, hs⟩ := h
            refine ⟨fun _ => by first | exact hs | exact hs.tail | exact hs.tail.tail, ?_⟩
            refine c_q rfl (by first | exact hs | exact hs.tail | exact hs.tail.tail) (fun _ _ _ h => h) (fun w hs => by exact y_mv_tuple rfl) ?_
            refine c_q rfl (by first | exact hs | exact hs.tail | exact hs.tail.tail) (fun _ _ _ h => h) (fun w hs => by exact y_extract rfl rfl) ?_
            refine c_q rfl (by first | exact hs | exact hs.tail | exact hs.tail.tail) (fun _ _ _ h => h) (fun w hs => by exact y_extract rfl rfl) ?_
            refine c_q rfl (by first | exact hs | exact hs.tail | exact hs.tail.tail) (fun _ _ _ h => h) (fun w hs => by exact y_extract rfl rfl) ?_
            refine c_w rfl (w_alloc (cs := [_, _, _, _]) hs rfl (fun b21 w hs hb21 => ?_))
            refine ⟨fun _ => by first | exact hs | exact hs.tail | exact hs.tail.tail, ?_⟩
            refine c_w rfl (w_storeA (vs := [_, _, _, _]) hs rfl rfl rfl rfl rfl (fun w hs => ?_))
            refine ⟨fun _ => by first | exact hs | exact hs.tail | exact hs.tail.tail, ?_⟩
            refine c_q rfl (by first | exact hs | exact hs.tail | exact hs.tail.tail) (fun _ _ _ h => h) (fun w hs => by exact y_as_bool rfl) ?_
            refine c_q rfl (by first | exact hs | exact hs.tail | exact hs.tail.tail) (fun _ _ _ h => h) (fun w hs => by exact y_as_int rfl) ?_
            refine c_end ?_
            (try rw [hlz] at hs); exact e_then (meet hK b21 ⟨rfl, rfl, rfl, rfl, rfl, rfl, trivial⟩ (hs.sub (.cons_cons _ (.cons_cons _ (.cons _ .slnil)))))
          · refine ⟨fun _ => by first | exact hs | exact hs.tail | exact hs.tail.tail, ?_⟩
            refine c_w rfl (w_call rfl (by first | exact take_no hs V' (by omega) (by omega) (by omega) (by omega) (by omega) | exact take_yes hs V' (by omega) (by omega) (by omega) (by omega) (by omega) | exact take_no hs V0 (by omega) (by omega) (by omega) (by omega) (by omega) | exact take_yes hs V0 (by omega) (by omega) (by omega) (by omega) (by omega)) rfl (fun _ w h => ?_))
            obtain ⟨rfl, hs⟩ := h
            refine ⟨fun _ => by first | exact hs | exact hs.tail | exact hs.tail.tail, ?_⟩
            refine c_q rfl (by first | exact hs | exact hs.tail | exact hs.tail.tail) (fun _ _ _ h => h) (fun w hs => by exact y_mv_tuple rfl) ?_
            refine c_q rfl (by first | exact hs | exact hs.tail | exact hs.tail.tail) (fun _ _ _ h => h) (fun w hs => by exact y_extract rfl rfl) ?_
            refine c_q rfl (by first | exact hs | exact hs.tail | exact hs.tail.tail) (fun _ _ _ h => h) (fun w hs => by exact y_extract rfl rfl) ?_
            refine c_q rfl (by first | exact hs | exact hs.tail | exact hs.tail.tail) (fun _ _ _ h => h) (fun w hs => by exact y_extract rfl rfl) ?_
            refine c_w rfl (w_storeA (vs := [_, _, _, _]) hs rfl rfl rfl rfl rfl (fun w hs => ?_))
            refine ⟨fun _ => by first | exact hs | exact hs.tail | exact hs.tail.tail, ?_⟩
            refine c_q rfl (by first | exact hs | exact hs.tail | exact hs.tail.tail) (fun _ _ _ h => h) (fun w hs => by exact y_as_bool rfl) ?_
            refine c_q rfl (by first | exact hs | exact hs.tail | exact hs.tail.tail) (fun _ _ _ h => h) (fun w hs => by exact y_as_int rfl) ?_
            refine c_end ?_
            (try rw [hlz] at hs); exact e_then (meet hK b21 ⟨rfl, rfl, rfl, rfl, rfl, rfl, trivial⟩ (hs.sub (.cons_cons _ (.cons_cons _ (.cons _ .slnil)))))
        · refine s_seq ?_
          refine s_reg ?_
          refine l_q (by exact y_mv_int rfl) ?_
          refine l_q (by first | exact y_eql rfl rfl (decide_eq_true (by omega)) | exact y_eql rfl rfl (decide_eq_false (by omega)) | exact y_eql rfl rfl rfl) ?_
          refine l_q (by exact y_mv_bool rfl) ?_
          first | refine l_gskip rfl rfl ?_ | refine l_gskip_u rfl rfl ?_ | refine l_gdo rfl rfl (by exact y_mv_int rfl) ?_
          first | refine l_gskip rfl rfl ?_ | refine l_gskip_u rfl rfl ?_ | refine l_gdo rfl rfl (by first | exact y_eql rfl rfl (decide_eq_true (by omega)) | exact y_eql rfl rfl (decide_eq_false (by omega)) | exact y_eql rfl rfl rfl) ?_
          refine l_q (by first | exact y_pk_bt rfl rfl | exact y_pk_bf rfl rfl) ?_
          refine l_q (by exact y_mv_bool rfl) ?_
          first | refine l_gskip rfl rfl ?_ | refine l_gskip_u rfl rfl ?_ | refine l_gdo rfl rfl (by exact y_ldA (vs := [_, _, _, _]) hs rfl rfl rfl) ?_
          first | refine l_gskip rfl rfl ?_ | refine l_gskip_u rfl rfl ?_ | refine l_gdo rfl rfl (by exact y_ldA (vs := [_, _, _, _]) hs rfl rfl rfl) ?_
          first | refine l_gskip rfl rfl ?_ | refine l_gskip_u rfl rfl ?_ | refine l_gdo rfl rfl (by exact y_eqlAt rfl rfl rfl rfl) ?_
          refine l_q (by first | exact y_pk_bt rfl rfl | exact y_pk_bf rfl rfl) ?_
          refine l_q (by exact y_mv_bool rfl) ?_
          first | refine l_gskip rfl rfl ?_ | refine l_gskip_u rfl rfl ?_ | refine l_gdo rfl rfl (by exact y_mv_bool rfl) ?_
          first | refine l_gskip rfl rfl ?_ | refine l_gskip_u rfl rfl ?_ | refine l_gdo rfl rfl (by exact y_mv_bool rfl) ?_
          first | refine l_gskip rfl rfl ?_ | refine l_gskip_u rfl rfl ?_ | refine l_gdo rfl rfl (by exact y_eqlB rfl rfl rfl) ?_
          refine l_q (by first | exact y_pk_bt rfl rfl | exact y_pk_bf rfl rfl) ?_
          refine l_q (by exact y_as_bool rfl) ?_
          refine l_end ?_
          refine e_then ?_
          refine s_ret ?_
          exact ret_ [.bool _] rfl ⟨rfl, trivial⟩ ⟨by simp [oneOf], hs.nil⟩
end Go.Proofs.Ytfjobjbbncclbaa
