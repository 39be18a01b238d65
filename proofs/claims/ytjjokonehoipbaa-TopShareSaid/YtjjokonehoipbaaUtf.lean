/- Facts on the functions and types of this seat that its laws are proved from: contracts under the premises that each theorem names. -/
import Derived.Test.YtjjokonehoipbaaUte
set_option linter.unusedSimpArgs false
set_option linter.unusedVariables false
set_option linter.unnecessarySimpa false
namespace Go.Proofs.Ytjjokonehoipbaa
open Go Go.RowKit PB
set_option linter.unusedVariables false

def bt (n i : Nat) : List Value := List.replicate i (.bool true) ++ List.replicate (n - i) (.bool false)
theorem bt_set {n i : Nat} (h : i < n) : (bt n i).set i (.bool true) = bt n (i + 1) := by
  unfold bt
  rw [show n - i = (n - (i + 1)) + 1 by omega, List.replicate_succ, List.set_append_right _ _ (by simp)]
  simp [List.replicate_succ']
theorem bt_len {n i : Nat} (h : i ≤ n) : (bt n i).length = n := by simp [bt]; omega
theorem bt_full (n : Nat) : bt n n = List.replicate n (.bool true) := by simp [bt]
theorem bt_zero (n : Nat) : zerosL (.bool false) (n * 1) = bt n 0 := by rw [Nat.mul_one, zerosL_one rfl]; simp [bt]
theorem inl3 {s : OS} {xs : List Value} {L : List (Nat × MObj)} {p q r : Nat × MObj} (h : ∀ g, s.a = some g → InL g (.cells (xs ++ s.sp) 3) L) : ∀ g, s.a = some g → InL g (.cells (xs ++ s.sp) 3) (p :: q :: r :: L) :=
  fun g hg => ⟨List.mem_cons_of_mem _ (List.mem_cons_of_mem _ (List.mem_cons_of_mem _ (h g hg).mem))⟩


theorem clear_c {W0 w : World} {L : List (Nat × MObj)} {s so : OS} {ps : List Int} {l : List Talk} (hok : s.ok (ps.map I64) ps.length 1) (hp : Small ps) (hot : so.ok (tflat l) l.length 3) (hl : l.length ≤ 8) (htv : ∀ t ∈ l, TV ps t)
    (hno : ∀ (i k : Nat) (x y : Talk), l[i]? = some x → l[k]? = some y → i ≠ k → NoMeet ps x y)
    (hin : ∀ g, s.a = some g → InL g (.cells (ps.map I64 ++ s.sp) 3) L) (hinT : ∀ g, so.a = some g → InL g (.cells (tflat l ++ so.sp) 31) L) (hs : St W0 w L) :
    FnC Try.prog 9 [.slice s.ad ps.length s.cap, .slice so.ad l.length so.cap] w (fun v w' => ∃ b, v = .tuple #[.slice (some ⟨b, 0, none⟩) l.length l.length, I64 0] ∧ St W0 w' ((b, .cells (List.replicate l.length (.bool true)) 4) :: L)) := by
  have hn := hp.n
  refine FnC.enter Try.func9 rfl Try.ntmps9 rfl fun ρ => ?_
  refine s_seq ?_
  refine s_reg ?_
  refine l_q (by exact y_as_slice rfl) ?_
  refine l_q (by exact y_as_int rfl) ?_
  refine l_end ?_
  refine e_then ?_
  refine s_seq ?_
  refine s_seq ?_
  refine s_reg ?_
  refine l_q (by exact y_mv_slice rfl) ?_
  refine l_q (by exact y_mv_slice rfl) ?_
  refine l_w (w_call rfl (check_c hok hp hot hl htv hin hinT hs) rfl (fun _ w h => ?_))
  obtain ⟨rfl, hs⟩ := h
  refine l_q (by exact y_as_int rfl) ?_
  refine l_end ?_
  refine e_then ?_
  refine s_seq ?_
  refine s_reg ?_
  refine l_q (by exact y_mv_int rfl) ?_
  refine l_q (by first | exact y_neq rfl rfl (decide_eq_true (by omega)) | exact y_neq rfl rfl (decide_eq_false (by omega)) | exact y_neq rfl rfl rfl) ?_
  refine l_end ?_
  refine e_then ?_
  refine cond_f rfl ?_
  refine s_skip ?_
  refine e_then ?_
  refine s_seq ?_
  refine s_reg ?_
  refine l_q (by exact y_mv_slice rfl) ?_
  refine l_q (by exact y_len_slice rfl) ?_
  refine l_w (w_makeSlice (m := l.length) hs rfl rfl (by omega) (by omega) (fun b20 w hs hb20 => ?_))
  refine l_q (by exact y_as_slice rfl) ?_
  refine l_end ?_
  refine e_then ?_
  refine s_seq ?_
  refine s_seq ?_
  refine s_reg ?_
  refine l_q (by exact y_mv_slice rfl) ?_
  refine l_q (by exact y_len_slice rfl) ?_
  refine l_q (by exact y_mv_int rfl) ?_
  refine l_end ?_
  refine e_then ?_
  refine s_block ?_
  rw [bt_zero] at hs
  refine loop_st (X := Nat) (fun i => [(0, .slice s.ad ps.length s.cap), (1, .slice so.ad l.length so.cap), (7, .slice (some ⟨b20, 0, none⟩) l.length l.length), (21, .slice so.ad l.length so.cap), (22, I64 l.length), (23, I64 i)])
    (fun i w => St W0 w ((b20, .cells (bt l.length i) 4) :: L) ∧ i ≤ l.length) (fun i => l.length - i) 0 ⟨rfl, rfl, rfl, rfl, rfl, rfl, trivial⟩ ⟨hs, by omega⟩ ?_
  clear hs
  rintro i ρ w ⟨hs, i1⟩
  by_cases c : i < l.length
  · obtain ⟨g, hg, hadT⟩ := own_tal hot c
    have hiT := hinT g hg
    have hiT0 := hiT
    obtain ⟨pre, x, suf, hlt, hi⟩ := split_at c
    rw [hlt] at hiT
    haveI := hiT
    have hx := htv x (by rw [hlt]; simp)
    have hxi : l[i]? = some x := by rw [hlt, ← hi]; simp
    refine s_seq ?_
    refine s_reg ?_
    refine l_q (by first | exact y_lss rfl rfl (decide_eq_true (by omega)) | exact y_lss rfl rfl (decide_eq_false (by omega)) | exact y_lss rfl rfl rfl) ?_
    refine l_end ?_
    refine e_then ?_
    refine s_seq ?_
    refine cond_t rfl ?_
    refine s_skip ?_
    refine e_then ?_
    refine s_seq ?_
    refine s_block ?_
    refine s_seq ?_
    refine s_reg ?_
    refine l_q (by exact y_mv_int rfl) ?_
    refine l_q (by exact y_indexT (off := 3 * pre.length) rfl rfl (by omega) (by omega) hadT (by omega)) ?_
    refine l_q (by exact y_ldA (vs := [I64 x.from_, I64 x.at_, I64 x.long]) hs rfl (tflat_room _ _ _ _) (tflat_take _ _ _ _)) ?_
    refine l_w (w_alloc (cs := [_, _, _]) hs rfl (fun b9 w hs hb9 => ?_))
    refine l_q (by exact y_as_int rfl) ?_
    refine l_w (w_storeA (vs := [_, _, _]) hs rfl rfl rfl rfl rfl (fun w hs => ?_))
    refine l_end ?_
    refine e_then ?_
    refine s_seq ?_
    refine s_reg ?_
    refine l_q (by exact y_mv_slice rfl) ?_
    refine l_q (by exact y_mv_int rfl) ?_
    refine l_q (by exact y_indexT (off := i) rfl rfl (by omega) (by omega) rfl (by omega)) ?_
    refine l_w (w_store (v := .bool true) (off := i) hs rfl rfl rfl (by rw [Nat.blt_eq, bt_len (by omega)]; omega) (fun w hs => ?_))
    rw [bt_set c] at hs
    refine l_end ?_
    refine e_then ?_
    refine s_seq ?_
    refine s_reg ?_
    refine l_q (by exact y_mv_slice rfl) ?_
    refine l_q (by exact y_len_slice rfl) ?_
    refine l_q (by exact y_mv_int rfl) ?_
    refine l_end ?_
    refine e_then ?_
    refine s_block ?_
    refine loop_st (X := Nat) (fun k => [(0, .slice s.ad ps.length s.cap), (1, .slice so.ad l.length so.cap), (7, .slice (some ⟨b20, 0, none⟩) l.length l.length), (8, I64 i), (9, .pointer (some ⟨b9, 0, none⟩)), (21, .slice so.ad l.length so.cap), (22, I64 l.length), (23, I64 i), (31, .slice so.ad l.length so.cap), (32, I64 l.length), (33, I64 k)])
      (fun k w => St W0 w ((b9, .cells [I64 x.from_, I64 x.at_, I64 x.long] 31) :: (b20, .cells (bt l.length (i + 1)) 4) :: L) ∧ k ≤ l.length) (fun k => l.length - k) 0 ⟨rfl, rfl, rfl, rfl, rfl, rfl, rfl, rfl, rfl, rfl, rfl, trivial⟩ ⟨hs, by omega⟩ ?_
    clear hs
    rintro k ρ w ⟨hs, k1⟩
    by_cases ck : k < l.length
    · obtain ⟨pre2, y, suf2, hlt2, hi2⟩ := split_at ck
      have hiT2 := hiT0
      rw [hlt2] at hiT2
      haveI := hiT2
      have hy := htv y (by rw [hlt2]; simp)
      have hyk : l[k]? = some y := by rw [hlt2, ← hi2]; simp
      by_cases e : i = k
      · refine s_seq ?_
        refine s_reg ?_
        refine l_q (by first | exact y_lss rfl rfl (decide_eq_true (by omega)) | exact y_lss rfl rfl (decide_eq_false (by omega)) | exact y_lss rfl rfl rfl) ?_
        refine l_end ?_
        refine e_then ?_
        refine s_seq ?_
        refine cond_t rfl ?_
        refine s_skip ?_
        refine e_then ?_
        refine s_seq ?_
        refine s_block ?_
        refine s_seq ?_
        refine s_reg ?_
        refine l_q (by exact y_mv_int rfl) ?_
        refine l_q (by exact y_indexT (off := 3 * pre2.length) rfl rfl (by omega) (by omega) hadT (by omega)) ?_
        refine l_q (by exact y_ldA (vs := [I64 y.from_, I64 y.at_, I64 y.long]) hs rfl (tflat_room _ _ _ _) (tflat_take _ _ _ _)) ?_
        refine l_w (w_alloc (cs := [_, _, _]) hs rfl (fun b11 w hs hb11 => ?_))
        refine l_q (by exact y_as_int rfl) ?_
        refine l_w (w_storeA (vs := [_, _, _]) hs rfl rfl rfl rfl rfl (fun w hs => ?_))
        refine l_end ?_
        refine e_then ?_
        refine s_seq ?_
        refine s_reg ?_
        refine l_q (by exact y_mv_int rfl) ?_
        refine l_q (by exact y_mv_int rfl) ?_
        refine l_q (by first | exact y_neq rfl rfl (decide_eq_true (by omega)) | exact y_neq rfl rfl (decide_eq_false (by omega)) | exact y_neq rfl rfl rfl) ?_
        refine l_q (by exact y_mv_bool rfl) ?_
        first | refine l_gskip rfl rfl ?_ | refine l_gskip_u rfl rfl ?_ | refine l_gdo rfl rfl (by exact y_mv_slice rfl) ?_
        first | refine l_gskip rfl rfl ?_ | refine l_gskip_u rfl rfl ?_ | refine l_gdo rfl rfl (by exact y_ldA (vs := [I64 x.from_, I64 x.at_, I64 x.long]) hs rfl rfl rfl) ?_
        first | refine l_gskip rfl rfl ?_ | refine l_gskip_u rfl rfl ?_ | refine l_gdo rfl rfl (by exact y_ldA (vs := [I64 y.from_, I64 y.at_, I64 y.long]) hs rfl rfl rfl) ?_
        first | refine l_gskip rfl rfl ?_ | refine l_gskip_u rfl rfl ?_ | (refine l_gw rfl rfl (w_call rfl (meet_c hok hp hx hy hnm (inl3 hin) hs) rfl (fun _ w h => ?_)); obtain ⟨rfl, hs⟩ := h)
        refine l_q (by first | exact y_pk_bt rfl rfl | exact y_pk_bf rfl rfl) ?_
        refine l_end ?_
        refine e_then ?_
        refine cond_f rfl ?_
        refine s_skip ?_
        refine e_blk ?_
        refine e_then ?_
        refine s_reg ?_
        refine l_q (by first | exact y_addn rfl rfl (by omega) | exact y_add rfl rfl rfl) ?_
        refine l_q (by exact y_mv_int rfl) ?_
        refine l_end ?_
        refine e_then ?_
        exact ⟨k + 1, _, nx ⟨rfl, rfl, rfl, rfl, rfl, rfl, rfl, rfl, rfl, rfl, rfl, trivial⟩, ⟨hs.tail, by omega⟩, by omega⟩
      · have hnm := hno i k x y hxi hyk e
        refine s_seq ?_
        refine s_reg ?_
        refine l_q (by first | exact y_lss rfl rfl (decide_eq_true (by omega)) | exact y_lss rfl rfl (decide_eq_false (by omega)) | exact y_lss rfl rfl rfl) ?_
        refine l_end ?_
        refine e_then ?_
        refine s_seq ?_
        refine cond_t rfl ?_
        refine s_skip ?_
        refine e_then ?_
        refine s_seq ?_
        refine s_block ?_
        refine s_seq ?_
        refine s_reg ?_
        refine l_q (by exact y_mv_int rfl) ?_
        refine l_q (by exact y_indexT (off := 3 * pre2.length) rfl rfl (by omega) (by omega) hadT (by omega)) ?_
        refine l_q (by exact y_ldA (vs := [I64 y.from_, I64 y.at_, I64 y.long]) hs rfl (tflat_room _ _ _ _) (tflat_take _ _ _ _)) ?_
        refine l_w (w_alloc (cs := [_, _, _]) hs rfl (fun b11 w hs hb11 => ?_))
        refine l_q (by exact y_as_int rfl) ?_
        refine l_w (w_storeA (vs := [_, _, _]) hs rfl rfl rfl rfl rfl (fun w hs => ?_))
        refine l_end ?_
        refine e_then ?_
        refine s_seq ?_
        refine s_reg ?_
        refine l_q (by exact y_mv_int rfl) ?_
        refine l_q (by exact y_mv_int rfl) ?_
        refine l_q (by first | exact y_neq rfl rfl (decide_eq_true (by omega)) | exact y_neq rfl rfl (decide_eq_false (by omega)) | exact y_neq rfl rfl rfl) ?_
        refine l_q (by exact y_mv_bool rfl) ?_
        first | refine l_gskip rfl rfl ?_ | refine l_gskip_u rfl rfl ?_ | refine l_gdo rfl rfl (by exact y_mv_slice rfl) ?_
        first | refine l_gskip rfl rfl ?_ | refine l_gskip_u rfl rfl ?_ | refine l_gdo rfl rfl (by exact y_ldA (vs := [I64 x.from_, I64 x.at_, I64 x.long]) hs rfl rfl rfl) ?_
        first | refine l_gskip rfl rfl ?_ | refine l_gskip_u rfl rfl ?_ | refine l_gdo rfl rfl (by exact y_ldA (vs := [I64 y.from_, I64 y.at_, I64 y.long]) hs rfl rfl rfl) ?_
        first | refine l_gskip rfl rfl ?_ | refine l_gskip_u rfl rfl ?_ | (refine l_gw rfl rfl (w_call rfl (meet_c hok hp hx hy hnm (inl3 hin) hs) rfl (fun _ w h => ?_)); obtain ⟨rfl, hs⟩ := h)
        refine l_q (by first | exact y_pk_bt rfl rfl | exact y_pk_bf rfl rfl) ?_
        refine l_end ?_
        refine e_then ?_
        refine cond_f rfl ?_
        refine s_skip ?_
        refine e_blk ?_
        refine e_then ?_
        refine s_reg ?_
        refine l_q (by first | exact y_addn rfl rfl (by omega) | exact y_add rfl rfl rfl) ?_
        refine l_q (by exact y_mv_int rfl) ?_
        refine l_end ?_
        refine e_then ?_
        exact ⟨k + 1, _, nx ⟨rfl, rfl, rfl, rfl, rfl, rfl, rfl, rfl, rfl, rfl, rfl, trivial⟩, ⟨hs.tail, by omega⟩, by omega⟩
    · refine s_seq ?_
      refine s_reg ?_
      refine l_q (by first | exact y_lss rfl rfl (decide_eq_true (by omega)) | exact y_lss rfl rfl (decide_eq_false (by omega)) | exact y_lss rfl rfl rfl) ?_
      refine l_end ?_
      refine e_then ?_
      refine s_seq ?_
      refine cond_f rfl ?_
      refine s_exit ?_
      refine e_then_x ?_
      refine e_then_x ?_
      refine e_blk_x ?_
      refine e_blk ?_
      refine e_then ?_
      refine s_reg ?_
      refine l_q (by first | exact y_addn rfl rfl (by omega) | exact y_add rfl rfl rfl) ?_
      refine l_q (by exact y_mv_int rfl) ?_
      refine l_end ?_
      refine e_then ?_
      exact ⟨i + 1, _, nx ⟨rfl, rfl, rfl, rfl, rfl, rfl, trivial⟩, ⟨hs.tail, by omega⟩, by omega⟩
  · refine s_seq ?_
    refine s_reg ?_
    refine l_q (by first | exact y_lss rfl rfl (decide_eq_true (by omega)) | exact y_lss rfl rfl (decide_eq_false (by omega)) | exact y_lss rfl rfl rfl) ?_
    refine l_end ?_
    refine e_then ?_
    refine s_seq ?_
    refine cond_f rfl ?_
    refine s_exit ?_
    refine e_then_x ?_
    refine e_then_x ?_
    refine e_blk_x ?_
    refine e_then ?_
    refine s_seq ?_
    refine s_reg ?_
    refine l_q (by exact y_mv_slice rfl) ?_
    refine l_q (by exact y_as_slice rfl) ?_
    refine l_q (by exact y_as_int rfl) ?_
    refine l_end ?_
    refine e_then ?_
    refine s_ret ?_
    have hi : i = l.length := by omega
    rw [hi, bt_full] at hs
    exact ret_ [.slice _ _ _, .int .i64 _] rfl ⟨rfl, rfl, trivial⟩ ⟨b20, rfl, hs⟩
end Go.Proofs.Ytjjokonehoipbaa
