/- Facts on the functions and types of this seat that its laws are proved from: contracts under the premises that each theorem names. -/
import Derived.Test.YtohomijijipfdaaFtk
set_option linter.unusedSimpArgs false
set_option linter.unusedVariables false
set_option linter.unnecessarySimpa false
namespace Go.Proofs.Ytohomijijipfdaa
open Go Go.RowKit PB
set_option linter.unusedVariables false

theorem new_n {W0 w : World} {R : List (Nat × MObj)} {s : OS} {ws : List Int} {n : Nat} {Q : Int} (hn : ws.length = n) (hok : s.ok (ws.map I64) n 1) (n1 : 1 ≤ n) (n2 : n ≤ 8) (hw : ∀ w ∈ ws, 1 ≤ w ∧ w ≤ 100) (q1 : 1 ≤ Q) (q2 : Q ≤ 1500) (hs : St W0 w (s.blk (ws.map I64) 3 ++ R)) :
    FnC Try.prog 8 [.slice s.ad n s.cap, I64 Q] w (fun v w' => ∃ x : QI, v = .tuple #[.pointer (some ⟨x.qb, 0, none⟩), I64 0] ∧ x.ok ∧ x.abs = Ab.new ws Q ∧ St W0 w' (x.L (s.blk (ws.map I64) 3 ++ R))) := by
  subst hn
  exact new_c hok n1 n2 hw q1 q2 hs

def ones (m i : Nat) : List Value := List.replicate i (I64 1) ++ List.replicate (m - i) (I64 0)
theorem ones_set {m i : Nat} (h : i < m) : (ones m i).set i (I64 1) = ones m (i + 1) := by
  unfold ones
  rw [show m - i = (m - (i + 1)) + 1 by omega, List.replicate_succ, List.set_append_right _ _ (by simp)]
  simp [List.replicate_succ']
theorem ones_len {m i : Nat} (h : i ≤ m) : (ones m i).length = m := by simp [ones]; omega
theorem ones_full (m : Nat) : ones m m = (List.replicate m 1).map I64 := by simp [ones]


theorem turns_walk (W : World) (a0 a1 a2 : Int) : FnC Try.prog 5 [I64 a0, I64 a1, I64 a2] W (fun v w' => v = .bool true ∧ St W w' []) := by
  have hs := St.start W
  obtain ⟨m', hm, hm2⟩ := nat_mod a0 (n := 8) (by omega)
  obtain ⟨Q', hq, hq2⟩ := nat_mod a1 (n := 200) (by omega)
  obtain ⟨r', hr, hr2⟩ := nat_mod a2 (n := 10) (by omega)
  obtain ⟨m, hmm⟩ : ∃ m, m = m' + 1 := ⟨_, rfl⟩
  obtain ⟨Q, hQQ⟩ : ∃ m, m = Q' + 1 := ⟨_, rfl⟩
  obtain ⟨r, hrr⟩ : ∃ m, m = r' + 1 := ⟨_, rfl⟩
  have m1 : 1 ≤ m := by omega
  have m2 : m ≤ 8 := by omega
  have hw1 : ∀ w ∈ List.replicate m (1 : Int), 1 ≤ w ∧ w ≤ 100 := by
    intro w hw
    rw [List.eq_of_mem_replicate hw]; omega
  obtain ⟨N, hNe⟩ : ∃ N, N = m * r := ⟨_, rfl⟩
  have hN : (m : Int) * r = N := by rw [hNe]; exact (Int.natCast_mul m r).symm
  have hN80 : N ≤ 80 := by rw [hNe]; exact Nat.mul_le_mul m2 (show r ≤ 10 by omega)
  have hr10 : r ≤ 10 := by omega
  refine FnC.enter Try.func5 rfl Try.ntmps5 rfl fun ρ => ?_
  refine s_seq ?_
  refine s_reg ?_
  refine l_q (by exact y_as_bool rfl) ?_
  refine l_end ?_
  refine e_then ?_
  refine s_seq ?_
  refine s_seq ?_
  refine s_reg ?_
  refine l_w (w_call rfl (fact_c hs) rfl (fun _ w h => ?_))
  obtain ⟨rfl, hs⟩ := h
  refine l_q (by first | exact y_not_t rfl | exact y_not_f rfl | exact y_notd rfl) ?_
  refine l_end ?_
  refine e_then ?_
  refine cond_f rfl ?_
  refine s_skip ?_
  refine e_then ?_
  refine s_seq ?_
  refine s_reg ?_
  refine l_q (by exact y_mv_int rfl) ?_
  refine l_w (w_call rfl (rest_k hm _ (by omega) (by omega)) rfl (fun _ w h => ?_))
  obtain ⟨rfl, rfl⟩ := h
  refine l_q (by exact y_toI (b := m) (y_addn rfl rfl (by omega)) (by omega)) ?_
  refine l_q (by exact y_mv_int rfl) ?_
  refine l_w (w_call rfl (rest_k hq _ (by omega) (by omega)) rfl (fun _ w h => ?_))
  obtain ⟨rfl, rfl⟩ := h
  refine l_q (by exact y_toI (b := Q) (y_addn rfl rfl (by omega)) (by omega)) ?_
  refine l_q (by exact y_mv_int rfl) ?_
  refine l_w (w_call rfl (rest_k hr _ (by omega) (by omega)) rfl (fun _ w h => ?_))
  obtain ⟨rfl, rfl⟩ := h
  refine l_q (by exact y_toI (b := r) (y_addn rfl rfl (by omega)) (by omega)) ?_
  refine l_q (by exact y_as_int rfl) ?_
  refine l_q (by exact y_as_int rfl) ?_
  refine l_q (by exact y_as_int rfl) ?_
  refine l_end ?_
  refine e_then ?_
  refine s_seq ?_
  refine s_reg ?_
  refine l_q (by exact y_mv_int rfl) ?_
  refine l_w (w_makeSlice (m := m) hs rfl rfl (by omega) (by omega) (fun b28 w hs hb28 => ?_))
  refine l_q (by exact y_as_slice rfl) ?_
  refine l_end ?_
  refine e_then ?_
  refine s_seq ?_
  refine s_seq ?_
  refine s_reg ?_
  refine l_q (by exact y_mv_slice rfl) ?_
  refine l_q (by exact y_len_slice rfl) ?_
  refine l_q (by exact y_mv_int rfl) ?_
  refine l_end ?_
  refine e_then ?_
  refine s_block ?_
  have e0 : zerosL (Value.int .i64 0) (m * 1) = ones m 0 := by rw [Nat.mul_one, zerosL_one rfl]; rfl
  rw [e0] at hs
  refine loop_st (X := Nat) (fun i => [(0, I64 m), (1, I64 Q), (2, I64 r), (7, .slice (some ⟨b28, 0, none⟩) m m), (30, I64 m), (31, I64 i)])
    (fun i w => St W w [(b28, .cells (ones m i) 3)] ∧ i ≤ m) (fun i => m - i) 0 ⟨rfl, rfl, rfl, rfl, rfl, rfl, trivial⟩ ⟨hs, by omega⟩ ?_
  clear hs e0
  rintro i ρ w ⟨hs, i1⟩
  by_cases c : i < m
  · refine s_seq ?_
    refine s_reg ?_
    refine l_q (by first | exact y_lss rfl rfl (decide_eq_true (by omega)) | exact y_lss rfl rfl (decide_eq_false (by omega)) | exact y_lss rfl rfl rfl) ?_
    refine l_end ?_
    refine e_then ?_
    refine s_seq ?_
    refine cond_t rfl ?_
    refine s_skip ?_
    refine e_then ?_
    refine s_seq ?_
    refine s_block ?_
    refine s_seq ?_
    refine s_reg ?_
    refine l_q (by exact y_mv_int rfl) ?_
    refine l_q (by exact y_as_int rfl) ?_
    refine l_end ?_
    refine e_then ?_
    refine s_reg ?_
    refine l_q (by exact y_mv_slice rfl) ?_
    refine l_q (by exact y_mv_int rfl) ?_
    refine l_q (by exact y_indexT (off := i) rfl rfl (by omega) (by omega) rfl (by omega)) ?_
    refine l_w (w_store (v := I64 1) (off := i) hs rfl rfl rfl (by rw [Nat.blt_eq, ones_len (by omega)]; omega) (fun w hs => ?_))
    refine l_end ?_
    refine e_blk ?_
    refine e_then ?_
    refine s_reg ?_
    refine l_q (by first | exact y_addn rfl rfl (by omega) | exact y_add rfl rfl rfl) ?_
    refine l_q (by exact y_mv_int rfl) ?_
    refine l_end ?_
    refine e_then ?_
    rw [ones_set c] at hs
    exact ⟨i + 1, _, nx ⟨rfl, rfl, rfl, rfl, rfl, rfl, trivial⟩, ⟨hs, by omega⟩, by omega⟩
  · have hi : m = i := by omega
    subst hi
    have hsok : (⟨some b28, m, []⟩ : OS).ok ((List.replicate m 1).map I64) m 1 := ok_lit (by simp)
    rw [ones_full] at hs
    have hs : St W w ((⟨some b28, m, []⟩ : OS).blk ((List.replicate m 1).map I64) 3 ++ []) := by simpa [OS.blk] using hs
    refine s_seq ?_
    refine s_reg ?_
    refine l_q (by first | exact y_lss rfl rfl (decide_eq_true (by omega)) | exact y_lss rfl rfl (decide_eq_false (by omega)) | exact y_lss rfl rfl rfl) ?_
    refine l_end ?_
    refine e_then ?_
    refine s_seq ?_
    refine cond_f rfl ?_
    refine s_exit ?_
    refine e_then_x ?_
    refine e_then_x ?_
    refine e_blk_x ?_
    refine e_then ?_
    refine s_seq ?_
    refine s_reg ?_
    refine l_q (by exact y_mv_slice rfl) ?_
    refine l_q (by exact y_mv_int rfl) ?_
    refine l_w (w_call rfl (new_n (s := ⟨some b28, m, []⟩) (ws := List.replicate m 1) (n := m) (by simp) hsok m1 m2 hw1 (by omega) (by omega) hs) rfl (fun _ w h => ?_))
    obtain ⟨x, rfl, hok, habs, hs⟩ := h
    refine l_q (by exact y_mv_tuple rfl) ?_
    refine l_q (by exact y_extract rfl rfl) ?_
    refine l_q (by exact y_extract rfl rfl) ?_
    refine l_q (by exact y_as_ptr rfl) ?_
    refine l_q (by exact y_as_int rfl) ?_
    refine l_end ?_
    refine e_then ?_
    refine s_seq ?_
    refine s_seq ?_
    refine s_reg ?_
    refine l_q (by exact y_mv_int rfl) ?_
    refine l_q (by first | exact y_neq rfl rfl (decide_eq_true (by omega)) | exact y_neq rfl rfl (decide_eq_false (by omega)) | exact y_neq rfl rfl rfl) ?_
    refine l_q (by exact y_mv_bool rfl) ?_
    first | refine l_gskip rfl rfl ?_ | refine l_gskip_u rfl rfl ?_ | refine l_gdo rfl rfl (by exact y_mv_ptr rfl) ?_
    first | refine l_gskip rfl rfl ?_ | refine l_gskip_u rfl rfl ?_ | refine l_gdo rfl rfl (by first | exact y_ptr_nn rfl rfl | exact y_ptr_eql rfl rfl rfl) ?_
    refine l_q (by first | exact y_pk_bt rfl rfl | exact y_pk_bf rfl rfl) ?_
    refine l_end ?_
    refine e_then ?_
    refine cond_f rfl ?_
    refine s_skip ?_
    refine e_then ?_
    refine s_seq ?_
    refine s_seq ?_
    refine s_reg ?_
    refine l_q (by exact y_as_int rfl) ?_
    refine l_end ?_
    refine e_then ?_
    refine s_block ?_
    have hwf0 := wf_new (ws := List.replicate m 1) (Q := Q) (by simp; omega) (by simp; omega) hw1 (by omega) (by omega)
    rw [putsT_new] at habs hwf0
    generalize (⟨some b28, m, []⟩ : OS).blk ((List.replicate m 1).map I64) 3 ++ [] = R at hs
    obtain ⟨b, hb⟩ : ∃ b, b = x.qb := ⟨_, rfl⟩
    rw [← hb]
    refine loop_st (X := Nat × QI) (fun y => [(0, I64 m), (1, I64 Q), (2, I64 r), (9, .pointer (some ⟨b, 0, none⟩)), (11, I64 y.1)])
      (fun y w => St W w (y.2.L R) ∧ y.2.qb = b ∧ y.2.ok ∧ y.2.abs = putsT m Q y.1 ∧ y.2.abs.wf ∧ y.1 ≤ N) (fun y => N - y.1) (0, x) ⟨rfl, rfl, rfl, rfl, rfl, trivial⟩ ⟨hs, hb.symm, hok, habs, by rw [habs]; exact hwf0, by dsimp only; omega⟩ ?_
    clear hs hok habs hb hwf0
    rintro ⟨k, x⟩ ρ w ⟨hs, hqb, hok, habs, hwf, i1⟩
    dsimp only at *
    by_cases c : k < N
    · have hkm := Nat.mod_lt k m1
      have hlt := cnt_here m1 (k := k) (r := r) (by omega)
      have hget : x.abs.qs[k % m]? = some ⟨1, 0, List.replicate (cnt m k (k % m)) (zstr Q)⟩ := by rw [habs]; exact evenQ_get hkm
      have hl : (⟨1, 0, List.replicate (cnt m k (k % m)) (zstr Q)⟩ : Q3).ws.length < 64 := by simp; omega
      refine s_seq ?_
      refine s_seq ?_
      refine s_reg ?_
      refine l_q (by exact y_mv_int rfl) ?_
      refine l_q (by exact y_mv_int rfl) ?_
      refine l_q (by exact y_mv_int rfl) ?_
      refine l_q (by exact y_toI (b := N) (y_muln rfl rfl (by omega)) hN) ?_
      refine l_q (by first | exact y_lss rfl rfl (decide_eq_true (by omega)) | exact y_lss rfl rfl (decide_eq_false (by omega)) | exact y_lss rfl rfl rfl) ?_
      refine l_end ?_
      refine e_then ?_
      refine cond_t rfl ?_
      refine s_skip ?_
      refine e_then ?_
      refine s_seq ?_
      refine s_block ?_
      refine s_seq ?_
      refine r_draw (.q 0 (.q 1 (.q 2 (.q 3 (.q 4 (.w 5 (.w 6 (.w 7 (.q 8 (.nil)))))))))) 8 (fun w => True) mixed (by kernel_rfl) ?_
      have hs := hs.drew
      refine c_q rfl (by first | exact hs | exact hs.subl | exact hs.cellAt rfl | trivial) (fun _ _ _ h => h) (fun w hs => by exact y_mv_ptr rfl) ?_
      refine c_q rfl (by first | exact hs | exact hs.subl | exact hs.cellAt rfl | trivial) (fun _ _ _ h => h) (fun w hs => by exact y_mv_int rfl) ?_
      refine c_q rfl (by first | exact hs | exact hs.subl | exact hs.cellAt rfl | trivial) (fun _ _ _ h => h) (fun w hs => by exact y_mv_int rfl) ?_
      refine c_q rfl (by first | exact hs | exact hs.subl | exact hs.cellAt rfl | trivial) (fun _ _ _ h => h) (fun w hs => by exact y_toI (b := ((k % m : Nat) : Int)) (y_remn rfl rfl (by omega)) (Int.natCast_emod k m).symm) ?_
      refine c_q rfl (by first | exact hs | exact hs.subl | exact hs.cellAt rfl | trivial) (fun _ _ _ h => h) (fun w hs => by exact y_mv_int rfl) ?_
      refine c_w rfl (w_makeSlice (m := Q) hs rfl rfl (by omega) (by omega) (fun b62 w hs hb62 => ?_))
      refine ⟨fun _ => by first | exact hs | exact hs.subl | exact hs.cellAt rfl | trivial, ?_⟩
      refine c_w rfl (ow_y (by exact y_b2z hs rfl rfl) ?_)
      refine ⟨fun _ => by first | exact hs | exact hs.subl | exact hs.cellAt rfl | trivial, ?_⟩
      refine c_w rfl (w_call rfl (put_b hqb hok hget (by rw [zstr_size]; omega) hl hs.tail) rfl (fun _ w h => ?_))
      obtain ⟨rfl, x', hqb', hok', habs', hs⟩ := h
      refine ⟨fun _ => by first | exact hs | exact hs.subl | exact hs.cellAt rfl | trivial, ?_⟩
      refine c_q rfl (by first | exact hs | exact hs.subl | exact hs.cellAt rfl | trivial) (fun _ _ _ h => h) (fun w hs => by first | exact y_neq rfl rfl (decide_eq_true (by omega)) | exact y_neq rfl rfl (decide_eq_false (by omega)) | exact y_neq rfl rfl rfl) ?_
      refine c_end ?_
      refine e_then ?_
      refine cond_f rfl ?_
      refine s_skip ?_
      refine e_blk ?_
      refine e_then ?_
      refine s_reg ?_
      refine l_q (by exact y_mv_int rfl) ?_
      refine l_q (by first | exact y_addn rfl rfl (by omega) | exact y_add rfl rfl rfl) ?_
      refine l_q (by exact y_as_int rfl) ?_
      refine l_end ?_
      refine e_then ?_
      have hw' := wf_put hwf hget (s := zstr Q) (by rw [zstr_size]; omega) hl
      exact ⟨(k + 1, x'), _, nx ⟨rfl, rfl, rfl, rfl, rfl, trivial⟩, ⟨hs, hqb', hok', by dsimp only; rw [habs', habs, putsT_put m1], by dsimp only; rw [habs']; exact hw', by dsimp only; omega⟩, by dsimp only; omega⟩
    · have hi : N = k := by omega
      subst hi
      refine s_seq ?_
      refine s_seq ?_
      refine s_reg ?_
      refine l_q (by exact y_mv_int rfl) ?_
      refine l_q (by exact y_mv_int rfl) ?_
      refine l_q (by exact y_mv_int rfl) ?_
      refine l_q (by exact y_toI (b := N) (y_muln rfl rfl (by omega)) hN) ?_
      refine l_q (by first | exact y_lss rfl rfl (decide_eq_true (by omega)) | exact y_lss rfl rfl (decide_eq_false (by omega)) | exact y_lss rfl rfl rfl) ?_
      refine l_end ?_
      refine e_then ?_
      refine cond_f rfl ?_
      refine s_exit ?_
      refine e_then_x ?_
      refine e_then_x ?_
      refine e_blk_x ?_
      refine e_then ?_
      refine s_seq ?_
      refine s_seq ?_
      refine s_reg ?_
      refine l_q (by exact y_as_int rfl) ?_
      refine l_end ?_
      refine e_then ?_
      refine s_block ?_
      refine loop_st (X := Nat × QI) (fun y => [(0, I64 m), (2, I64 r), (9, .pointer (some ⟨b, 0, none⟩)), (12, I64 y.1)])
        (fun y w => St W w (y.2.L R) ∧ y.2.qb = b ∧ y.2.ok ∧ TurnSt m r Q y.1 y.2.abs ∧ y.2.abs.wf ∧ y.1 ≤ N) (fun y => N - y.1) (0, x) ⟨rfl, rfl, rfl, rfl, trivial⟩ ⟨hs, hqb, hok, by dsimp only; rw [habs, hNe, takesT_0 m1]; exact .fresh (by rw [Nat.zero_mod]), hwf, by dsimp only; omega⟩ ?_
      clear hs hok habs hqb hwf
      rintro ⟨k, x⟩ ρ w ⟨hs, hqb, hok, hts, hwf, i1⟩
      dsimp only at *
      by_cases c : k < N
      · obtain ⟨n, a', htk, hts'⟩ := turn_take m1 (by omega) (by omega) hts
        refine s_seq ?_
        refine s_seq ?_
        refine s_reg ?_
        refine l_q (by exact y_mv_int rfl) ?_
        refine l_q (by exact y_mv_int rfl) ?_
        refine l_q (by exact y_mv_int rfl) ?_
        refine l_q (by exact y_toI (b := N) (y_muln rfl rfl (by omega)) hN) ?_
        refine l_q (by first | exact y_lss rfl rfl (decide_eq_true (by omega)) | exact y_lss rfl rfl (decide_eq_false (by omega)) | exact y_lss rfl rfl rfl) ?_
        refine l_end ?_
        refine e_then ?_
        refine cond_t rfl ?_
        refine s_skip ?_
        refine e_then ?_
        refine s_seq ?_
        refine s_block ?_
        refine s_seq ?_
        refine s_reg ?_
        refine l_q (by exact y_mv_ptr rfl) ?_
        refine l_w (w_call rfl (take_b hqb hok hwf htk hs) rfl (fun _ w h => ?_))
        obtain ⟨rfl, x', hqb', hok', habs', hs⟩ := h
        refine l_q (by exact y_mv_tuple rfl) ?_
        refine l_q (by exact y_extract rfl rfl) ?_
        refine l_q (by exact y_extract rfl rfl) ?_
        refine l_q (by exact y_extract rfl rfl) ?_
        refine l_q (by exact y_as_int rfl) ?_
        refine l_q (by exact y_as_str rfl) ?_
        refine l_q (by exact y_as_bool rfl) ?_
        refine l_end ?_
        refine e_then ?_
        refine s_seq ?_
        refine s_reg ?_
        refine l_q (by exact y_mv_bool rfl) ?_
        refine l_q (by first | exact y_not_t rfl | exact y_not_f rfl | exact y_notd rfl) ?_
        refine l_q (by exact y_mv_bool rfl) ?_
        first | refine l_gskip rfl rfl ?_ | refine l_gskip_u rfl rfl ?_ | refine l_gdo rfl rfl (by exact y_mv_int rfl) ?_
        first | refine l_gskip rfl rfl ?_ | refine l_gskip_u rfl rfl ?_ | refine l_gdo rfl rfl (by exact y_mv_int rfl) ?_
        first | refine l_gskip rfl rfl ?_ | refine l_gskip_u rfl rfl ?_ | refine l_gdo rfl rfl (by exact y_mv_int rfl) ?_
        first | refine l_gskip rfl rfl ?_ | refine l_gskip_u rfl rfl ?_ | refine l_gdo rfl rfl (by exact y_toI (b := ((k % m : Nat) : Int)) (y_remn rfl rfl (by omega)) (Int.natCast_emod k m).symm) ?_
        first | refine l_gskip rfl rfl ?_ | refine l_gskip_u rfl rfl ?_ | refine l_gdo rfl rfl (by first | exact y_neq rfl rfl (decide_eq_true (by omega)) | exact y_neq rfl rfl (decide_eq_false (by omega)) | exact y_neq rfl rfl rfl) ?_
        refine l_q (by first | exact y_pk_bt rfl rfl | exact y_pk_bf rfl rfl) ?_
        refine l_end ?_
        refine e_then ?_
        refine cond_f rfl ?_
        refine s_skip ?_
        refine e_blk ?_
        refine e_then ?_
        refine s_reg ?_
        refine l_q (by exact y_mv_int rfl) ?_
        refine l_q (by first | exact y_addn rfl rfl (by omega) | exact y_add rfl rfl rfl) ?_
        refine l_q (by exact y_as_int rfl) ?_
        refine l_end ?_
        refine e_then ?_
        exact ⟨(k + 1, x'), _, nx ⟨rfl, rfl, rfl, rfl, trivial⟩, ⟨hs, hqb', hok', by dsimp only; rw [habs']; exact hts', by dsimp only; rw [habs']; exact takeF_wf n hwf htk, by dsimp only; omega⟩, by dsimp only; omega⟩
      · refine s_seq ?_
        refine s_seq ?_
        refine s_reg ?_
        refine l_q (by exact y_mv_int rfl) ?_
        refine l_q (by exact y_mv_int rfl) ?_
        refine l_q (by exact y_mv_int rfl) ?_
        refine l_q (by exact y_toI (b := N) (y_muln rfl rfl (by omega)) hN) ?_
        refine l_q (by first | exact y_lss rfl rfl (decide_eq_true (by omega)) | exact y_lss rfl rfl (decide_eq_false (by omega)) | exact y_lss rfl rfl rfl) ?_
        refine l_end ?_
        refine e_then ?_
        refine cond_f rfl ?_
        refine s_exit ?_
        refine e_then_x ?_
        refine e_then_x ?_
        refine e_blk_x ?_
        refine e_then ?_
        refine s_seq ?_
        refine s_reg ?_
        refine l_q (by exact y_as_bool rfl) ?_
        refine l_end ?_
        refine e_then ?_
        refine s_ret ?_
        exact ret_ [.bool _] rfl ⟨rfl, trivial⟩ ⟨rfl, hs.nil⟩
end Go.Proofs.Ytohomijijipfdaa
