/- Facts on the functions and types of this seat that its laws are proved from: contracts under the premises that each theorem names. -/
import Derived.Test.YtjjokonehoipbaaUta
set_option linter.unusedSimpArgs false
set_option linter.unusedVariables false
set_option linter.unnecessarySimpa false
namespace Go.Proofs.Ytjjokonehoipbaa
open Go Go.RowKit PB
set_option linter.unusedVariables false


theorem mem_getD {ps : List Int} {i : Nat} (h : i < ps.length) : ps.getD i 0 ∈ ps := by simp [h]

theorem max_c {W0 w : World} {R : List (Nat × MObj)} {s : OS} {ps : List Int} (hok : s.ok (ps.map I64) ps.length 1) (h1 : 1 ≤ ps.length) (h2 : ps.length ≤ 1000) (hs : St W0 w (s.blk (ps.map I64) 3 ++ R)) :
    FnC Try.prog 7 [.slice s.ad ps.length s.cap] w (fun v w' => (∃ m, v = I64 m ∧ m ∈ ps ∧ ∀ x ∈ ps, x ≤ m) ∧ St W0 w' (s.blk (ps.map I64) 3 ++ R)) := by
  obtain ⟨g, hg, had, hcell⟩ := own_int hok (show 0 < ps.length by omega)
  have h0 : (ps.map I64 ++ s.sp)[0]? = some (I64 (ps.getD 0 0)) := hcell
  haveI := inl_blk hg (ps.map I64) 3
  clear hcell
  refine FnC.enter Try.func7 rfl Try.ntmps7 rfl fun ρ => ?_
  refine s_seq ?_
  refine s_reg ?_
  refine l_q (by exact y_as_int rfl) ?_
  refine l_end ?_
  refine e_then ?_
  refine s_seq ?_
  refine s_seq ?_
  refine s_reg ?_
  refine l_q (by exact y_mv_slice rfl) ?_
  refine l_q (by exact y_len_slice rfl) ?_
  refine l_q (by first | exact y_lss rfl rfl (decide_eq_true (by omega)) | exact y_lss rfl rfl (decide_eq_false (by omega)) | exact y_lss rfl rfl rfl) ?_
  refine l_end ?_
  refine e_then ?_
  refine cond_f rfl ?_
  refine s_skip ?_
  refine e_then ?_
  refine s_seq ?_
  refine s_reg ?_
  refine l_q (by exact y_mv_slice rfl) ?_
  refine l_q (by exact y_indexT (off := 0) rfl rfl (by omega) (by omega) had (by omega)) ?_
  refine l_q (by exact y_ld (v := .int .i64 (ps.getD 0 0)) hs rfl h0) ?_
  refine l_q (by exact y_as_int rfl) ?_
  refine l_end ?_
  refine e_then ?_
  refine s_seq ?_
  refine s_seq ?_
  refine s_reg ?_
  refine l_q (by exact y_as_int rfl) ?_
  refine l_end ?_
  refine e_then ?_
  refine s_block ?_
  refine loop_st (X := Nat × Int) (fun x => [(0, .slice s.ad ps.length s.cap), (3, I64 x.2), (4, I64 x.1)])
    (fun x w => St W0 w (s.blk (ps.map I64) 3 ++ R) ∧ 1 ≤ x.1 ∧ x.1 ≤ ps.length ∧ x.2 ∈ ps ∧ ∀ j, j < x.1 → ps.getD j 0 ≤ x.2) (fun x => ps.length - x.1) (1, ps.getD 0 0) ⟨rfl, rfl, rfl, trivial⟩ ⟨hs, by dsimp only; omega, by dsimp only; omega, mem_getD (by omega), fun j hj => by dsimp only at hj ⊢; rw [show j = 0 by omega]; omega⟩ ?_
  clear hs
  rintro ⟨i, m⟩ ρ w ⟨hs, i1, i2, hm, hj⟩
  dsimp only at *
  by_cases c : i < ps.length
  · obtain ⟨_, _, _, hcell⟩ := own_int hok c
    have hmi := mem_getD c
    obtain ⟨mm, hmm⟩ : ∃ mm, (if m < ps.getD i 0 then ps.getD i 0 else m) = mm := ⟨_, rfl⟩
    refine s_seq ?_
    refine s_seq ?_
    refine s_reg ?_
    refine l_q (by exact y_mv_int rfl) ?_
    refine l_q (by exact y_mv_slice rfl) ?_
    refine l_q (by exact y_len_slice rfl) ?_
    refine l_q (by first | exact y_lss rfl rfl (decide_eq_true (by omega)) | exact y_lss rfl rfl (decide_eq_false (by omega)) | exact y_lss rfl rfl rfl) ?_
    refine l_end ?_
    refine e_then ?_
    refine cond_t rfl ?_
    refine s_skip ?_
    refine e_then ?_
    refine s_seq ?_
    refine s_block ?_
    refine s_reg ?_
    refine l_q (by exact y_mv_int rfl) ?_
    refine l_q (by exact y_mv_slice rfl) ?_
    refine l_q (by exact y_mv_int rfl) ?_
    refine l_q (by exact y_indexS rfl rfl (by omega) (by omega) had) ?_
    refine l_q (by exact y_ld hs rfl hcell) ?_
    refine l_q (by exact y_max (v := .int .i64 mm) rfl rfl (by rw [hmm])) ?_
    refine l_q (by exact y_as_int rfl) ?_
    refine l_end ?_
    refine e_blk ?_
    refine e_then ?_
    refine s_reg ?_
    refine l_q (by exact y_mv_int rfl) ?_
    refine l_q (by first | exact y_addn rfl rfl (by omega) | exact y_add rfl rfl rfl) ?_
    refine l_q (by exact y_as_int rfl) ?_
    refine l_end ?_
    refine e_then ?_
    refine ⟨(i + 1, mm), _, nx ⟨rfl, rfl, rfl, trivial⟩, ⟨hs, by dsimp only; omega, by dsimp only; omega, ?_, fun j h => ?_⟩, by dsimp only; omega⟩
    · dsimp only; rw [← hmm]; split <;> assumption
    · dsimp only at h ⊢
      by_cases e : j = i
      · rw [e]; split at hmm <;> omega
      · have := hj j (by omega)
        split at hmm <;> omega
  · refine s_seq ?_
    refine s_seq ?_
    refine s_reg ?_
    refine l_q (by exact y_mv_int rfl) ?_
    refine l_q (by exact y_mv_slice rfl) ?_
    refine l_q (by exact y_len_slice rfl) ?_
    refine l_q (by first | exact y_lss rfl rfl (decide_eq_true (by omega)) | exact y_lss rfl rfl (decide_eq_false (by omega)) | exact y_lss rfl rfl rfl) ?_
    refine l_end ?_
    refine e_then ?_
    refine cond_f rfl ?_
    refine s_exit ?_
    refine e_then_x ?_
    refine e_then_x ?_
    refine e_blk_x ?_
    refine e_then ?_
    refine s_seq ?_
    refine s_reg ?_
    refine l_q (by exact y_mv_int rfl) ?_
    refine l_q (by exact y_as_int rfl) ?_
    refine l_end ?_
    refine e_then ?_
    refine s_ret ?_
    refine ret_ [.int .i64 _] rfl ⟨rfl, trivial⟩ ⟨⟨m, rfl, hm, fun x hx => ?_⟩, hs⟩
    obtain ⟨j, hjl, rfl⟩ := List.getElem_of_mem hx
    have := hj j (by omega)
    simpa [hjl] using this

theorem min_c {W0 w : World} {R : List (Nat × MObj)} {s : OS} {ps : List Int} (hok : s.ok (ps.map I64) ps.length 1) (h1 : 1 ≤ ps.length) (h2 : ps.length ≤ 1000) (hs : St W0 w (s.blk (ps.map I64) 3 ++ R)) :
    FnC Try.prog 8 [.slice s.ad ps.length s.cap] w (fun v w' => (∃ m, v = I64 m ∧ m ∈ ps ∧ ∀ x ∈ ps, m ≤ x) ∧ St W0 w' (s.blk (ps.map I64) 3 ++ R)) := by
  obtain ⟨g, hg, had, hcell⟩ := own_int hok (show 0 < ps.length by omega)
  have h0 : (ps.map I64 ++ s.sp)[0]? = some (I64 (ps.getD 0 0)) := hcell
  haveI := inl_blk hg (ps.map I64) 3
  clear hcell
  refine FnC.enter Try.func8 rfl Try.ntmps8 rfl fun ρ => ?_
  refine s_seq ?_
  refine s_reg ?_
  refine l_q (by exact y_as_int rfl) ?_
  refine l_end ?_
  refine e_then ?_
  refine s_seq ?_
  refine s_seq ?_
  refine s_reg ?_
  refine l_q (by exact y_mv_slice rfl) ?_
  refine l_q (by exact y_len_slice rfl) ?_
  refine l_q (by first | exact y_lss rfl rfl (decide_eq_true (by omega)) | exact y_lss rfl rfl (decide_eq_false (by omega)) | exact y_lss rfl rfl rfl) ?_
  refine l_end ?_
  refine e_then ?_
  refine cond_f rfl ?_
  refine s_skip ?_
  refine e_then ?_
  refine s_seq ?_
  refine s_reg ?_
  refine l_q (by exact y_mv_slice rfl) ?_
  refine l_q (by exact y_indexT (off := 0) rfl rfl (by omega) (by omega) had (by omega)) ?_
  refine l_q (by exact y_ld (v := .int .i64 (ps.getD 0 0)) hs rfl h0) ?_
  refine l_q (by exact y_as_int rfl) ?_
  refine l_end ?_
  refine e_then ?_
  refine s_seq ?_
  refine s_seq ?_
  refine s_reg ?_
  refine l_q (by exact y_as_int rfl) ?_
  refine l_end ?_
  refine e_then ?_
  refine s_block ?_
  refine loop_st (X := Nat × Int) (fun x => [(0, .slice s.ad ps.length s.cap), (3, I64 x.2), (4, I64 x.1)])
    (fun x w => St W0 w (s.blk (ps.map I64) 3 ++ R) ∧ 1 ≤ x.1 ∧ x.1 ≤ ps.length ∧ x.2 ∈ ps ∧ ∀ j, j < x.1 → x.2 ≤ ps.getD j 0) (fun x => ps.length - x.1) (1, ps.getD 0 0) ⟨rfl, rfl, rfl, trivial⟩ ⟨hs, by dsimp only; omega, by dsimp only; omega, mem_getD (by omega), fun j hj => by dsimp only at hj ⊢; rw [show j = 0 by omega]; omega⟩ ?_
  clear hs
  rintro ⟨i, m⟩ ρ w ⟨hs, i1, i2, hm, hj⟩
  dsimp only at *
  by_cases c : i < ps.length
  · obtain ⟨_, _, _, hcell⟩ := own_int hok c
    have hmi := mem_getD c
    obtain ⟨mm, hmm⟩ : ∃ mm, (if ps.getD i 0 < m then ps.getD i 0 else m) = mm := ⟨_, rfl⟩
    refine s_seq ?_
    refine s_seq ?_
    refine s_reg ?_
    refine l_q (by exact y_mv_int rfl) ?_
    refine l_q (by exact y_mv_slice rfl) ?_
    refine l_q (by exact y_len_slice rfl) ?_
    refine l_q (by first | exact y_lss rfl rfl (decide_eq_true (by omega)) | exact y_lss rfl rfl (decide_eq_false (by omega)) | exact y_lss rfl rfl rfl) ?_
    refine l_end ?_
    refine e_then ?_
    refine cond_t rfl ?_
    refine s_skip ?_
    refine e_then ?_
    refine s_seq ?_
    refine s_block ?_
    refine s_reg ?_
    refine l_q (by exact y_mv_int rfl) ?_
    refine l_q (by exact y_mv_slice rfl) ?_
    refine l_q (by exact y_mv_int rfl) ?_
    refine l_q (by exact y_indexS rfl rfl (by omega) (by omega) had) ?_
    refine l_q (by exact y_ld hs rfl hcell) ?_
    refine l_q (by exact y_min (v := .int .i64 mm) rfl rfl (by rw [hmm])) ?_
    refine l_q (by exact y_as_int rfl) ?_
    refine l_end ?_
    refine e_blk ?_
    refine e_then ?_
    refine s_reg ?_
    refine l_q (by exact y_mv_int rfl) ?_
    refine l_q (by first | exact y_addn rfl rfl (by omega) | exact y_add rfl rfl rfl) ?_
    refine l_q (by exact y_as_int rfl) ?_
    refine l_end ?_
    refine e_then ?_
    refine ⟨(i + 1, mm), _, nx ⟨rfl, rfl, rfl, trivial⟩, ⟨hs, by dsimp only; omega, by dsimp only; omega, ?_, fun j h => ?_⟩, by dsimp only; omega⟩
    · dsimp only; rw [← hmm]; split <;> assumption
    · dsimp only at h ⊢
      by_cases e : j = i
      · rw [e]; split at hmm <;> omega
      · have := hj j (by omega)
        split at hmm <;> omega
  · refine s_seq ?_
    refine s_seq ?_
    refine s_reg ?_
    refine l_q (by exact y_mv_int rfl) ?_
    refine l_q (by exact y_mv_slice rfl) ?_
    refine l_q (by exact y_len_slice rfl) ?_
    refine l_q (by first | exact y_lss rfl rfl (decide_eq_true (by omega)) | exact y_lss rfl rfl (decide_eq_false (by omega)) | exact y_lss rfl rfl rfl) ?_
    refine l_end ?_
    refine e_then ?_
    refine cond_f rfl ?_
    refine s_exit ?_
    refine e_then_x ?_
    refine e_then_x ?_
    refine e_blk_x ?_
    refine e_then ?_
    refine s_seq ?_
    refine s_reg ?_
    refine l_q (by exact y_mv_int rfl) ?_
    refine l_q (by exact y_as_int rfl) ?_
    refine l_end ?_
    refine e_then ?_
    refine s_ret ?_
    refine ret_ [.int .i64 _] rfl ⟨rfl, trivial⟩ ⟨⟨m, rfl, hm, fun x hx => ?_⟩, hs⟩
    obtain ⟨j, hjl, rfl⟩ := List.getElem_of_mem hx
    have := hj j (by omega)
    simpa [hjl] using this
end Go.Proofs.Ytjjokonehoipbaa
