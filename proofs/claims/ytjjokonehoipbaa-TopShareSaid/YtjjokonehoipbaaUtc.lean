/- Facts on the functions and types of this seat that its laws are proved from: contracts under the premises that each theorem names. -/
import Derived.Test.YtjjokonehoipbaaUtb
set_option linter.unusedSimpArgs false
set_option linter.unusedVariables false
set_option linter.unnecessarySimpa false
namespace Go.Proofs.Ytjjokonehoipbaa
open Go Go.RowKit PB
set_option linter.unusedVariables false


theorem equal_c {W0 w : World} {R : List (Nat × MObj)} {s1 s2 : OS} {ns : List Int} (ok1 : s1.ok (ns.map I64) ns.length 1) (ok2 : s2.ok (ns.map I64) ns.length 1) (hl : ns.length ≤ 1000) (hs : St W0 w (s1.blk (ns.map I64) 3 ++ (s2.blk (ns.map I64) 3 ++ R))) :
    FnC Try.prog 5 [.slice s1.ad ns.length s1.cap, .slice s2.ad ns.length s2.cap] w (fun v w' => v = .bool true ∧ St W0 w' (s1.blk (ns.map I64) 3 ++ (s2.blk (ns.map I64) 3 ++ R))) := by
  refine FnC.enter Try.func5 rfl Try.ntmps5 rfl fun ρ => ?_
  refine s_seq ?_
  refine s_reg ?_
  refine l_q (by exact y_as_bool rfl) ?_
  refine l_end ?_
  refine e_then ?_
  refine s_seq ?_
  refine s_seq ?_
  refine s_reg ?_
  refine l_q (by exact y_mv_slice rfl) ?_
  refine l_q (by exact y_len_slice rfl) ?_
  refine l_q (by exact y_mv_slice rfl) ?_
  refine l_q (by exact y_len_slice rfl) ?_
  refine l_q (by first | exact y_neq rfl rfl (decide_eq_true (by omega)) | exact y_neq rfl rfl (decide_eq_false (by omega)) | exact y_neq rfl rfl rfl) ?_
  refine l_end ?_
  refine e_then ?_
  refine cond_f rfl ?_
  refine s_skip ?_
  refine e_then ?_
  refine s_seq ?_
  refine s_seq ?_
  refine s_reg ?_
  refine l_q (by exact y_mv_slice rfl) ?_
  refine l_q (by exact y_len_slice rfl) ?_
  refine l_q (by exact y_mv_int rfl) ?_
  refine l_end ?_
  refine e_then ?_
  refine s_block ?_
  refine loop_st (X := Nat) (fun i => [(0, .slice s1.ad ns.length s1.cap), (1, .slice s2.ad ns.length s2.cap), (12, I64 ns.length), (13, I64 i)])
    (fun i w => St W0 w (s1.blk (ns.map I64) 3 ++ (s2.blk (ns.map I64) 3 ++ R)) ∧ i ≤ ns.length) (fun i => ns.length - i) 0 ⟨rfl, rfl, rfl, rfl, trivial⟩ ⟨hs, by omega⟩ ?_
  clear hs
  rintro i ρ w ⟨hs, i1⟩
  by_cases c : i < ns.length
  · obtain ⟨g1, hg1, had1, hc1⟩ := own_int ok1 c
    obtain ⟨g2, hg2, had2, hc2⟩ := own_int ok2 c
    haveI := inl_blk hg1 (ns.map I64) 3
    haveI := inl_blk hg2 (ns.map I64) 3
    refine s_seq ?_
    refine s_reg ?_
    refine l_q (by first | exact y_lss rfl rfl (decide_eq_true (by omega)) | exact y_lss rfl rfl (decide_eq_false (by omega)) | exact y_lss rfl rfl rfl) ?_
    refine l_end ?_
    refine e_then ?_
    refine s_seq ?_
    refine cond_t rfl ?_
    refine s_skip ?_
    refine e_then ?_
    refine s_seq ?_
    refine s_block ?_
    refine s_seq ?_
    refine s_reg ?_
    refine l_q (by exact y_mv_int rfl) ?_
    refine l_q (by exact y_as_int rfl) ?_
    refine l_end ?_
    refine e_then ?_
    refine s_seq ?_
    refine r_dr (.q 0 (.q 1 (.q 2 (.q 3 (.q 4 (.q 5 (.q 6 (.q 7 (.q 8 (.nil)))))))))) 8 hs mixed (by kernel_rfl) (fun hs => ?_)
    refine c_q rfl (by first | exact hs | exact hs.subl | exact hs.cellAt rfl | trivial) (fun _ _ _ h => h) (fun w hs => by exact y_mv_slice rfl) ?_
    refine c_q rfl (by first | exact hs | exact hs.subl | exact hs.cellAt rfl | trivial) (fun _ _ _ h => h) (fun w hs => by exact y_mv_int rfl) ?_
    refine c_q rfl (by first | exact hs | exact hs.subl | exact hs.cellAt rfl | trivial) (fun _ _ _ h => h) (fun w hs => by exact y_indexS rfl rfl (by omega) (by omega) had1) ?_
    refine c_q rfl (by first | exact hs | exact hs.subl | exact hs.cellAt rfl | trivial) (fun _ _ _ h => h) (fun w hs => by exact y_ld hs rfl hc1) ?_
    refine c_q rfl (by first | exact hs | exact hs.subl | exact hs.cellAt rfl | trivial) (fun _ _ _ h => h) (fun w hs => by exact y_mv_slice rfl) ?_
    refine c_q rfl (by first | exact hs | exact hs.subl | exact hs.cellAt rfl | trivial) (fun _ _ _ h => h) (fun w hs => by exact y_mv_int rfl) ?_
    refine c_q rfl (by first | exact hs | exact hs.subl | exact hs.cellAt rfl | trivial) (fun _ _ _ h => h) (fun w hs => by exact y_indexS rfl rfl (by omega) (by omega) had2) ?_
    refine c_q rfl (by first | exact hs | exact hs.subl | exact hs.cellAt rfl | trivial) (fun _ _ _ h => h) (fun w hs => by exact y_ld hs rfl hc2) ?_
    refine c_q rfl (by first | exact hs | exact hs.subl | exact hs.cellAt rfl | trivial) (fun _ _ _ h => h) (fun w hs => by first | exact y_neq rfl rfl (decide_eq_true (by omega)) | exact y_neq rfl rfl (decide_eq_false (by omega)) | exact y_neq rfl rfl rfl) ?_
    refine c_end ?_
    refine e_then ?_
    refine cond_f rfl ?_
    refine s_skip ?_
    refine e_blk ?_
    refine e_then ?_
    refine s_reg ?_
    refine l_q (by first | exact y_addn rfl rfl (by omega) | exact y_add rfl rfl rfl) ?_
    refine l_q (by exact y_mv_int rfl) ?_
    refine l_end ?_
    refine e_then ?_
    exact ⟨i + 1, _, nx ⟨rfl, rfl, rfl, rfl, trivial⟩, ⟨hs, by omega⟩, by omega⟩
  · refine s_seq ?_
    refine s_reg ?_
    refine l_q (by first | exact y_lss rfl rfl (decide_eq_true (by omega)) | exact y_lss rfl rfl (decide_eq_false (by omega)) | exact y_lss rfl rfl rfl) ?_
    refine l_end ?_
    refine e_then ?_
    refine s_seq ?_
    refine cond_f rfl ?_
    refine s_exit ?_
    refine e_then_x ?_
    refine e_then_x ?_
    refine e_blk_x ?_
    refine e_then ?_
    refine s_seq ?_
    refine s_reg ?_
    refine l_q (by exact y_as_bool rfl) ?_
    refine l_end ?_
    refine e_then ?_
    refine s_ret ?_
    exact ret_ [.bool _] rfl ⟨rfl, trivial⟩ ⟨rfl, hs⟩


theorem index_c {W0 w : World} {L : List (Nat × MObj)} {b n : Nat} {e : TypeId} [InL b (.cells (List.replicate n (.bool true)) e) L] (hn : n ≤ 1000) (hs : St W0 w L) :
    FnC Try.prog 14 [.slice (some ⟨b, 0, none⟩) n n, .bool false] w (fun v w' => v = I64 (-1) ∧ St W0 w' L) := by
  refine FnC.enter Try.func14 rfl Try.ntmps14 rfl fun ρ => ?_
  refine s_seq ?_
  refine s_reg ?_
  refine l_q (by exact y_as_int rfl) ?_
  refine l_end ?_
  refine e_then ?_
  refine s_seq ?_
  refine s_seq ?_
  refine s_reg ?_
  refine l_q (by exact y_mv_slice rfl) ?_
  refine l_q (by exact y_len_slice rfl) ?_
  refine l_q (by exact y_mv_int rfl) ?_
  refine l_end ?_
  refine e_then ?_
  refine s_block ?_
  refine loop_st (X := Nat) (fun i => [(0, .slice (some ⟨b, 0, none⟩) n n), (1, .bool false), (7, I64 n), (8, I64 i)])
    (fun i w => St W0 w L ∧ i ≤ n) (fun i => n - i) 0 ⟨rfl, rfl, rfl, rfl, trivial⟩ ⟨hs, by omega⟩ ?_
  clear hs
  rintro i ρ w ⟨hs, i1⟩
  by_cases c : i < n
  · have hcell : (List.replicate n (Value.bool true))[i]? = some (.bool true) := by simp [c]
    refine s_seq ?_
    refine s_reg ?_
    refine l_q (by first | exact y_lss rfl rfl (decide_eq_true (by omega)) | exact y_lss rfl rfl (decide_eq_false (by omega)) | exact y_lss rfl rfl rfl) ?_
    refine l_end ?_
    refine e_then ?_
    refine s_seq ?_
    refine cond_t rfl ?_
    refine s_skip ?_
    refine e_then ?_
    refine s_seq ?_
    refine s_block ?_
    refine s_seq ?_
    refine s_reg ?_
    refine l_q (by exact y_mv_int rfl) ?_
    refine l_q (by exact y_as_int rfl) ?_
    refine l_end ?_
    refine e_then ?_
    refine s_seq ?_
    refine s_reg ?_
    refine l_q (by exact y_mv_bool rfl) ?_
    refine l_q (by exact y_mv_slice rfl) ?_
    refine l_q (by exact y_mv_int rfl) ?_
    refine l_q (by exact y_indexT (off := i) rfl rfl (by omega) (by omega) rfl (by omega)) ?_
    refine l_q (by exact y_ld (v := .bool true) hs rfl hcell) ?_
    refine l_q (by exact y_bool_eql rfl rfl rfl) ?_
    refine l_end ?_
    refine e_then ?_
    refine cond_f rfl ?_
    refine s_skip ?_
    refine e_blk ?_
    refine e_then ?_
    refine s_reg ?_
    refine l_q (by first | exact y_addn rfl rfl (by omega) | exact y_add rfl rfl rfl) ?_
    refine l_q (by exact y_mv_int rfl) ?_
    refine l_end ?_
    refine e_then ?_
    exact ⟨i + 1, _, nx ⟨rfl, rfl, rfl, rfl, trivial⟩, ⟨hs, by omega⟩, by omega⟩
  · refine s_seq ?_
    refine s_reg ?_
    refine l_q (by first | exact y_lss rfl rfl (decide_eq_true (by omega)) | exact y_lss rfl rfl (decide_eq_false (by omega)) | exact y_lss rfl rfl rfl) ?_
    refine l_end ?_
    refine e_then ?_
    refine s_seq ?_
    refine cond_f rfl ?_
    refine s_exit ?_
    refine e_then_x ?_
    refine e_then_x ?_
    refine e_blk_x ?_
    refine e_then ?_
    refine s_seq ?_
    refine s_reg ?_
    refine l_q (by exact y_as_int rfl) ?_
    refine l_end ?_
    refine e_then ?_
    refine s_ret ?_
    exact ret_ [.int .i64 _] rfl ⟨rfl, trivial⟩ ⟨rfl, hs⟩

theorem contains_c {W0 w : World} {L : List (Nat × MObj)} {b n : Nat} {e : TypeId} [InL b (.cells (List.replicate n (.bool true)) e) L] (hn : n ≤ 1000) (hs : St W0 w L) :
    FnC Try.prog 10 [.slice (some ⟨b, 0, none⟩) n n, .bool false] w (fun v w' => v = .bool false ∧ St W0 w' L) := by
  refine FnC.enter Try.func10 rfl Try.ntmps10 rfl fun ρ => ?_
  refine s_seq ?_
  refine s_reg ?_
  refine l_q (by exact y_as_bool rfl) ?_
  refine l_end ?_
  refine e_then ?_
  refine s_seq ?_
  refine s_reg ?_
  refine l_q (by exact y_mv_slice rfl) ?_
  refine l_q (by exact y_mv_bool rfl) ?_
  refine l_w (w_call rfl (index_c hn hs) rfl (fun _ w h => ?_))
  obtain ⟨rfl, hs⟩ := h
  refine l_q (by first | exact y_geq rfl rfl (decide_eq_true (by omega)) | exact y_geq rfl rfl (decide_eq_false (by omega)) | exact y_geq rfl rfl rfl) ?_
  refine l_q (by exact y_as_bool rfl) ?_
  refine l_end ?_
  refine e_then ?_
  refine s_ret ?_
  exact ret_ [.bool _] rfl ⟨rfl, trivial⟩ ⟨rfl, hs⟩

/-! ### begins -/
structure Talk where
  from_ : Nat
  at_ : Int
  long : Int
def Talk.cells (t : Talk) : List Value := [I64 t.from_, I64 t.at_, I64 t.long]
def begF (ps : List Int) (t : Talk) (at_ : Nat) : Int :=
  t.at_ + (if ps.getD t.from_ 0 - ps.getD at_ 0 < ps.getD at_ 0 - ps.getD t.from_ 0 then ps.getD at_ 0 - ps.getD t.from_ 0 else ps.getD t.from_ 0 - ps.getD at_ 0)
structure Small (ps : List Int) : Prop where
  bd : ∀ i, i < ps.length → 0 ≤ ps.getD i 0 ∧ ps.getD i 0 ≤ 1000
  n : ps.length ≤ 8


theorem begins_c {W0 w : World} {L : List (Nat × MObj)} {s : OS} {ps : List Int} (hok : s.ok (ps.map I64) ps.length 1) (hp : Small ps) {t : Talk} {a : Nat} (hf : t.from_ < ps.length) (ha : a < ps.length) (t0 : 0 ≤ t.at_) (t1 : t.at_ ≤ 1000000) (hin : ∀ g, s.a = some g → InL g (.cells (ps.map I64 ++ s.sp) 3) L) (hs : St W0 w L) :
    FnC Try.prog 15 [.slice s.ad ps.length s.cap, .agg #[I64 t.from_, I64 t.at_, I64 t.long], I64 a] w (fun v w' => v = I64 (begF ps t a) ∧ St W0 w' L) := by
  obtain ⟨g, hg, had1, hc1⟩ := own_int hok hf
  obtain ⟨g2, hg2, had2, hc2⟩ := own_int hok ha
  have e : g2 = g := by rw [hg] at hg2; exact (Option.some.inj hg2).symm
  subst e
  haveI := hin _ hg
  have b1 := hp.bd _ hf
  have b2 := hp.bd _ ha
  have hn := hp.n
  obtain ⟨mm, hmm⟩ : ∃ mm, (if ps.getD t.from_ 0 - ps.getD a 0 < ps.getD a 0 - ps.getD t.from_ 0 then ps.getD a 0 - ps.getD t.from_ 0 else ps.getD t.from_ 0 - ps.getD a 0) = mm := ⟨_, rfl⟩
  have hmb : 0 ≤ mm ∧ mm ≤ 1000 := by rw [← hmm]; split <;> omega
  refine FnC.enter Try.func15 rfl Try.ntmps15 rfl fun ρ => ?_
  refine s_seq ?_
  refine s_reg ?_
  refine l_w (w_boxA (vs := [_, _, _]) hs rfl (fun b4 w hs hb4 => ?_))
  refine l_q (by exact y_as_int rfl) ?_
  refine l_end ?_
  refine e_then ?_
  refine s_seq ?_
  refine r_dr (.q 0 (.q 1 (.q 2 (.q 3 (.q 4 (.q 5 (.q 6 (.q 7 (.q 8 (.q 9 (.q 10 (.q 11 (.q 12 (.q 13 (.q 14 (.q 15 (.q 16 (.q 17 (.q 18 (.q 19 (.q 20 (.q 21 (.q 22 (.q 23 (.q 24 (.nil)))))))))))))))))))))))))) 24 hs mixed (by kernel_rfl) (fun hs => ?_)
  refine c_q rfl (by first | exact hs | exact hs.subl | exact hs.cellAt rfl | trivial) (fun _ _ _ h => h) (fun w hs => by exact y_field rfl) ?_
  refine c_q rfl (by first | exact hs | exact hs.subl | exact hs.cellAt rfl | trivial) (fun _ _ _ h => h) (fun w hs => by exact y_ld hs rfl rfl) ?_
  refine c_q rfl (by first | exact hs | exact hs.subl | exact hs.cellAt rfl | trivial) (fun _ _ _ h => h) (fun w hs => by exact y_mv_slice rfl) ?_
  refine c_q rfl (by first | exact hs | exact hs.subl | exact hs.cellAt rfl | trivial) (fun _ _ _ h => h) (fun w hs => by exact y_field rfl) ?_
  refine c_q rfl (by first | exact hs | exact hs.subl | exact hs.cellAt rfl | trivial) (fun _ _ _ h => h) (fun w hs => by exact y_ld hs rfl rfl) ?_
  refine c_q rfl (by first | exact hs | exact hs.subl | exact hs.cellAt rfl | trivial) (fun _ _ _ h => h) (fun w hs => by exact y_indexS rfl rfl (by omega) (by omega) had1) ?_
  refine c_q rfl (by first | exact hs | exact hs.subl | exact hs.cellAt rfl | trivial) (fun _ _ _ h => h) (fun w hs => by exact y_ld hs rfl hc1) ?_
  refine c_q rfl (by first | exact hs | exact hs.subl | exact hs.cellAt rfl | trivial) (fun _ _ _ h => h) (fun w hs => by exact y_mv_slice rfl) ?_
  refine c_q rfl (by first | exact hs | exact hs.subl | exact hs.cellAt rfl | trivial) (fun _ _ _ h => h) (fun w hs => by exact y_mv_int rfl) ?_
  refine c_q rfl (by first | exact hs | exact hs.subl | exact hs.cellAt rfl | trivial) (fun _ _ _ h => h) (fun w hs => by exact y_indexS rfl rfl (by omega) (by omega) had2) ?_
  refine c_q rfl (by first | exact hs | exact hs.subl | exact hs.cellAt rfl | trivial) (fun _ _ _ h => h) (fun w hs => by exact y_ld hs rfl hc2) ?_
  refine c_q rfl (by first | exact hs | exact hs.subl | exact hs.cellAt rfl | trivial) (fun _ _ _ h => h) (fun w hs => by first | exact y_subn rfl rfl (by omega) | exact y_sub rfl rfl rfl) ?_
  refine c_q rfl (by first | exact hs | exact hs.subl | exact hs.cellAt rfl | trivial) (fun _ _ _ h => h) (fun w hs => by exact y_mv_slice rfl) ?_
  refine c_q rfl (by first | exact hs | exact hs.subl | exact hs.cellAt rfl | trivial) (fun _ _ _ h => h) (fun w hs => by exact y_mv_int rfl) ?_
  refine c_q rfl (by first | exact hs | exact hs.subl | exact hs.cellAt rfl | trivial) (fun _ _ _ h => h) (fun w hs => by exact y_indexS rfl rfl (by omega) (by omega) had2) ?_
  refine c_q rfl (by first | exact hs | exact hs.subl | exact hs.cellAt rfl | trivial) (fun _ _ _ h => h) (fun w hs => by exact y_ld hs rfl hc2) ?_
  refine c_q rfl (by first | exact hs | exact hs.subl | exact hs.cellAt rfl | trivial) (fun _ _ _ h => h) (fun w hs => by exact y_mv_slice rfl) ?_
  refine c_q rfl (by first | exact hs | exact hs.subl | exact hs.cellAt rfl | trivial) (fun _ _ _ h => h) (fun w hs => by exact y_field rfl) ?_
  refine c_q rfl (by first | exact hs | exact hs.subl | exact hs.cellAt rfl | trivial) (fun _ _ _ h => h) (fun w hs => by exact y_ld hs rfl rfl) ?_
  refine c_q rfl (by first | exact hs | exact hs.subl | exact hs.cellAt rfl | trivial) (fun _ _ _ h => h) (fun w hs => by exact y_indexS rfl rfl (by omega) (by omega) had1) ?_
  refine c_q rfl (by first | exact hs | exact hs.subl | exact hs.cellAt rfl | trivial) (fun _ _ _ h => h) (fun w hs => by exact y_ld hs rfl hc1) ?_
  refine c_q rfl (by first | exact hs | exact hs.subl | exact hs.cellAt rfl | trivial) (fun _ _ _ h => h) (fun w hs => by first | exact y_subn rfl rfl (by omega) | exact y_sub rfl rfl rfl) ?_
  refine c_q rfl (by first | exact hs | exact hs.subl | exact hs.cellAt rfl | trivial) (fun _ _ _ h => h) (fun w hs => by exact y_max (v := .int .i64 mm) rfl rfl (by rw [hmm])) ?_
  refine c_q rfl (by first | exact hs | exact hs.subl | exact hs.cellAt rfl | trivial) (fun _ _ _ h => h) (fun w hs => by first | exact y_addn rfl rfl (by omega) | exact y_add rfl rfl rfl) ?_
  refine c_q rfl (by first | exact hs | exact hs.subl | exact hs.cellAt rfl | trivial) (fun _ _ _ h => h) (fun w hs => by exact y_as_int rfl) ?_
  refine c_end ?_
  refine e_then ?_
  refine s_ret ?_
  exact ret_ [.int .i64 _] rfl ⟨rfl, trivial⟩ ⟨by unfold begF; rw [hmm]; rfl, hs.tail⟩
end Go.Proofs.Ytjjokonehoipbaa
