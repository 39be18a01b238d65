/- Facts on the functions and types of this seat that its laws are proved from: contracts under the premises that each theorem names. -/
import Derived.Test.YtohomijijipfdaaFte
set_option linter.unusedSimpArgs false
set_option linter.unusedVariables false
set_option linter.unnecessarySimpa false
namespace Go.Proofs.Ytohomijijipfdaa
open Go Go.RowKit PB
set_option linter.unusedVariables false

theorem tmod_eq (a b : Int) (hb : 0 < b) : (if a.tmod b < 0 then a.tmod b + b else a.tmod b) = a % b := by
  rw [Int.tmod_eq_emod]
  have h1 := Int.emod_nonneg a (by omega : b ≠ 0)
  have h2 := Int.emod_lt_of_pos a hb
  by_cases h : 0 ≤ a
  · simp [h]; omega
  · by_cases hd : b ∣ a
    · simp [hd]; omega
    · simp [h, hd]
      have hab : (b.natAbs : Int) = b := by omega
      rw [hab]
      have : a % b ≠ 0 := fun e => hd (Int.dvd_of_emod_eq_zero e)
      split <;> omega

theorem rest_c (a b : Int) (w : World) (hb : 0 < b) (hb2 : b ≤ 1000000000) : FnC Try.prog 9 [.int .i64 a, .int .i64 b] w (fun v w' => v = .int .i64 (a % b) ∧ w' = w) := by
  have ht := Int.tmod_lt_of_pos a hb
  have ht2 := Int.lt_tmod_of_pos a hb
  have he := tmod_eq a b hb
  refine FnC.enter Try.func9 rfl Try.ntmps9 rfl fun ρ => ?_
  by_cases h1 : a.tmod b < 0
  · rw [if_pos h1] at he
    refine s_seq ?_
    refine s_reg ?_
    refine l_q (by exact y_as_int rfl) ?_
    refine l_end ?_
    refine e_then ?_
    refine s_seq ?_
    refine s_reg ?_
    refine l_q (by exact y_mv_int rfl) ?_
    refine l_q (by exact y_mv_int rfl) ?_
    refine l_q (by first | exact y_remn rfl rfl (by omega) | exact y_rem rfl rfl (by first | decide | omega) rfl) ?_
    refine l_q (by exact y_as_int rfl) ?_
    refine l_end ?_
    refine e_then ?_
    refine s_seq ?_
    refine s_seq ?_
    refine s_reg ?_
    refine l_q (by exact y_mv_int rfl) ?_
    refine l_q (by first | exact y_lss rfl rfl (decide_eq_true (by omega)) | exact y_lss rfl rfl (decide_eq_false (by omega)) | exact y_lss rfl rfl rfl) ?_
    refine l_end ?_
    refine e_then ?_
    refine cond_t rfl ?_
    refine s_seq ?_
    refine s_reg ?_
    refine l_q (by exact y_mv_int rfl) ?_
    refine l_q (by exact y_mv_int rfl) ?_
    refine l_q (by first | exact y_addn rfl rfl (by omega) | exact y_add rfl rfl rfl) ?_
    refine l_q (by exact y_as_int rfl) ?_
    refine l_end ?_
    refine e_then ?_
    refine s_ret ?_
    refine e_then_r ?_
    exact ret_ [.int .i64 _] rfl ⟨rfl, trivial⟩ ⟨by rw [← he]; rfl, rfl⟩
  · rw [if_neg h1] at he
    refine s_seq ?_
    refine s_reg ?_
    refine l_q (by exact y_as_int rfl) ?_
    refine l_end ?_
    refine e_then ?_
    refine s_seq ?_
    refine s_reg ?_
    refine l_q (by exact y_mv_int rfl) ?_
    refine l_q (by exact y_mv_int rfl) ?_
    refine l_q (by first | exact y_remn rfl rfl (by omega) | exact y_rem rfl rfl (by first | decide | omega) rfl) ?_
    refine l_q (by exact y_as_int rfl) ?_
    refine l_end ?_
    refine e_then ?_
    refine s_seq ?_
    refine s_seq ?_
    refine s_reg ?_
    refine l_q (by exact y_mv_int rfl) ?_
    refine l_q (by first | exact y_lss rfl rfl (decide_eq_true (by omega)) | exact y_lss rfl rfl (decide_eq_false (by omega)) | exact y_lss rfl rfl rfl) ?_
    refine l_end ?_
    refine e_then ?_
    refine cond_f rfl ?_
    refine s_skip ?_
    refine e_then ?_
    refine s_seq ?_
    refine s_reg ?_
    refine l_q (by exact y_mv_int rfl) ?_
    refine l_q (by exact y_as_int rfl) ?_
    refine l_end ?_
    refine e_then ?_
    refine s_ret ?_
    exact ret_ [.int .i64 _] rfl ⟨rfl, trivial⟩ ⟨by rw [← he]; rfl, rfl⟩

def fresh (ws : List Int) : List QE := ws.map fun w => ⟨w, 0, OS.nl, []⟩
theorem fresh_len (ws : List Int) : (fresh ws).length = ws.length := by simp [fresh]
theorem fresh_succ {ws : List Int} {i : Nat} (h : i < ws.length) : flat (fresh (ws.take (i + 1))) = flat (fresh (ws.take i)) ++ [I64 (ws.getD i 0), I64 0, .slice none 0 0] := by
  have : ws.take (i + 1) = ws.take i ++ [ws.getD i 0] := by
    rw [List.take_add_one]; simp [h]
  rw [this, fresh, List.map_append, flat_append]
  rfl
theorem fresh_waits (ws : List Int) : waitsL (fresh ws) = [] := by
  induction ws with
  | nil => rfl
  | cons w ws ih => simp [fresh, waitsL, QE.blk, OS.blk, OS.nl]


theorem new_c {W0 w : World} {R : List (Nat × MObj)} {s : OS} {ws : List Int} {Q : Int} (hok : s.ok (ws.map I64) ws.length 1) (n1 : 1 ≤ ws.length) (n2 : ws.length ≤ 8) (hw : ∀ w ∈ ws, 1 ≤ w ∧ w ≤ 100) (q1 : 1 ≤ Q) (q2 : Q ≤ 1500) (hs : St W0 w (s.blk (ws.map I64) 3 ++ R)) :
    FnC Try.prog 8 [.slice s.ad ws.length s.cap, I64 Q] w (fun v w' => ∃ x : QI, v = .tuple #[.pointer (some ⟨x.qb, 0, none⟩), I64 0] ∧ x.ok ∧ x.abs = ⟨ws.map fun w => ⟨w, 0, []⟩, Q, 0, false⟩ ∧ St W0 w' (x.L (s.blk (ws.map I64) 3 ++ R))) := by
  refine FnC.enter Try.func8 rfl Try.ntmps8 rfl fun ρ => ?_
  refine s_seq ?_
  refine s_reg ?_
  refine l_q (by exact y_as_ptr rfl) ?_
  refine l_q (by exact y_as_int rfl) ?_
  refine l_end ?_
  refine e_then ?_
  refine s_seq ?_
  refine s_seq ?_
  refine s_reg ?_
  refine l_q (by exact y_mv_slice rfl) ?_
  refine l_q (by exact y_len_slice rfl) ?_
  refine l_q (by first | exact y_lss rfl rfl (decide_eq_true (by omega)) | exact y_lss rfl rfl (decide_eq_false (by omega)) | exact y_lss rfl rfl rfl) ?_
  refine l_q (by exact y_mv_bool rfl) ?_
  first | refine l_gskip rfl rfl ?_ | refine l_gskip_u rfl rfl ?_ | refine l_gdo rfl rfl (by exact y_mv_slice rfl) ?_
  first | refine l_gskip rfl rfl ?_ | refine l_gskip_u rfl rfl ?_ | refine l_gdo rfl rfl (by exact y_len_slice rfl) ?_
  first | refine l_gskip rfl rfl ?_ | refine l_gskip_u rfl rfl ?_ | refine l_gdo rfl rfl (by first | exact y_gtr rfl rfl (decide_eq_true (by omega)) | exact y_gtr rfl rfl (decide_eq_false (by omega)) | exact y_gtr rfl rfl rfl) ?_
  refine l_q (by first | exact y_pk_bt rfl rfl | exact y_pk_bf rfl rfl) ?_
  refine l_end ?_
  refine e_then ?_
  refine cond_f rfl ?_
  refine s_skip ?_
  refine e_then ?_
  refine s_seq ?_
  refine s_reg ?_
  refine l_q (by exact y_mv_int rfl) ?_
  refine l_q (by exact y_build (pv := [(1, .int .i64 _)]) (vs := [_, _, _, _]) rfl rfl) ?_
  refine l_w (w_boxA (vs := [_, _, _, _]) hs rfl (fun b19 w hs hb19 => ?_))
  refine l_q (by exact y_as_ptr rfl) ?_
  refine l_end ?_
  refine e_then ?_
  refine s_seq ?_
  refine s_seq ?_
  refine s_reg ?_
  refine l_q (by exact y_mv_slice rfl) ?_
  refine l_q (by exact y_len_slice rfl) ?_
  refine l_q (by exact y_mv_int rfl) ?_
  refine l_end ?_
  refine e_then ?_
  refine s_block ?_
  refine loop_st (X := Nat × OS) (fun x => [(1, I64 Q), (6, .pointer (some ⟨b19, 0, none⟩)), (20, .slice s.ad ws.length s.cap), (21, I64 ws.length), (22, I64 x.1)])
    (fun x w => St W0 w ((b19, .cells [.slice x.2.ad x.1 x.2.cap, I64 Q, I64 0, .bool false] 44) :: (x.2.blk (flat (fresh (ws.take x.1))) 46 ++ (s.blk (ws.map I64) 3 ++ R))) ∧ x.1 ≤ ws.length ∧ x.2.ok (flat (fresh (ws.take x.1))) x.1 3) (fun x => ws.length - x.1) (0, OS.nl) ⟨rfl, rfl, rfl, rfl, rfl, trivial⟩ ⟨hs, by omega, OS.ok_nl 3⟩ ?_
  rintro ⟨i, all⟩ ρ w ⟨hs, i1, okall⟩
  dsimp only at *
  by_cases c : i < ws.length
  · obtain ⟨g, hg, had, hcell⟩ := own_int hok c
    haveI := inl_blk hg (ws.map I64) 3
    have hwi := hw (ws.getD i 0) (by simp [c])
    refine s_seq ?_
    refine s_reg ?_
    refine l_q (by first | exact y_lss rfl rfl (decide_eq_true (by omega)) | exact y_lss rfl rfl (decide_eq_false (by omega)) | exact y_lss rfl rfl rfl) ?_
    refine l_end ?_
    refine e_then ?_
    refine s_seq ?_
    refine cond_t rfl ?_
    refine s_skip ?_
    refine e_then ?_
    refine s_seq ?_
    refine s_block ?_
    refine s_seq ?_
    refine s_reg ?_
    refine l_q (by exact y_indexS rfl rfl (by omega) (by omega) had) ?_
    refine l_q (by exact y_ld hs rfl hcell) ?_
    refine l_q (by exact y_as_int rfl) ?_
    refine l_end ?_
    refine e_then ?_
    refine s_seq ?_
    refine s_seq ?_
    refine s_reg ?_
    refine l_q (by exact y_mv_int rfl) ?_
    refine l_q (by first | exact y_lss rfl rfl (decide_eq_true (by omega)) | exact y_lss rfl rfl (decide_eq_false (by omega)) | exact y_lss rfl rfl rfl) ?_
    refine l_q (by exact y_mv_bool rfl) ?_
    first | refine l_gskip rfl rfl ?_ | refine l_gskip_u rfl rfl ?_ | refine l_gdo rfl rfl (by exact y_mv_int rfl) ?_
    first | refine l_gskip rfl rfl ?_ | refine l_gskip_u rfl rfl ?_ | refine l_gdo rfl rfl (by first | exact y_gtr rfl rfl (decide_eq_true (by omega)) | exact y_gtr rfl rfl (decide_eq_false (by omega)) | exact y_gtr rfl rfl rfl) ?_
    refine l_q (by first | exact y_pk_bt rfl rfl | exact y_pk_bf rfl rfl) ?_
    refine l_end ?_
    refine e_then ?_
    refine cond_f rfl ?_
    refine s_skip ?_
    refine e_then ?_
    refine s_reg ?_
    refine l_q (by exact y_mv_ptr rfl) ?_
    refine l_q (by exact y_mv_ptr rfl) ?_
    refine l_q (by first | exact y_nil rfl | exact y_nilf rfl) ?_
    refine l_q (by exact y_field rfl) ?_
    refine l_q (by exact y_ld hs rfl rfl) ?_
    refine l_q (by exact y_mv_int rfl) ?_
    refine l_q (by exact y_build (pv := [(0, .int .i64 _)]) (vs := [_, _, _]) rfl rfl) ?_
    refine l_w (w_buildSlice (pv := [(0, .agg (List.toArray [_, _, _]))]) (vs := [_, _, _]) hs rfl rfl rfl rfl (fun b39 w hs hb39 => ?_))
    refine l_w (w_append (ys := [_, _, _]) [(b39, _), (b19, _)] hs okall rfl rfl rfl rfl rfl rfl (.inl (by decide)) (by decide) (by omega) (fun all' w okall' hall' hs => ?_))
    have hs : St W0 w ((b39, _) :: (b19, _) :: (all'.blk _ _ ++ (s.blk _ _ ++ R))) := hs
    refine l_q (by first | exact y_nil rfl | exact y_nilf rfl) ?_
    refine l_q (by exact y_field rfl) ?_
    refine l_w (w_store (v := .slice _ _ _) hs rfl rfl rfl rfl (fun w hs => ?_))
    refine l_end ?_
    refine e_blk ?_
    refine e_then ?_
    refine s_reg ?_
    refine l_q (by first | exact y_addn rfl rfl (by omega) | exact y_add rfl rfl rfl) ?_
    refine l_q (by exact y_mv_int rfl) ?_
    refine l_end ?_
    refine e_then ?_
    refine ⟨(i + 1, all'), _, nx ⟨rfl, rfl, rfl, rfl, rfl, trivial⟩, ⟨?_, by dsimp only; omega, ?_⟩, by dsimp only; omega⟩ <;> dsimp only <;> rw [fresh_succ c]
    · exact hs.tail
    · exact okall'
  · have hi : i = ws.length := by omega
    subst hi
    rw [List.take_length] at hs okall
    refine s_seq ?_
    refine s_reg ?_
    refine l_q (by first | exact y_lss rfl rfl (decide_eq_true (by omega)) | exact y_lss rfl rfl (decide_eq_false (by omega)) | exact y_lss rfl rfl rfl) ?_
    refine l_end ?_
    refine e_then ?_
    refine s_seq ?_
    refine cond_f rfl ?_
    refine s_exit ?_
    refine e_then_x ?_
    refine e_then_x ?_
    refine e_blk_x ?_
    refine e_then ?_
    refine s_seq ?_
    refine s_seq ?_
    refine s_reg ?_
    refine l_q (by exact y_mv_int rfl) ?_
    refine l_q (by first | exact y_lss rfl rfl (decide_eq_true (by omega)) | exact y_lss rfl rfl (decide_eq_false (by omega)) | exact y_lss rfl rfl rfl) ?_
    refine l_q (by exact y_mv_bool rfl) ?_
    first | refine l_gskip rfl rfl ?_ | refine l_gskip_u rfl rfl ?_ | refine l_gdo rfl rfl (by exact y_mv_int rfl) ?_
    first | refine l_gskip rfl rfl ?_ | refine l_gskip_u rfl rfl ?_ | refine l_gdo rfl rfl (by first | exact y_gtr rfl rfl (decide_eq_true (by omega)) | exact y_gtr rfl rfl (decide_eq_false (by omega)) | exact y_gtr rfl rfl rfl) ?_
    refine l_q (by first | exact y_pk_bt rfl rfl | exact y_pk_bf rfl rfl) ?_
    refine l_end ?_
    refine e_then ?_
    refine cond_f rfl ?_
    refine s_skip ?_
    refine e_then ?_
    refine s_seq ?_
    refine s_reg ?_
    refine l_q (by exact y_mv_ptr rfl) ?_
    refine l_q (by exact y_as_ptr rfl) ?_
    refine l_q (by exact y_as_int rfl) ?_
    refine l_end ?_
    refine e_then ?_
    refine s_ret ?_
    refine ret_ [.pointer _, .int .i64 _] rfl ⟨rfl, rfl, trivial⟩ ⟨⟨b19, all, fresh ws, Q, 0, false⟩, rfl, ⟨by rw [fresh_len]; exact okall, ?_, by rw [fresh_len]; exact n1, by rw [fresh_len]; exact n2⟩, ?_, ?_⟩
    · intro q hq
      simp only [fresh, List.mem_map] at hq
      obtain ⟨_, _, rfl⟩ := hq
      exact OS.ok_nl 1
    · simp [QI.abs, fresh, QE.abs]
    · unfold QI.L QI.hdr
      simp only
      rw [fresh_len, fresh_waits]
      exact hs
end Go.Proofs.Ytohomijijipfdaa
