/- Facts on the functions and types of this seat that its laws are proved from: contracts under the premises that each theorem names. -/
import Derived.Test.YtohomijijipfdaaFta
set_option linter.unusedSimpArgs false
set_option linter.unusedVariables false
set_option linter.unnecessarySimpa false
namespace Go.Proofs.Ytohomijijipfdaa
open Go Go.RowKit PB
set_option linter.unusedVariables false

theorem flat_take (pre suf : List QE) (q : QE) (sp : List Value) : ((flat (pre ++ q :: suf) ++ sp).drop (3 * pre.length)).take 3 = q.cells := by
  have h1 := flat_length pre
  rw [flat_append, flat_cons, List.append_assoc, List.append_assoc, List.drop_append, h1]
  rw [List.drop_eq_nil_of_le (by omega), show 3 * pre.length - pre.length * 3 = 0 by omega]
  simp [QE.cells]

theorem flat_room (pre suf : List QE) (q : QE) (sp : List Value) (k : Nat) (h : k ≤ 3) : Nat.ble (3 * pre.length + k) (flat (pre ++ q :: suf) ++ sp).length = true := by
  rw [Nat.ble_eq, List.length_append, flat_length, List.length_append, List.length_cons]
  omega

theorem waits_focus (pre suf : List QE) (q : QE) (R : List (Nat × MObj)) : (waitsL (pre ++ q :: suf) ++ R).Perm (q.blk ++ (waitsL (pre ++ suf) ++ R)) := by
  rw [waitsL_append, waitsL_cons, waitsL_append]
  simp only [List.append_assoc]
  exact List.perm_append_comm_assoc _ _ _

theorem take_at {α : Type} (pre suf : List α) (q : α) : (pre ++ q :: suf).take (pre.length + 1) = (pre ++ q :: suf).take pre.length ++ [q] := by
  induction pre with
  | nil => simp
  | cons a l ih => simpa using ih

theorem all_some {x : QI} (hok : x.ok) : ∃ g, x.all.a = some g ∧ x.all.ad = some ⟨g, 0, none⟩ := by
  have h1 := hok.at_
  cases ha : x.all.a with
  | none => have := hok.all.nil_ ha; omega
  | some g => exact ⟨g, rfl, by simp [OS.ad, ha]⟩

/-! ### the closure of Take, IndexFunc, ContainsFunc -/
theorem take1_c {W0 w : World} {L : List (Nat × MObj)} (hs : St W0 w L) (q : QE) {r : Bool} (hr : decide ((0 : Int) < q.ws.length) = r) :
    FnC Try.prog 16 [.agg #[I64 q.w, I64 q.d, .slice q.os.ad q.ws.length q.os.cap]] w (fun v w' => v = .bool r ∧ St W0 w' L) := by
  refine FnC.enter Try.func16 rfl Try.ntmps16 rfl fun ρ => ?_
  subst hr
  by_cases c : (0 : Int) < q.ws.length
  · rw [decide_eq_true c]
    refine s_seq ?_
    refine s_reg ?_
    refine l_w (w_boxA (vs := [_, _, _]) hs rfl (fun b1 w hs hb1 => ?_))
    refine l_q (by exact y_as_bool rfl) ?_
    refine l_end ?_
    refine e_then ?_
    refine s_seq ?_
    refine s_reg ?_
    refine l_q (by exact y_field rfl) ?_
    refine l_q (by exact y_ld hs rfl rfl) ?_
    refine l_q (by exact y_len_slice rfl) ?_
    refine l_q (by first | exact y_gtr rfl rfl (decide_eq_true (by omega)) | exact y_gtr rfl rfl (decide_eq_false (by omega)) | exact y_gtr rfl rfl rfl) ?_
    refine l_q (by exact y_as_bool rfl) ?_
    refine l_end ?_
    refine e_then ?_
    refine s_ret ?_
    exact ret_ [.bool _] rfl ⟨rfl, trivial⟩ ⟨rfl, hs.tail⟩
  · rw [decide_eq_false c]
    refine s_seq ?_
    refine s_reg ?_
    refine l_w (w_boxA (vs := [_, _, _]) hs rfl (fun b1 w hs hb1 => ?_))
    refine l_q (by exact y_as_bool rfl) ?_
    refine l_end ?_
    refine e_then ?_
    refine s_seq ?_
    refine s_reg ?_
    refine l_q (by exact y_field rfl) ?_
    refine l_q (by exact y_ld hs rfl rfl) ?_
    refine l_q (by exact y_len_slice rfl) ?_
    refine l_q (by first | exact y_gtr rfl rfl (decide_eq_true (by omega)) | exact y_gtr rfl rfl (decide_eq_false (by omega)) | exact y_gtr rfl rfl rfl) ?_
    refine l_q (by exact y_as_bool rfl) ?_
    refine l_end ?_
    refine e_then ?_
    refine s_ret ?_
    exact ret_ [.bool _] rfl ⟨rfl, trivial⟩ ⟨rfl, hs.tail⟩


theorem indexf_c {W0 w : World} {R : List (Nat × MObj)} (x : QI) (hok : x.ok) (hs : St W0 w (x.L R)) :
    FnC Try.prog 20 [.slice x.all.ad x.qs.length x.all.cap, .func (.func 16) #[] #[]] w (fun v w' => (∃ r : Int, v = I64 r ∧ (0 ≤ r ↔ ∃ q ∈ x.qs, q.ws ≠ [])) ∧ St W0 w' (x.L R)) := by
  have h1 := hok.at_
  have h2 := hok.n
  obtain ⟨g, hg, had⟩ := all_some hok
  unfold QI.L at *
  haveI := inl_blk hg (flat x.qs) 46
  refine FnC.enter Try.func20 rfl Try.ntmps20 rfl fun ρ => ?_
  refine s_seq ?_
  refine s_reg ?_
  refine l_q (by exact y_as_int rfl) ?_
  refine l_end ?_
  refine e_then ?_
  refine s_seq ?_
  refine s_seq ?_
  refine s_reg ?_
  refine l_q (by exact y_mv_slice rfl) ?_
  refine l_q (by exact y_len_slice rfl) ?_
  refine l_q (by exact y_mv_int rfl) ?_
  refine l_end ?_
  refine e_then ?_
  refine s_block ?_
  refine loop_st (X := Nat) (fun i => [(0, .slice x.all.ad x.qs.length x.all.cap), (1, .func (.func 16) #[] #[]), (7, I64 x.qs.length), (8, I64 i)])
    (fun i w => St W0 w ((x.qb, .cells x.hdr 44) :: (x.all.blk (flat x.qs) 46 ++ (waitsL x.qs ++ R))) ∧ i ≤ x.qs.length ∧ ∀ q ∈ x.qs.take i, q.ws = []) (fun i => x.qs.length - i) 0 ⟨rfl, rfl, rfl, rfl, trivial⟩ ⟨hs, by omega, by simp⟩ ?_
  rintro i ρ w ⟨hs, i1, i2⟩
  by_cases c : i < x.qs.length
  · obtain ⟨pre, q, suf, hq, hi⟩ := split_at c
    have ht : x.qs.take (i + 1) = x.qs.take i ++ [q] := by subst hi; rw [hq]; exact take_at _ _ _
    rw [hq] at this
    rw [hq] at hs
    by_cases cw : (0 : Int) < q.ws.length
    · have hr := decide_eq_true cw
      refine s_seq ?_
      refine s_reg ?_
      refine l_q (by first | exact y_lss rfl rfl (decide_eq_true (by omega)) | exact y_lss rfl rfl (decide_eq_false (by omega)) | exact y_lss rfl rfl rfl) ?_
      refine l_end ?_
      refine e_then ?_
      refine s_seq ?_
      refine cond_t rfl ?_
      refine s_skip ?_
      refine e_then ?_
      refine s_seq ?_
      refine s_block ?_
      refine s_seq ?_
      refine s_reg ?_
      refine l_q (by exact y_mv_int rfl) ?_
      refine l_q (by exact y_as_int rfl) ?_
      refine l_end ?_
      refine e_then ?_
      refine s_seq ?_
      refine s_reg ?_
      refine l_q (by exact y_mv_func rfl) ?_
      refine l_q (by exact y_mv_slice rfl) ?_
      refine l_q (by exact y_mv_int rfl) ?_
      refine l_q (by exact y_indexT (off := 3 * pre.length) rfl rfl (by omega) (by omega) had (by omega)) ?_
      refine l_q (by exact y_ldA (vs := q.cells) hs rfl (flat_room _ _ _ _ 3 (by omega)) (flat_take _ _ _ _)) ?_
      refine l_w (w_call rfl (take1_c hs q hr) rfl (fun _ w h => ?_))
      obtain ⟨rfl, hs⟩ := h
      refine l_end ?_
      refine e_then ?_
      refine cond_t rfl ?_
      refine s_seq ?_
      refine s_reg ?_
      refine l_q (by exact y_mv_int rfl) ?_
      refine l_q (by exact y_as_int rfl) ?_
      refine l_end ?_
      refine e_then ?_
      refine s_ret ?_
      refine e_blk_r ?_
      refine e_then_r ?_
      refine e_then_r ?_
      refine e_blk_r ?_
      refine e_then_r ?_
      rw [← hq] at hs
      exact ret_ [.int .i64 _] rfl ⟨rfl, trivial⟩ ⟨⟨_, rfl, by simp only [hq]; constructor; exact fun _ => ⟨q, by simp, fun h => by rw [h] at cw; simp at cw⟩; exact fun _ => by omega⟩, hs⟩
    · have hr := decide_eq_false cw
      refine s_seq ?_
      refine s_reg ?_
      refine l_q (by first | exact y_lss rfl rfl (decide_eq_true (by omega)) | exact y_lss rfl rfl (decide_eq_false (by omega)) | exact y_lss rfl rfl rfl) ?_
      refine l_end ?_
      refine e_then ?_
      refine s_seq ?_
      refine cond_t rfl ?_
      refine s_skip ?_
      refine e_then ?_
      refine s_seq ?_
      refine s_block ?_
      refine s_seq ?_
      refine s_reg ?_
      refine l_q (by exact y_mv_int rfl) ?_
      refine l_q (by exact y_as_int rfl) ?_
      refine l_end ?_
      refine e_then ?_
      refine s_seq ?_
      refine s_reg ?_
      refine l_q (by exact y_mv_func rfl) ?_
      refine l_q (by exact y_mv_slice rfl) ?_
      refine l_q (by exact y_mv_int rfl) ?_
      refine l_q (by exact y_indexT (off := 3 * pre.length) rfl rfl (by omega) (by omega) had (by omega)) ?_
      refine l_q (by exact y_ldA (vs := q.cells) hs rfl (flat_room _ _ _ _ 3 (by omega)) (flat_take _ _ _ _)) ?_
      refine l_w (w_call rfl (take1_c hs q hr) rfl (fun _ w h => ?_))
      obtain ⟨rfl, hs⟩ := h
      refine l_end ?_
      refine e_then ?_
      refine cond_f rfl ?_
      refine s_skip ?_
      refine e_blk ?_
      refine e_then ?_
      refine s_reg ?_
      refine l_q (by first | exact y_addn rfl rfl (by omega) | exact y_add rfl rfl rfl) ?_
      refine l_q (by exact y_mv_int rfl) ?_
      refine l_end ?_
      refine e_then ?_
      rw [← hq] at hs
      refine ⟨i + 1, _, nx ⟨rfl, rfl, rfl, rfl, trivial⟩, ⟨hs, by omega, fun q' h' => ?_⟩, by omega⟩
      rw [ht, List.mem_append] at h'
      rcases h' with h' | h'
      · exact i2 q' h'
      · simp only [List.mem_singleton] at h'
        subst h'
        exact List.length_eq_zero_iff.1 (by omega)
  · refine s_seq ?_
    refine s_reg ?_
    refine l_q (by first | exact y_lss rfl rfl (decide_eq_true (by omega)) | exact y_lss rfl rfl (decide_eq_false (by omega)) | exact y_lss rfl rfl rfl) ?_
    refine l_end ?_
    refine e_then ?_
    refine s_seq ?_
    refine cond_f rfl ?_
    refine s_exit ?_
    refine e_then_x ?_
    refine e_then_x ?_
    refine e_blk_x ?_
    refine e_then ?_
    refine s_seq ?_
    refine s_reg ?_
    refine l_q (by exact y_as_int rfl) ?_
    refine l_end ?_
    refine e_then ?_
    refine s_ret ?_
    refine ret_ [.int .i64 _] rfl ⟨rfl, trivial⟩ ⟨⟨_, rfl, ?_⟩, hs⟩
    have : x.qs.take i = x.qs := List.take_of_length_le (by omega)
    rw [this] at i2
    constructor
    · intro h; omega
    · rintro ⟨q, hq, hw⟩; exact absurd (i2 q hq) hw

theorem contains_c {W0 w : World} {R : List (Nat × MObj)} (x : QI) (hok : x.ok) (hs : St W0 w (x.L R)) :
    FnC Try.prog 15 [.slice x.all.ad x.qs.length x.all.cap, .func (.func 16) #[] #[]] w (fun v w' => (∃ r : Bool, v = .bool r ∧ (r = true ↔ ∃ q ∈ x.qs, q.ws ≠ [])) ∧ St W0 w' (x.L R)) := by
  refine FnC.enter Try.func15 rfl Try.ntmps15 rfl fun ρ => ?_
  refine s_seq ?_
  refine s_reg ?_
  refine l_q (by exact y_as_bool rfl) ?_
  refine l_end ?_
  refine e_then ?_
  refine s_seq ?_
  refine s_reg ?_
  refine l_q (by exact y_mv_slice rfl) ?_
  refine l_q (by exact y_mv_func rfl) ?_
  refine l_w (w_call rfl (indexf_c x hok hs) rfl (fun _ w h => ?_))
  obtain ⟨⟨r, rfl, hr⟩, hs⟩ := h
  refine l_q (by first | exact y_geq rfl rfl (decide_eq_true (by omega)) | exact y_geq rfl rfl (decide_eq_false (by omega)) | exact y_geq rfl rfl rfl) ?_
  refine l_q (by exact y_as_bool rfl) ?_
  refine l_end ?_
  refine e_then ?_
  refine s_ret ?_
  exact ret_ [.bool _] rfl ⟨rfl, trivial⟩ ⟨⟨_, rfl, by rw [← hr]; simp⟩, hs⟩

/-! ### Clone of the rest of a queue -/

theorem clone_c {W0 w : World} {L : List (Nat × MObj)} {b o m c : Nat} {zs : List Value} {ws : List ByteArray} (hs : St W0 w L) [hin : InL b (.cells zs 9) L] (hzl : o + m ≤ zs.length) (hzs : (zs.drop o).take m = ws.map Str) (hm : m ≤ 64) :
    FnC Try.prog 18 [.slice (some ⟨b, o, none⟩) m c] w (fun v w' => ∃ s : OS, v = .slice s.ad m s.cap ∧ s.ok (ws.map Str) m 1 ∧ (∃ g, s.a = some g) ∧ St W0 w' (s.blk (ws.map Str) 9 ++ L)) := by
  refine FnC.enter Try.func18 rfl Try.ntmps18 rfl fun ρ => ?_
  refine s_seq ?_
  refine s_reg ?_
  refine l_q (by exact y_as_slice rfl) ?_
  refine l_end ?_
  refine e_then ?_
  refine s_seq ?_
  refine s_seq ?_
  refine s_reg ?_
  refine l_q (by exact y_mv_slice rfl) ?_
  refine l_q (by exact y_eqnil_slice rfl rfl) ?_
  refine l_end ?_
  refine e_then ?_
  refine cond_f rfl ?_
  refine s_skip ?_
  refine e_then ?_
  refine s_seq ?_
  refine s_reg ?_
  refine l_w (w_slice0 hs (fun b5 w hs hb5 => ?_))
  refine l_q (by exact y_mv_slice rfl) ?_
  refine l_w (w_append (ys := ws.map Str) (zs := zs) (bx := b) (ox := o) (m := m) (c := c) [] (s := ⟨some b5, 0, []⟩) (xs := []) (sz := 1) (len := 0) hs ⟨rfl, rfl, Nat.le_refl _, fun h => by cases h⟩ rfl rfl rfl (by rw [Nat.ble_eq]; omega) (by rw [Nat.mul_one]; exact hzs) (by simp [oneB]) (.inr (by simp)) (by decide) (by omega) (fun s' w ok' hg hs => ?_))
  refine l_q (by exact y_as_slice rfl) ?_
  refine l_end ?_
  refine e_then ?_
  refine s_ret ?_
  rw [Nat.zero_add] at ok'
  refine ret_ [.slice _ _ _] rfl ⟨rfl, trivial⟩ ⟨s', by rw [Nat.zero_add]; rfl, ok', hg, hs⟩
end Go.Proofs.Ytohomijijipfdaa
