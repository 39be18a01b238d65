/- Facts on the functions and types of this seat that its laws are proved from: contracts under the premises that each theorem names. -/
import Derived.Test.YtohomijijipfdaaFtg
set_option linter.unusedSimpArgs false
set_option linter.unusedVariables false
set_option linter.unnecessarySimpa false
namespace Go.Proofs.Ytohomijijipfdaa
open Go Go.RowKit PB
set_option linter.unusedVariables false

def Ab.put (a : Ab) (i : Nat) (q : Q3) (s : ByteArray) : Ab := { a with qs := a.qs.set i ⟨q.w, q.d, q.ws ++ [s]⟩ }
def Ab.new (ws : List Int) (Q : Int) : Ab := ⟨ws.map fun w => ⟨w, 0, []⟩, Q, 0, false⟩

theorem wf_new {ws : List Int} {Q : Int} (n1 : 1 ≤ ws.length) (n2 : ws.length ≤ 8) (hw : ∀ w ∈ ws, 1 ≤ w ∧ w ≤ 100) (q1 : 1 ≤ Q) (q2 : Q ≤ 1500) : (Ab.new ws Q).wf := by
  refine ⟨by simp [Ab.new]; omega, by simp [Ab.new]; omega, q1, q2, fun j q h => ?_⟩
  have h := List.mem_of_getElem? h
  simp only [Ab.new, List.mem_map] at h
  obtain ⟨w, hm, rfl⟩ := h
  have := hw w hm
  exact ⟨this.1, this.2, Int.le_refl _, by simp [Ab.new], by simp, by simp, fun h => by simp [Ab.new] at h⟩

theorem wf_put {a : Ab} (h : a.wf) {i : Nat} {q : Q3} {s : ByteArray} (hq : a.qs[i]? = some q) (h1 : s.size ≤ 1500) (h2 : q.ws.length < 64) : (a.put i q s).wf := by
  refine ⟨by simpa [Ab.put] using h.at_, by simpa [Ab.put] using h.n, h.q1, h.q2, fun j q' hj => ?_⟩
  simp only [Ab.put, List.getElem?_set] at hj
  by_cases c : i = j
  · subst c
    have hi : i < a.qs.length := by
      rcases Nat.lt_or_ge i a.qs.length with h | h
      · exact h
      · rw [List.getElem?_eq_none h] at hq; cases hq
    simp [hi] at hj
    subst hj
    have w := h.qs _ _ hq
    refine ⟨w.w1, w.w2, w.d0, w.d1, by simp; omega, ?_, fun _ => by simp⟩
    intro s' hs'
    simp only [List.mem_append, List.mem_singleton] at hs'
    rcases hs' with hs' | rfl
    · exact w.s_ _ hs'
    · exact h1
  · simp [c] at hj
    exact h.qs _ _ hj

theorem new_a {W0 w : World} {R : List (Nat × MObj)} {s : OS} {ws : List Int} {Q : Int} (hok : s.ok (ws.map I64) ws.length 1) (n1 : 1 ≤ ws.length) (n2 : ws.length ≤ 8) (hw : ∀ w ∈ ws, 1 ≤ w ∧ w ≤ 100) (q1 : 1 ≤ Q) (q2 : Q ≤ 1500) (hs : St W0 w (s.blk (ws.map I64) 3 ++ R)) :
    FnC Try.prog 8 [.slice s.ad ws.length s.cap, I64 Q] w (fun v w' => ∃ x : QI, v = .tuple #[.pointer (some ⟨x.qb, 0, none⟩), I64 0] ∧ x.ok ∧ x.abs = Ab.new ws Q ∧ St W0 w' (x.L (s.blk (ws.map I64) 3 ++ R))) := new_c hok n1 n2 hw q1 q2 hs

theorem put_a {W0 w : World} {R : List (Nat × MObj)} (x : QI) (hok : x.ok) {i : Nat} {q : Q3} (hq : x.abs.qs[i]? = some q) {s : ByteArray} (h1 : s.size ≤ 1500) (h2 : q.ws.length < 64) (hs : St W0 w (x.L R)) :
    FnC Try.prog 13 [.pointer (some ⟨x.qb, 0, none⟩), I64 i, Str s] w (fun v w' => v = I64 0 ∧ ∃ x' : QI, x'.qb = x.qb ∧ x'.ok ∧ x'.abs = x.abs.put i q s ∧ St W0 w' (x'.L R)) := by
  have hi : i < x.qs.length := by
    rcases Nat.lt_or_ge i x.qs.length with h | h
    · exact h
    · rw [List.getElem?_eq_none (by simpa [QI.abs] using h)] at hq; cases hq
  obtain ⟨pre, ⟨qw, qd, qo, ws⟩, suf, hx, rfl⟩ := split_at hi
  have hqe : q = ⟨qw, qd, ws⟩ := by
    simp [QI.abs, hx] at hq
    exact hq.symm
  subst hqe
  refine (put_c x hok hx h1 h2 hs).mono ?_
  rintro v w' ⟨rfl, os', hok', hs'⟩
  refine ⟨rfl, x.up pre ⟨qw, qd, os', ws ++ [s]⟩ suf x.paid, rfl, hok', ?_, hs'⟩
  simp [QI.up, QI.abs, Ab.put, hx, QE.abs]

theorem put_b {W0 w : World} {R : List (Nat × MObj)} {x : QI} {b : Nat} (hb : x.qb = b) (hok : x.ok) {i : Nat} {q : Q3} (hq : x.abs.qs[i]? = some q) {s : ByteArray} (h1 : s.size ≤ 1500) (h2 : q.ws.length < 64) (hs : St W0 w (x.L R)) :
    FnC Try.prog 13 [.pointer (some ⟨b, 0, none⟩), I64 i, Str s] w (fun v w' => v = I64 0 ∧ ∃ x' : QI, x'.qb = b ∧ x'.ok ∧ x'.abs = x.abs.put i q s ∧ St W0 w' (x'.L R)) := by
  subst hb
  exact put_a x hok hq h1 h2 hs
theorem take_b {W0 w : World} {R : List (Nat × MObj)} {x : QI} {b : Nat} (hb : x.qb = b) (hok : x.ok) (hwf : x.abs.wf) {k i : Nat} {s : ByteArray} {a' : Ab} (hr : takeF k x.abs = some (i, s, a')) (hs : St W0 w (x.L R)) :
    FnC Try.prog 12 [.pointer (some ⟨b, 0, none⟩)] w (fun v w' => v = .tuple #[I64 i, Str s, .bool true] ∧ ∃ x' : QI, x'.qb = b ∧ x'.ok ∧ x'.abs = a' ∧ St W0 w' (x'.L R)) := by
  subst hb
  exact take_c x hok hwf hr hs
theorem takeNone_b {W0 w : World} {R : List (Nat × MObj)} {x : QI} {b : Nat} (hb : x.qb = b) (hok : x.ok) (hn : ∀ q ∈ x.abs.qs, q.ws = []) (hs : St W0 w (x.L R)) :
    FnC Try.prog 12 [.pointer (some ⟨b, 0, none⟩)] w (fun v w' => v = .tuple #[I64 0, Str ⟨#[]⟩, .bool false] ∧ St W0 w' (x.L R)) := by
  subst hb
  refine takeNone_c x hok (fun q hq => ?_) hs
  exact hn q.abs (by simp only [QI.abs]; exact List.mem_map_of_mem hq)
theorem ok_lit {b len sz : Nat} {xs : List Value} (h : xs.length = len * sz) : OS.ok ⟨some b, len, []⟩ xs len sz := ⟨h, by simp, Nat.le_refl _, fun h => by cases h⟩
def ab : ByteArray := ⟨#[97, 98]⟩
theorem fact_take : ∃ a', takeF 2 ((Ab.new [1, 1] 2).put 1 ⟨1, 0, []⟩ ab) = some (1, ab, a') := by
  refine ⟨((((Ab.new [1, 1] 2).put 1 ⟨1, 0, []⟩ ab).leave).up ⟨1, 0, []⟩ true).leave, ?_⟩
  rw [takeF_nil (q := ⟨1, 0, []⟩) rfl rfl]
  exact takeF_last (q := ⟨1, 0, [ab]⟩) rfl rfl (by decide)


theorem fact_c {W0 w : World} {L : List (Nat × MObj)} (hs : St W0 w L) : FnC Try.prog 10 [] w (fun v w' => v = .bool true ∧ St W0 w' L) := by
  obtain ⟨a', hr⟩ := fact_take
  refine FnC.enter Try.func10 rfl Try.ntmps10 rfl fun ρ => ?_
  refine s_seq ?_
  refine s_reg ?_
  refine l_q (by exact y_as_bool rfl) ?_
  refine l_end ?_
  refine e_then ?_
  refine s_seq ?_
  refine s_reg ?_
  refine l_w (w_buildSlice (pv := [(0, .int .i64 _), (1, .int .i64 _)]) (vs := [_, _]) hs rfl rfl rfl rfl (fun b7 w hs hb7 => ?_))
  refine l_w (w_call rfl (new_a (s := ⟨some b7, 2, []⟩) (ws := [1, 1]) (R := L) (ok_lit rfl) (by decide) (by decide) (by decide) (by decide) (by decide) hs) rfl (fun _ w h => ?_))
  obtain ⟨x, rfl, hok, habs, hs⟩ := h
  refine l_q (by exact y_mv_tuple rfl) ?_
  refine l_q (by exact y_extract rfl rfl) ?_
  refine l_q (by exact y_extract rfl rfl) ?_
  refine l_q (by exact y_as_ptr rfl) ?_
  refine l_q (by exact y_as_int rfl) ?_
  refine l_end ?_
  refine e_then ?_
  refine s_seq ?_
  refine s_seq ?_
  refine s_reg ?_
  refine l_q (by exact y_mv_int rfl) ?_
  refine l_q (by first | exact y_neq rfl rfl (decide_eq_true (by omega)) | exact y_neq rfl rfl (decide_eq_false (by omega)) | exact y_neq rfl rfl rfl) ?_
  refine l_q (by exact y_mv_bool rfl) ?_
  first | refine l_gskip rfl rfl ?_ | refine l_gskip_u rfl rfl ?_ | refine l_gdo rfl rfl (by exact y_mv_ptr rfl) ?_
  first | refine l_gskip rfl rfl ?_ | refine l_gskip_u rfl rfl ?_ | refine l_gdo rfl rfl (by first | exact y_ptr_nn rfl rfl | exact y_ptr_eql rfl rfl rfl) ?_
  refine l_q (by first | exact y_pk_bt rfl rfl | exact y_pk_bf rfl rfl) ?_
  refine l_end ?_
  refine e_then ?_
  refine cond_f rfl ?_
  refine s_skip ?_
  refine e_then ?_
  refine s_seq ?_
  refine s_seq ?_
  refine s_reg ?_
  refine l_q (by exact y_mv_ptr rfl) ?_
  refine l_w (w_call rfl (put_b (i := 1) (q := ⟨1, 0, []⟩) rfl hok (by rw [habs]; rfl) (by decide) (by decide) hs) rfl (fun _ w h => ?_))
  obtain ⟨rfl, x1, hx1, hok1, habs1, hs⟩ := h
  refine l_q (by first | exact y_neq rfl rfl (decide_eq_true (by omega)) | exact y_neq rfl rfl (decide_eq_false (by omega)) | exact y_neq rfl rfl rfl) ?_
  refine l_end ?_
  refine e_then ?_
  refine cond_f rfl ?_
  refine s_skip ?_
  refine e_then ?_
  refine s_seq ?_
  refine s_reg ?_
  refine l_q (by exact y_mv_ptr rfl) ?_
  refine l_w (w_call rfl (take_b hx1 hok1 (by rw [habs1, habs]; exact wf_put (wf_new (by decide) (by decide) (by decide) (by decide) (by decide)) rfl (by decide) (by decide)) (by rw [habs1, habs]; exact hr) hs) rfl (fun _ w h => ?_))
  obtain ⟨rfl, x2, hx2, hok2, habs2, hs⟩ := h
  refine l_q (by exact y_mv_tuple rfl) ?_
  refine l_q (by exact y_extract rfl rfl) ?_
  refine l_q (by exact y_extract rfl rfl) ?_
  refine l_q (by exact y_extract rfl rfl) ?_
  refine l_q (by exact y_as_int rfl) ?_
  refine l_q (by exact y_as_str rfl) ?_
  refine l_q (by exact y_as_bool rfl) ?_
  refine l_end ?_
  refine e_then ?_
  refine s_seq ?_
  refine s_reg ?_
  refine l_q (by exact y_mv_int rfl) ?_
  refine l_q (by first | exact y_eql rfl rfl (decide_eq_true (by omega)) | exact y_eql rfl rfl (decide_eq_false (by omega)) | exact y_eql rfl rfl rfl) ?_
  refine l_q (by exact y_mv_bool rfl) ?_
  first | refine l_gskip rfl rfl ?_ | refine l_gskip_u rfl rfl ?_ | refine l_gdo rfl rfl (by exact y_mv_str rfl) ?_
  first | refine l_gskip rfl rfl ?_ | refine l_gskip_u rfl rfl ?_ | refine l_gdo rfl rfl (by exact y_str_eq rfl rfl (decide_eq_true rfl)) ?_
  refine l_q (by first | exact y_pk_bt rfl rfl | exact y_pk_bf rfl rfl) ?_
  refine l_q (by exact y_mv_bool rfl) ?_
  first | refine l_gskip rfl rfl ?_ | refine l_gskip_u rfl rfl ?_ | refine l_gdo rfl rfl (by exact y_mv_bool rfl) ?_
  refine l_q (by first | exact y_pk_bt rfl rfl | exact y_pk_bf rfl rfl) ?_
  refine l_q (by exact y_as_bool rfl) ?_
  refine l_end ?_
  refine e_then ?_
  refine s_ret ?_
  refine ret_ [.bool _] rfl ⟨rfl, trivial⟩ ⟨rfl, hs.sub ?_⟩
  unfold QI.L
  exact (((List.sublist_append_right [(b7, _)] L).trans (List.sublist_append_right _ _)).trans (List.sublist_append_right _ _)).cons _
end Go.Proofs.Ytohomijijipfdaa
