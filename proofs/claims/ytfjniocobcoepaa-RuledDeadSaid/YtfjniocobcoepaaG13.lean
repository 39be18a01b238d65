/- Facts on the functions and types of this seat that its laws are proved from: contracts under the premises that each theorem names. -/
import Derived.Test.YtfjniocobcoepaaG12
set_option linter.unusedSimpArgs false
set_option linter.unusedVariables false
set_option linter.unnecessarySimpa false
namespace Go.Proofs.Ytfjniocobcoepaa
open Go Go.RowKit PB
set_option linter.unusedVariables false
set_option linter.unusedSimpArgs false

/-! ### One -/
def oneL (s : DS) (a : Nat) : List Bool := (List.range s.vars).map (oneE s a)
theorem oneL_env {s : DS} {a i : Nat} (h : i < s.vars) : envB (oneL s a) i = oneE s a i := by simp [envB, oneL, h]
theorem oneL_len (s : DS) (a : Nat) : (oneL s a).length = s.vars := by simp [oneL]

structure OneI (s : DS) (a x : Nat) (bl : List Bool) : Prop where
  lt : x < s.nodes.length
  ne : x ≠ 0
  len : bl.length = s.vars
  eq : ∀ i, i < s.vars → oneE s a i = if i < (s.nd x).1 then envB bl i else oneE s x i
  rest : ∀ i, (s.nd x).1 ≤ i → envB bl i = false

theorem OneI.next {s : DS} (h : Inv s) {a x : Nat} {bl : List Bool} (I : OneI s a x bl) (h2 : 2 ≤ x) : OneI s a (s.nxt x) (bl.set (s.nd x).1 (decide ((s.nd x).2.1 = 0))) := by
  have o := h.ord x h2 I.lt
  have ov := nxt_var h.toOrd h2 I.lt
  have hn := nxt_lt h.toWf0 I.lt
  have hset : ∀ i, envB (bl.set (s.nd x).1 (decide ((s.nd x).2.1 = 0))) i = if i = (s.nd x).1 then decide ((s.nd x).2.1 = 0) else envB bl i := fun i => by
    unfold envB
    rw [List.getD_eq_getElem?_getD, List.getElem?_set, List.getD_eq_getElem?_getD]
    by_cases c : (s.nd x).1 = i
    · subst c; simp [I.len, o.1]
    · rw [if_neg c, if_neg (fun e => c e.symm)]
  refine ⟨hn, nxt_ne h h2 I.lt, by simp [I.len], fun i hi => ?_, fun i hi => ?_⟩
  · rw [I.eq i hi, oneE_step h.toOrd h2 I.lt, hset]
    rcases Nat.lt_trichotomy i (s.nd x).1 with c | c | c
    · rw [if_pos c, if_pos (by omega), if_neg (by omega)]
    · rw [if_neg (by omega), if_pos c, if_pos (by omega), if_pos c]
    · rw [if_neg (by omega), if_neg (by omega)]
      by_cases c2 : i < (s.nd (s.nxt x)).1
      · rw [if_pos c2, if_neg (by omega), I.rest i (by omega), oneE_pre h.toOrd _ _ hn (Nat.le_refl _) i c2]
      · rw [if_neg c2]
  · rw [hset, if_neg (by omega)]; exact I.rest i (by omega)
theorem OneI.fin {s : DS} (h : Inv s) {a x : Nat} {bl : List Bool} (I : OneI s a x bl) (h2 : x < 2) : bl = oneL s a := by
  have hx : x = 1 := by have := I.ne; omega
  subst hx
  apply List.ext_getElem?
  intro i
  by_cases c : i < s.vars
  · have h1 := I.eq i c
    rw [h.c1, if_pos c] at h1
    have h2 : bl[i]? = some (envB bl i) := by have : i < bl.length := (by rw [I.len]; exact c); simp [envB, this]
    rw [h2, ← h1]; simp [oneL, c]
  · rw [List.getElem?_eq_none (by rw [I.len]; omega), List.getElem?_eq_none (by rw [oneL_len]; omega)]
theorem OneI.start {s : DS} (h : Inv s) {a : Nat} (ha : a < s.nodes.length) (h0 : a ≠ 0) : OneI s a a (List.replicate s.vars false) :=
  ⟨ha, h0, by simp, fun i hi => by
    split
    · rename_i c
      rw [oneE_pre h.toOrd _ a ha (Nat.le_refl _) i c]; simp [envB, hi]
    · rfl, fun i hi => by
    unfold envB
    rw [List.getD_eq_getElem?_getD, List.getElem?_replicate]
    split <;> rfl⟩

theorem zeros_b (n : Nat) : zerosL (.bool false) (n * 1) = (List.replicate n false).map Value.bool := by rw [Nat.mul_one, zerosL_one rfl]; simp
theorem side_nxt (s : DS) (x : Nat) : sideF s x (s.nd x).1 (decide ((s.nd x).2.1 = 0)) = s.nxt x := by
  unfold sideF DS.nxt
  rw [if_neg (by simp)]
  by_cases c : (s.nd x).2.1 = 0 <;> simp [c]
theorem one_0 {W0 w : World} {M : MB} {s : DS} {R : List (Nat × MObj)} (h : Inv s) {a : Nat} (hz : a = 0) (hn : s.nodes.length ≤ 60000) (hd : Dg W0 w M s R) :
    FnC Try.prog 24 [M.p, I64 a] w (fun v w' => v = .tuple #[.slice none 0 0, .bool false, I64 0] ∧ Dg W0 w' M s R) := by
  obtain ⟨os, hok, hs⟩ := hd.ex
  have ha : a < s.nodes.length := by have := h.n2; omega
  refine FnC.enter Try.func24 rfl Try.ntmps24 rfl fun ρ => ?_
  refine s_seq ?_
  refine s_reg ?_
  refine l_q (by exact y_as_slice rfl) ?_
  refine l_q (by exact y_as_bool rfl) ?_
  refine l_q (by exact y_as_int rfl) ?_
  refine l_end ?_
  refine e_then ?_
  refine s_seq ?_
  refine s_seq ?_
  refine s_reg ?_
  refine l_q (by exact y_mv_ptr rfl) ?_
  refine l_q (by exact y_mv_int rfl) ?_
  refine l_w (w_buildSlice (pv := [(0, .int .i64 _)]) (vs := [_]) hs rfl rfl rfl rfl (fun b11 w hs hb11 => ?_))
  refine l_w (w_call rfl (badS_c (bb := b11) (e := 3) [a] (by simp) (lt1 ha) hn hs) rfl (fun _ w h => ?_))
  obtain ⟨rfl, hs⟩ := h; replace hs := stB_rotN (Q := [_]) hs
  refine l_end ?_
  refine e_then ?_
  refine cond_f rfl ?_
  refine s_skip ?_
  refine e_then ?_
  refine s_seq ?_
  refine s_seq ?_
  refine s_reg ?_
  refine l_q (by exact y_mv_int rfl) ?_
  refine l_q (by first | exact y_eql rfl rfl (decide_eq_true (by omega)) | exact y_eql rfl rfl (decide_eq_false (by omega)) | exact y_eql rfl rfl rfl) ?_
  refine l_end ?_
  refine e_then ?_
  refine cond_t rfl ?_
  refine s_seq ?_
  refine s_reg ?_
  refine l_q (by exact y_as_slice rfl) ?_
  refine l_q (by exact y_as_bool rfl) ?_
  refine l_q (by exact y_as_int rfl) ?_
  refine l_end ?_
  refine e_then ?_
  refine s_ret ?_
  refine e_then_r ?_
  exact ret_ [.slice _ _ _, .bool _, .int .i64 _] rfl ⟨rfl, rfl, rfl, trivial⟩ ⟨rfl, os, hok, stB_dropN (.cons _ (List.Sublist.refl _)) hs⟩
theorem one_c {W0 w : World} {M : MB} {s : DS} {R : List (Nat × MObj)} (h : Inv s) {a : Nat} (ha : a < s.nodes.length) (h0 : a ≠ 0) (hn : s.nodes.length ≤ 60000) (hd : Dg W0 w M s R) :
    FnC Try.prog 24 [M.p, I64 a] w (fun v w' => ∃ b, v = .tuple #[.slice (some ⟨b, 0, none⟩) s.vars s.vars, .bool true, I64 0] ∧ Dg W0 w' M s ((b, .cells ((oneL s a).map Value.bool) 4) :: R)) := by
  obtain ⟨os, hok, hs⟩ := hd.ex
  have W : Wf s := ⟨h.toWf0, hn⟩
  obtain ⟨g, hg, had⟩ := own_nd hok W
  haveI := inl_blk hg (flatN s.nodes) 39
  have hvs := h.vars
  refine FnC.enter Try.func24 rfl Try.ntmps24 rfl fun ρ => ?_
  refine s_seq ?_
  refine s_reg ?_
  refine l_q (by exact y_as_slice rfl) ?_
  refine l_q (by exact y_as_bool rfl) ?_
  refine l_q (by exact y_as_int rfl) ?_
  refine l_end ?_
  refine e_then ?_
  refine s_seq ?_
  refine s_seq ?_
  refine s_reg ?_
  refine l_q (by exact y_mv_ptr rfl) ?_
  refine l_q (by exact y_mv_int rfl) ?_
  refine l_w (w_buildSlice (pv := [(0, .int .i64 _)]) (vs := [_]) hs rfl rfl rfl rfl (fun b11 w hs hb11 => ?_))
  refine l_w (w_call rfl (badS_c (bb := b11) (e := 3) [a] (by simp) (lt1 ha) hn hs) rfl (fun _ w h => ?_))
  obtain ⟨rfl, hs⟩ := h; replace hs := stB_rotN (Q := [_]) hs
  refine l_end ?_
  refine e_then ?_
  refine cond_f rfl ?_
  refine s_skip ?_
  refine e_then ?_
  refine s_seq ?_
  refine s_seq ?_
  refine s_reg ?_
  refine l_q (by exact y_mv_int rfl) ?_
  refine l_q (by first | exact y_eql rfl rfl (decide_eq_true (by omega)) | exact y_eql rfl rfl (decide_eq_false (by omega)) | exact y_eql rfl rfl rfl) ?_
  refine l_end ?_
  refine e_then ?_
  refine cond_f rfl ?_
  refine s_skip ?_
  refine e_then ?_
  refine s_seq ?_
  refine s_reg ?_
  refine l_q (by exact y_mv_ptr rfl) ?_
  refine l_q (by first | exact y_nil rfl | exact y_nilf rfl) ?_
  refine l_q (by exact y_field rfl) ?_
  refine l_q (by exact y_ld (v := I64 s.vars) hs rfl rfl) ?_
  refine l_w (w_makeSlice (m := s.vars) hs rfl rfl (by omega) (by omega) (fun b19 w hs hb19 => ?_))
  rw [zeros_b] at hs; replace hs := stB_rotN (Q := [_]) hs
  refine l_q (by exact y_as_slice rfl) ?_
  refine l_end ?_
  refine e_then ?_
  refine s_seq ?_
  refine s_block ?_
  refine loop_st (X := Nat × List Bool) (fun y => [(0, M.p), (1, I64 y.1), (7, .slice (some ⟨b19, 0, none⟩) s.vars s.vars)])
    (fun y w => St W0 w (stB M s os ((b19, .cells (y.2.map Value.bool) 4) :: (b11, .cells [I64 a] 3) :: R)) ∧ OneI s a y.1 y.2) (fun y => s.vars - (s.nd y.1).1) (a, List.replicate s.vars false) ⟨rfl, rfl, rfl, trivial⟩ ⟨hs, OneI.start h ha h0⟩ ?_
  clear hs
  rintro ⟨x, bl⟩ ρ w ⟨hs, I⟩
  dsimp only at hs I ⊢
  have hx := I.lt
  have hbl := I.len
  by_cases c : 1 < x
  · have o := h.ord x (by omega) hx
    have hnv := nxt_var h.toOrd (show 2 ≤ x by omega) hx
    refine s_seq ?_
    refine s_seq ?_
    refine s_reg ?_
    refine l_q (by exact y_mv_int rfl) ?_
    refine l_q (by first | exact y_gtr rfl rfl (decide_eq_true (by omega)) | exact y_gtr rfl rfl (decide_eq_false (by omega)) | exact y_gtr rfl rfl rfl) ?_
    refine l_end ?_
    refine e_then ?_
    refine cond_t rfl ?_
    refine s_skip ?_
    refine e_then ?_
    refine s_block ?_
    refine s_seq ?_
    refine s_reg ?_
    refine l_q (by exact y_mv_ptr rfl) ?_
    refine l_q (by first | exact y_nil rfl | exact y_nilf rfl) ?_
    refine l_q (by exact y_field rfl) ?_
    refine l_q (by exact y_ld hs rfl rfl) ?_
    refine l_q (by exact y_mv_int rfl) ?_
    refine l_q (by exact y_indexT (off := 3 * x) rfl rfl (by omega) (by omega) had (by omega)) ?_
    refine l_q (by exact y_ldA (vs := [I64 (s.nd x).1, I64 (s.nd x).2.1, I64 (s.nd x).2.2]) hs rfl (flatN_room hx _) (flatN_take hx _)) ?_
    refine l_w (w_alloc (cs := [_, _, _]) hs rfl (fun b8 w hs hb8 => ?_))
    refine l_w (w_storeA (vs := [_, _, _]) hs rfl rfl rfl rfl rfl (fun w hs => ?_))
    refine l_end ?_
    refine e_then ?_
    refine s_seq ?_
    refine s_reg ?_
    refine l_q (by exact y_mv_slice rfl) ?_
    refine l_q (by exact y_field rfl) ?_
    refine l_q (by exact y_ld hs rfl rfl) ?_
    refine l_q (by exact y_field rfl) ?_
    refine l_q (by exact y_ld hs rfl rfl) ?_
    refine l_q (by exact y_eql (r := decide ((s.nd x).2.1 = 0)) rfl rfl (decide_eq_decide.2 (by omega))) ?_
    refine l_q (by exact y_indexT (off := (s.nd x).1) rfl rfl (by omega) (by omega) rfl (by omega)) ?_
    refine l_w (w_store (v := .bool (decide ((s.nd x).2.1 = 0))) (off := (s.nd x).1) hs rfl rfl rfl (by rw [Nat.blt_eq, List.length_map]; omega) (fun w hs => ?_))
    rw [← List.map_set] at hs; replace hs := stB_rot hs
    refine l_end ?_
    refine e_then ?_
    refine r_dr (.q 0 (.q 1 (.q 2 (.q 3 (.q 4 (.q 5 (.q 6 (.q 7 (.q 8 (.w 9 (.q 10 (.nil)))))))))))) 10 hs mixed (by kernel_rfl) (fun hs => ?_)
    refine c_q rfl (by first | exact hs | exact hs.subl | exact hs.cellAt rfl | trivial) (fun _ _ _ h => h) (fun w hs => by exact y_mv_ptr rfl) ?_
    refine c_q rfl (by first | exact hs | exact hs.subl | exact hs.cellAt rfl | trivial) (fun _ _ _ h => h) (fun w hs => by exact y_mv_int rfl) ?_
    refine c_q rfl (by first | exact hs | exact hs.subl | exact hs.cellAt rfl | trivial) (fun _ _ _ h => h) (fun w hs => by exact y_field rfl) ?_
    refine c_q rfl (by first | exact hs | exact hs.subl | exact hs.cellAt rfl | trivial) (fun _ _ _ h => h) (fun w hs => by exact y_ld hs rfl rfl) ?_
    refine c_q rfl (by first | exact hs | exact hs.subl | exact hs.cellAt rfl | trivial) (fun _ _ _ h => h) (fun w hs => by exact y_mv_slice rfl) ?_
    refine c_q rfl (by first | exact hs | exact hs.subl | exact hs.cellAt rfl | trivial) (fun _ _ _ h => h) (fun w hs => by exact y_field rfl) ?_
    refine c_q rfl (by first | exact hs | exact hs.subl | exact hs.cellAt rfl | trivial) (fun _ _ _ h => h) (fun w hs => by exact y_ld hs rfl rfl) ?_
    refine c_q rfl (by first | exact hs | exact hs.subl | exact hs.cellAt rfl | trivial) (fun _ _ _ h => h) (fun w hs => by exact y_indexT (off := (s.nd x).1) rfl rfl (by omega) (by omega) rfl (by omega)) ?_
    refine c_q rfl (by first | exact hs | exact hs.subl | exact hs.cellAt rfl | trivial) (fun _ _ _ h => h) (fun w hs => by exact y_ld (v := .bool (decide ((s.nd x).2.1 = 0))) hs rfl (by simp [hbl, o.1])) ?_
    refine c_w rfl (w_call rfl (side_c W hok (s.nd x).1 (decide ((s.nd x).2.1 = 0)) hx hs) rfl (fun _ w h => ?_))
    obtain ⟨rfl, hs⟩ := h
    refine ⟨fun _ => by first | exact hs | exact hs.subl | exact hs.cellAt rfl | trivial, ?_⟩
    refine c_q rfl (by first | exact hs | exact hs.subl | exact hs.cellAt rfl | trivial) (fun _ _ _ h => h) (fun w hs => by exact y_as_int rfl) ?_
    refine c_end ?_
    refine e_blk ?_
    refine e_then ?_
    rw [side_nxt]
    exact ⟨(s.nxt x, bl.set (s.nd x).1 (decide ((s.nd x).2.1 = 0))), _, nx ⟨rfl, rfl, rfl, trivial⟩, ⟨stB_dropN (.cons _ (List.Sublist.refl _)) hs, I.next h (by omega)⟩, by dsimp only; omega⟩
  · refine s_seq ?_
    refine s_seq ?_
    refine s_reg ?_
    refine l_q (by exact y_mv_int rfl) ?_
    refine l_q (by first | exact y_gtr rfl rfl (decide_eq_true (by omega)) | exact y_gtr rfl rfl (decide_eq_false (by omega)) | exact y_gtr rfl rfl rfl) ?_
    refine l_end ?_
    refine e_then ?_
    refine cond_f rfl ?_
    refine s_exit ?_
    refine e_then_x ?_
    refine e_then_x ?_
    refine e_blk_x ?_
    refine e_then ?_
    refine s_seq ?_
    refine s_reg ?_
    refine l_q (by exact y_mv_slice rfl) ?_
    refine l_q (by exact y_as_slice rfl) ?_
    refine l_q (by exact y_as_bool rfl) ?_
    refine l_q (by exact y_as_int rfl) ?_
    refine l_end ?_
    refine e_then ?_
    refine s_ret ?_
    rw [I.fin h (by omega)] at hs
    exact ret_ [.slice _ _ _, .bool _, .int .i64 _] rfl ⟨rfl, rfl, rfl, trivial⟩ ⟨b19, rfl, os, hok, stB_dropN (.cons_cons _ (.cons _ (List.Sublist.refl _))) hs⟩
end Go.Proofs.Ytfjniocobcoepaa
