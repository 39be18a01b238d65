/- Facts on the functions and types of this seat that its laws are proved from: contracts under the premises that each theorem names. -/
import Derived.Test.YtfjniocobcoepaaG9
set_option linter.unusedSimpArgs false
set_option linter.unusedVariables false
set_option linter.unnecessarySimpa false
namespace Go.Proofs.Ytfjniocobcoepaa
open Go Go.RowKit PB
set_option linter.unusedVariables false
set_option linter.unusedSimpArgs false

/-! ### The first values -/
def DS.nxt (s : DS) (a : Nat) : Nat := if (s.nd a).2.1 = 0 then (s.nd a).2.2 else (s.nd a).2.1
def oneF (s : DS) : Nat → Nat → Nat → Bool
  | 0, _, _ => false
  | f + 1, a, i => if a < 2 then false else if i = (s.nd a).1 then decide ((s.nd a).2.1 = 0) else oneF s f (s.nxt a) i
def oneE (s : DS) (a i : Nat) : Bool := oneF s (s.vars + 1) a i
theorem nxt_lt {s : DS} (h : Wf0 s) {a : Nat} (ha : a < s.nodes.length) : s.nxt a < s.nodes.length := by
  unfold DS.nxt; split
  · exact h.hi a ha
  · exact h.lo a ha
theorem nxt_var {s : DS} (h : Ord s) {a : Nat} (h2 : 2 ≤ a) (ha : a < s.nodes.length) : (s.nd a).1 < (s.nd (s.nxt a)).1 := by
  have o := h.ord a h2 ha
  unfold DS.nxt; split
  · exact o.2.2
  · exact o.2.1
theorem nxt_ne {s : DS} (h : Inv s) {a : Nat} (h2 : 2 ≤ a) (ha : a < s.nodes.length) : s.nxt a ≠ 0 := by
  have := h.red a h2 ha
  unfold DS.nxt; split
  · omega
  · assumption
theorem oneF_up {s : DS} (h : Ord s) (i : Nat) : ∀ (f a : Nat), a < s.nodes.length → s.vars ≤ f + (s.nd a).1 → oneF s f a i = oneF s (f + 1) a i := by
  intro f
  induction f with
  | zero =>
    intro a ha hv
    by_cases c : a < 2
    · simp [oneF, c]
    · have := (h.ord a (by omega) ha).1; omega
  | succ f ih =>
    intro a ha hv
    by_cases c : a < 2
    · simp [oneF, c]
    · have o := nxt_var h (by omega) ha
      rw [oneF, oneF, if_neg c, if_neg c]
      split
      · rfl
      · exact ih _ (nxt_lt h.toWf0 ha) (by omega)
theorem oneE_low (s : DS) {a : Nat} (h : a < 2) (i : Nat) : oneE s a i = false := by simp [oneE, oneF, h]
theorem oneE_step {s : DS} (h : Ord s) {a : Nat} (h2 : 2 ≤ a) (ha : a < s.nodes.length) (i : Nat) : oneE s a i = if i = (s.nd a).1 then decide ((s.nd a).2.1 = 0) else oneE s (s.nxt a) i := by
  have o := nxt_var h h2 ha
  rw [oneE, oneF, if_neg (by omega)]
  split
  · rfl
  · exact oneF_up h i _ _ (nxt_lt h.toWf0 ha) (by omega)
/-- Ahead of a diagram's variable nothing is true. -/
theorem oneE_pre {s : DS} (h : Ord s) : ∀ (m a : Nat), a < s.nodes.length → s.vars - (s.nd a).1 ≤ m → ∀ i, i < (s.nd a).1 → oneE s a i = false := by
  intro m
  induction m with
  | zero =>
    intro a ha hm i hi
    by_cases c : a < 2
    · exact oneE_low s c i
    · have := (h.ord a (by omega) ha).1; omega
  | succ m ih =>
    intro a ha hm i hi
    by_cases c : a < 2
    · exact oneE_low s c i
    · have o := nxt_var h (by omega) ha
      have ov := (h.ord a (by omega) ha).1
      rw [oneE_step h (by omega) ha, if_neg (by omega)]
      exact ih _ (nxt_lt h.toWf0 ha) (by omega) i (by omega)
theorem ev_nxt {s : DS} (h : Ord s) {a : Nat} (h2 : 2 ≤ a) (ha : a < s.nodes.length) {e : Nat → Bool} (he : e (s.nd a).1 = decide ((s.nd a).2.1 = 0)) : ev s a e = ev s (s.nxt a) e := by
  rw [ev_step h e h2 ha, he]
  unfold DS.nxt
  split <;> simp_all
theorem one_true {s : DS} (h : Inv s) : ∀ (m a : Nat), a < s.nodes.length → s.vars - (s.nd a).1 ≤ m → a ≠ 0 → ev s a (oneE s a) = true := by
  intro m
  induction m with
  | zero =>
    intro a ha hm h0
    by_cases c : a < 2
    · have : a = 1 := by omega
      rw [this, ev_1]
    · have := (h.ord a (by omega) ha).1; omega
  | succ m ih =>
    intro a ha hm h0
    by_cases c : a < 2
    · have : a = 1 := by omega
      rw [this, ev_1]
    · have h2 : 2 ≤ a := by omega
      have o := nxt_var h.toOrd h2 ha
      have ov := (h.ord a h2 ha).1
      have hn := nxt_lt h.toWf0 ha
      rw [ev_nxt h.toOrd h2 ha (by rw [oneE_step h.toOrd h2 ha, if_pos rfl])]
      rw [ev_indep h.toOrd (v := (s.nd a).1) (y := oneE s (s.nxt a)) (fun i hi => by rw [oneE_step h.toOrd h2 ha, if_neg hi]) _ _ hn (Nat.le_refl _) o]
      exact ih _ hn (by omega) (nxt_ne h h2 ha)
theorem one_min {s : DS} (h : Inv s) : ∀ (m a : Nat) (e : Nat → Bool) (p : Nat), a < s.nodes.length → s.vars - (s.nd a).1 ≤ m → ev s a e = true → (∀ q, q < p → e q = oneE s a q) → oneE s a p = true → e p = true := by
  intro m
  induction m with
  | zero =>
    intro a e p ha hm _ _ hp
    by_cases c : a < 2
    · rw [oneE_low s c] at hp; cases hp
    · have := (h.ord a (by omega) ha).1; omega
  | succ m ih =>
    intro a e p ha hm he hq hp
    by_cases c : a < 2
    · rw [oneE_low s c] at hp; cases hp
    · have h2 : 2 ≤ a := by omega
      have o := nxt_var h.toOrd h2 ha
      have ov := (h.ord a h2 ha).1
      have hn := nxt_lt h.toWf0 ha
      have hst := oneE_step h.toOrd h2 ha
      rcases Nat.lt_trichotomy p (s.nd a).1 with c1 | c1 | c1
      · rw [oneE_pre h.toOrd _ a ha (Nat.le_refl _) p c1] at hp; cases hp
      · rw [hst, if_pos c1] at hp
        have hlo := of_decide_eq_true hp
        cases hep : e p with
        | true => rfl
        | false =>
          rw [ev_step h.toOrd e h2 ha, ← c1, hep, hlo] at he
          simp [ev_0] at he
      · have hv := hq (s.nd a).1 c1
        rw [hst, if_pos rfl] at hv
        rw [ev_nxt h.toOrd h2 ha hv] at he
        let e' : Nat → Bool := fun i => if i = (s.nd a).1 then false else e i
        have hne : ∀ i, i ≠ (s.nd a).1 → e i = e' i := fun i hi => by simp only [e']; rw [if_neg hi]
        rw [ev_indep h.toOrd hne _ _ hn (Nat.le_refl _) o] at he
        have := ih (s.nxt a) e' p hn (by omega) he (fun q hqp => by
          by_cases cq : q = (s.nd a).1
          · simp only [e']; rw [if_pos cq, oneE_pre h.toOrd _ _ hn (Nat.le_refl _) q (by omega)]
          · simp only [e']; rw [if_neg cq, hq q hqp, hst, if_neg cq]) (by rw [hst, if_neg (by omega)] at hp; exact hp)
        simp only [e'] at this
        rwa [if_neg (by omega)] at this
/-- Of two values that differ, the diagram's first ones are the smaller ones. -/
theorem one_min' {s : DS} (h : Inv s) {a : Nat} (ha : a < s.nodes.length) {e : Nat → Bool} {p : Nat} (he : ev s a e = true) (hq : ∀ q, q < p → e q = oneE s a q) (hp : oneE s a p = true) : e p = true := one_min h _ a e p ha (Nat.le_refl _) he hq hp
theorem one_true' {s : DS} (h : Inv s) {a : Nat} (ha : a < s.nodes.length) (h0 : a ≠ 0) : ev s a (oneE s a) = true := one_true h _ a ha (Nat.le_refl _) h0
theorem ev_agree {s : DS} (h : Ord s) {x y : Nat → Bool} (hxy : ∀ i, i < s.vars → x i = y i) : ∀ (m a : Nat), a < s.nodes.length → s.vars - (s.nd a).1 ≤ m → ev s a x = ev s a y := by
  intro m
  induction m with
  | zero =>
    intro a ha hm
    by_cases c : a < 2
    · have : a = 0 ∨ a = 1 := by omega
      rcases this with rfl | rfl
      · rw [ev_0, ev_0]
      · rw [ev_1, ev_1]
    · have := (h.ord a (by omega) ha).1; omega
  | succ m ih =>
    intro a ha hm
    by_cases c : a < 2
    · have : a = 0 ∨ a = 1 := by omega
      rcases this with rfl | rfl
      · rw [ev_0, ev_0]
      · rw [ev_1, ev_1]
    · have o := h.ord a (by omega) ha
      rw [ev_step h x (by omega) ha, ev_step h y (by omega) ha, hxy (s.nd a).1 o.1, ih _ (h.hi a ha) (by omega), ih _ (h.lo a ha) (by omega)]

/-! ### Value -/
def envB (bl : List Bool) (v : Nat) : Bool := bl.getD v false
theorem bool_get {bl : List Bool} {i : Nat} (h : i < bl.length) : (bl.map Value.bool)[i]? = some (.bool (envB bl i)) := by simp [envB, h]
theorem value_c {W0 w : World} {M : MB} {s : DS} {R : List (Nat × MObj)} {bb : Nat} {e : TypeId} {bl : List Bool} (h : Inv s) {a : Nat} (ha : a < s.nodes.length) (hn : s.nodes.length ≤ 60000) (hbl : bl.length = s.vars) [ib : InL bb (.cells (bl.map Value.bool) e) R] (hd : Dg W0 w M s R) :
    FnC Try.prog 25 [M.p, I64 a, .slice (some ⟨bb, 0, none⟩) bl.length bl.length] w (fun v w' => v = .tuple #[.bool (ev s a (envB bl)), I64 0] ∧ Dg W0 w' M s R) := by
  obtain ⟨os, hok, hs⟩ := hd.ex
  have W : Wf s := ⟨h.toWf0, hn⟩
  obtain ⟨g, hg, had⟩ := own_nd hok W
  haveI := inl_blk hg (flatN s.nodes) 39
  have hvs := h.vars
  refine FnC.enter Try.func25 rfl Try.ntmps25 rfl fun ρ => ?_
  refine s_seq ?_
  refine s_reg ?_
  refine l_q (by exact y_as_bool rfl) ?_
  refine l_q (by exact y_as_int rfl) ?_
  refine l_end ?_
  refine e_then ?_
  refine s_seq ?_
  refine s_block ?_
  refine s_seq ?_
  refine s_reg ?_
  refine l_q (by exact y_mv_ptr rfl) ?_
  refine l_q (by exact y_mv_int rfl) ?_
  refine l_w (w_buildSlice (pv := [(0, .int .i64 _)]) (vs := [_]) hs rfl rfl rfl rfl (fun b11 w hs hb11 => ?_))
  refine l_w (w_call rfl (badS_c (bb := b11) (e := 3) [a] (by simp) (lt1 ha) hn hs) rfl (fun _ w h => ?_))
  obtain ⟨rfl, hs⟩ := h; replace hs := stB_rotN (Q := [_]) hs
  refine l_q (by exact y_as_bool rfl) ?_
  refine l_end ?_
  refine e_then ?_
  refine cond_f rfl ?_
  refine s_seq ?_
  refine s_reg ?_
  refine l_q (by exact y_mv_slice rfl) ?_
  refine l_q (by exact y_len_slice rfl) ?_
  refine l_q (by exact y_mv_ptr rfl) ?_
  refine l_q (by first | exact y_nil rfl | exact y_nilf rfl) ?_
  refine l_q (by exact y_field rfl) ?_
  refine l_q (by exact y_ld (v := I64 s.vars) hs rfl rfl) ?_
  refine l_q (by first | exact y_neq rfl rfl (decide_eq_true (by omega)) | exact y_neq rfl rfl (decide_eq_false (by omega)) | exact y_neq rfl rfl rfl) ?_
  refine l_q (by exact y_as_bool rfl) ?_
  refine l_end ?_
  refine e_then ?_
  refine cond_f rfl ?_
  refine s_skip ?_
  refine e_blk ?_
  refine e_then ?_
  refine s_seq ?_
  refine s_block ?_
  refine loop_st (X := Nat) (fun x => [(0, M.p), (1, I64 x), (2, .slice (some ⟨bb, 0, none⟩) bl.length bl.length)])
    (fun x w => St W0 w (stB M s os ([(b11, .cells [I64 a] 3)] ++ R)) ∧ x < s.nodes.length ∧ ev s a (envB bl) = ev s x (envB bl)) (fun x => s.vars - (s.nd x).1) a ⟨rfl, rfl, rfl, trivial⟩ ⟨hs, ha, rfl⟩ ?_
  clear hs
  rintro x ρ w ⟨hs, hx, hev⟩
  by_cases c : 1 < x
  · have o := h.ord x (by omega) hx
    have hbit := bool_get (bl := bl) (i := (s.nd x).1) (by omega)
    have hsv := side_var h.toOrd hx (Nat.le_refl _) o.1 (envB bl (s.nd x).1)
    refine s_seq ?_
    refine s_seq ?_
    refine s_reg ?_
    refine l_q (by exact y_mv_int rfl) ?_
    refine l_q (by first | exact y_gtr rfl rfl (decide_eq_true (by omega)) | exact y_gtr rfl rfl (decide_eq_false (by omega)) | exact y_gtr rfl rfl rfl) ?_
    refine l_end ?_
    refine e_then ?_
    refine cond_t rfl ?_
    refine s_skip ?_
    refine e_then ?_
    refine s_block ?_
    refine r_dr (.q 0 (.q 1 (.q 2 (.q 3 (.q 4 (.q 5 (.q 6 (.q 7 (.q 8 (.q 9 (.q 10 (.q 11 (.q 12 (.q 13 (.q 14 (.q 15 (.q 16 (.q 17 (.q 18 (.q 19 (.q 20 (.w 21 (.q 22 (.nil)))))))))))))))))))))))) 22 hs mixed (by kernel_rfl) (fun hs => ?_)
    refine c_q rfl (by first | exact hs | exact hs.subl | exact hs.cellAt rfl | trivial) (fun _ _ _ h => h) (fun w hs => by exact y_mv_ptr rfl) ?_
    refine c_q rfl (by first | exact hs | exact hs.subl | exact hs.cellAt rfl | trivial) (fun _ _ _ h => h) (fun w hs => by exact y_mv_int rfl) ?_
    refine c_q rfl (by first | exact hs | exact hs.subl | exact hs.cellAt rfl | trivial) (fun _ _ _ h => h) (fun w hs => by exact y_mv_ptr rfl) ?_
    refine c_q rfl (by first | exact hs | exact hs.subl | exact hs.cellAt rfl | trivial) (fun _ _ _ h => h) (fun w hs => by first | exact y_nil rfl | exact y_nilf rfl) ?_
    refine c_q rfl (by first | exact hs | exact hs.subl | exact hs.cellAt rfl | trivial) (fun _ _ _ h => h) (fun w hs => by exact y_field rfl) ?_
    refine c_q rfl (by first | exact hs | exact hs.subl | exact hs.cellAt rfl | trivial) (fun _ _ _ h => h) (fun w hs => by exact y_ld hs rfl rfl) ?_
    refine c_q rfl (by first | exact hs | exact hs.subl | exact hs.cellAt rfl | trivial) (fun _ _ _ h => h) (fun w hs => by exact y_mv_int rfl) ?_
    refine c_q rfl (by first | exact hs | exact hs.subl | exact hs.cellAt rfl | trivial) (fun _ _ _ h => h) (fun w hs => by exact y_indexT (off := 3 * x) rfl rfl (by omega) (by omega) had (by omega)) ?_
    refine c_q rfl (by first | exact hs | exact hs.subl | exact hs.cellAt rfl | trivial) (fun _ _ _ h => h) (fun w hs => by exact y_field rfl) ?_
    refine c_q rfl (by first | exact hs | exact hs.subl | exact hs.cellAt rfl | trivial) (fun _ _ _ h => h) (fun w hs => by exact y_ld (v := I64 (s.nd x).1) hs rfl (flatN_get hx _)) ?_
    refine c_q rfl (by first | exact hs | exact hs.subl | exact hs.cellAt rfl | trivial) (fun _ _ _ h => h) (fun w hs => by exact y_mv_slice rfl) ?_
    refine c_q rfl (by first | exact hs | exact hs.subl | exact hs.cellAt rfl | trivial) (fun _ _ _ h => h) (fun w hs => by exact y_mv_ptr rfl) ?_
    refine c_q rfl (by first | exact hs | exact hs.subl | exact hs.cellAt rfl | trivial) (fun _ _ _ h => h) (fun w hs => by first | exact y_nil rfl | exact y_nilf rfl) ?_
    refine c_q rfl (by first | exact hs | exact hs.subl | exact hs.cellAt rfl | trivial) (fun _ _ _ h => h) (fun w hs => by exact y_field rfl) ?_
    refine c_q rfl (by first | exact hs | exact hs.subl | exact hs.cellAt rfl | trivial) (fun _ _ _ h => h) (fun w hs => by exact y_ld hs rfl rfl) ?_
    refine c_q rfl (by first | exact hs | exact hs.subl | exact hs.cellAt rfl | trivial) (fun _ _ _ h => h) (fun w hs => by exact y_mv_int rfl) ?_
    refine c_q rfl (by first | exact hs | exact hs.subl | exact hs.cellAt rfl | trivial) (fun _ _ _ h => h) (fun w hs => by exact y_indexT (off := 3 * x) rfl rfl (by omega) (by omega) had (by omega)) ?_
    refine c_q rfl (by first | exact hs | exact hs.subl | exact hs.cellAt rfl | trivial) (fun _ _ _ h => h) (fun w hs => by exact y_field rfl) ?_
    refine c_q rfl (by first | exact hs | exact hs.subl | exact hs.cellAt rfl | trivial) (fun _ _ _ h => h) (fun w hs => by exact y_ld (v := I64 (s.nd x).1) hs rfl (flatN_get hx _)) ?_
    refine c_q rfl (by first | exact hs | exact hs.subl | exact hs.cellAt rfl | trivial) (fun _ _ _ h => h) (fun w hs => by exact y_indexT (off := (s.nd x).1) rfl rfl (by omega) (by omega) rfl (by omega)) ?_
    refine c_q rfl (by first | exact hs | exact hs.subl | exact hs.cellAt rfl | trivial) (fun _ _ _ h => h) (fun w hs => by exact y_ld (v := .bool (envB bl (s.nd x).1)) hs rfl hbit) ?_
    refine c_w rfl (w_call rfl (side_c W hok (s.nd x).1 (envB bl (s.nd x).1) hx hs) rfl (fun _ w h => ?_))
    obtain ⟨rfl, hs⟩ := h
    refine ⟨fun _ => by first | exact hs | exact hs.subl | exact hs.cellAt rfl | trivial, ?_⟩
    refine c_q rfl (by first | exact hs | exact hs.subl | exact hs.cellAt rfl | trivial) (fun _ _ _ h => h) (fun w hs => by exact y_as_int rfl) ?_
    refine c_end ?_
    refine e_blk ?_
    refine e_then ?_
    exact ⟨sideF s x (s.nd x).1 (envB bl (s.nd x).1), _, nx ⟨rfl, rfl, rfl, trivial⟩, ⟨hs, sideF_lt h.toWf0 hx _, by rw [hev, side_ev h.toOrd hx (Nat.le_refl _) o.1 rfl]⟩, by omega⟩
  · have e1 : decide (x = 1) = ev s x (envB bl) := by
      have : x = 0 ∨ x = 1 := by omega
      rcases this with rfl | rfl
      · rw [ev_0]; rfl
      · rw [ev_1]; rfl
    rw [hev, ← e1]
    by_cases c1 : x = 1
    · refine s_seq ?_
      refine s_seq ?_
      refine s_reg ?_
      refine l_q (by exact y_mv_int rfl) ?_
      refine l_q (by first | exact y_gtr rfl rfl (decide_eq_true (by omega)) | exact y_gtr rfl rfl (decide_eq_false (by omega)) | exact y_gtr rfl rfl rfl) ?_
      refine l_end ?_
      refine e_then ?_
      refine cond_f rfl ?_
      refine s_exit ?_
      refine e_then_x ?_
      refine e_then_x ?_
      refine e_blk_x ?_
      refine e_then ?_
      refine s_seq ?_
      refine s_reg ?_
      refine l_q (by exact y_mv_int rfl) ?_
      refine l_q (by first | exact y_eql rfl rfl (decide_eq_true (by omega)) | exact y_eql rfl rfl (decide_eq_false (by omega)) | exact y_eql rfl rfl rfl) ?_
      refine l_q (by exact y_as_bool rfl) ?_
      refine l_q (by exact y_as_int rfl) ?_
      refine l_end ?_
      refine e_then ?_
      refine s_ret ?_
      exact ret_ [.bool _, .int .i64 _] rfl ⟨rfl, rfl, trivial⟩ ⟨by rw [decide_eq_true c1]; rfl, os, hok, stB_dropN (.cons _ (List.Sublist.refl _)) hs⟩
    · refine s_seq ?_
      refine s_seq ?_
      refine s_reg ?_
      refine l_q (by exact y_mv_int rfl) ?_
      refine l_q (by first | exact y_gtr rfl rfl (decide_eq_true (by omega)) | exact y_gtr rfl rfl (decide_eq_false (by omega)) | exact y_gtr rfl rfl rfl) ?_
      refine l_end ?_
      refine e_then ?_
      refine cond_f rfl ?_
      refine s_exit ?_
      refine e_then_x ?_
      refine e_then_x ?_
      refine e_blk_x ?_
      refine e_then ?_
      refine s_seq ?_
      refine s_reg ?_
      refine l_q (by exact y_mv_int rfl) ?_
      refine l_q (by first | exact y_eql rfl rfl (decide_eq_true (by omega)) | exact y_eql rfl rfl (decide_eq_false (by omega)) | exact y_eql rfl rfl rfl) ?_
      refine l_q (by exact y_as_bool rfl) ?_
      refine l_q (by exact y_as_int rfl) ?_
      refine l_end ?_
      refine e_then ?_
      refine s_ret ?_
      exact ret_ [.bool _, .int .i64 _] rfl ⟨rfl, rfl, trivial⟩ ⟨by rw [decide_eq_false c1]; rfl, os, hok, stB_dropN (.cons _ (List.Sublist.refl _)) hs⟩
end Go.Proofs.Ytfjniocobcoepaa
