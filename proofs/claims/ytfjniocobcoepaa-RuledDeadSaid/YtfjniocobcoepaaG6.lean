/- Facts on the functions and types of this seat that its laws are proved from: contracts under the premises that each theorem names. -/
import Derived.Test.YtfjniocobcoepaaG5
set_option linter.unusedSimpArgs false
set_option linter.unusedVariables false
set_option linter.unnecessarySimpa false
namespace Go.Proofs.Ytfjniocobcoepaa
open Go Go.RowKit PB
set_option linter.unusedVariables false
set_option linter.unusedSimpArgs false

structure Dg (W0 w : World) (M : MB) (s : DS) (R : List (Nat × MObj)) : Prop where
  ex : ∃ os : OS, os.ok (flatN s.nodes) s.nodes.length 3 ∧ St W0 w (stB M s os R)
theorem stB_rotN {W0 w : World} {M : MB} {s : DS} {os : OS} : ∀ {Q R : List (Nat × MObj)}, St W0 w (Q ++ stB M s os R) → St W0 w (stB M s os (Q ++ R)) := by
  intro Q R h
  refine h.perm ?_
  refine List.perm_middle.trans (List.Perm.cons _ ?_)
  generalize os.blk (flatN s.nodes) 39 = B
  refine (List.perm_append_comm_assoc Q B _).trans (List.Perm.append_left _ ?_)
  exact List.perm_middle.trans (List.Perm.cons _ List.perm_middle)
theorem Dg.sub {W0 w : World} {M : MB} {s : DS} {Q R : List (Nat × MObj)} (hs : R.Sublist Q) (h : Dg W0 w M s Q) : Dg W0 w M s R := by
  obtain ⟨os, h1, h2⟩ := h.ex
  exact ⟨os, h1, stB_dropN hs h2⟩
theorem Dg.rest {W0 w : World} {M : MB} {s : DS} {R : List (Nat × MObj)} (h : Dg W0 w M s R) : St W0 w R := by
  obtain ⟨os, h1, h2⟩ := h.ex
  refine h2.sub (.cons _ ?_)
  exact List.Sublist.trans (.cons _ (.cons _ (List.Sublist.refl _))) (List.sublist_append_right _ _)

/-! ### bad -/
theorem own_nat {xs : List Nat} {i : Nat} (h : i < xs.length) : (xs.map fun (n : Nat) => I64 n)[i]? = some (I64 (xs.getD i 0 : Nat)) := by simp [h]
theorem badS_c {W0 w : World} {L : List (Nat × MObj)} {M : MB} {s : DS} {os : OS} {bb : Nat} {e : TypeId} (xs : List Nat) (hl : xs.length ≤ 10) (ha : ∀ a ∈ xs, a < s.nodes.length) (hn : s.nodes.length ≤ 60000)
    [i1 : InL M.b (.cells [I64 s.vars, .slice os.ad s.nodes.length os.cap, .map (some M.bi), .map (some M.bd)] 73) L] [i2 : InL bb (.cells (xs.map fun (n : Nat) => I64 n) e) L] (hs : St W0 w L) :
    FnC Try.prog 34 [M.p, .slice (some ⟨bb, 0, none⟩) xs.length xs.length] w (fun v w' => v = .bool false ∧ St W0 w' L) := by
  refine FnC.enter Try.func34 rfl Try.ntmps34 rfl fun ρ => ?_
  refine s_seq ?_
  refine s_reg ?_
  refine l_q (by exact y_as_bool rfl) ?_
  refine l_end ?_
  refine e_then ?_
  refine s_seq ?_
  refine s_seq ?_
  refine s_reg ?_
  refine l_q (by exact y_mv_slice rfl) ?_
  refine l_q (by exact y_len_slice rfl) ?_
  refine l_q (by exact y_mv_int rfl) ?_
  refine l_end ?_
  refine e_then ?_
  refine s_block ?_
  refine loop_st (X := Nat) (fun i => [(0, M.p), (7, .slice (some ⟨bb, 0, none⟩) xs.length xs.length), (8, I64 xs.length), (9, I64 i)])
    (fun i w => St W0 w L ∧ i ≤ xs.length) (fun i => xs.length - i) 0 ⟨rfl, rfl, rfl, rfl, trivial⟩ ⟨hs, by omega⟩ ?_
  clear hs
  rintro i ρ w ⟨hs, h1⟩
  by_cases c : i < xs.length
  · have hlt := ha (xs.getD i 0) (by simp [c])
    refine s_seq ?_
    refine s_reg ?_
    refine l_q (by first | exact y_lss rfl rfl (decide_eq_true (by omega)) | exact y_lss rfl rfl (decide_eq_false (by omega)) | exact y_lss rfl rfl rfl) ?_
    refine l_end ?_
    refine e_then ?_
    refine s_seq ?_
    refine cond_t rfl ?_
    refine s_skip ?_
    refine e_then ?_
    refine s_seq ?_
    refine s_block ?_
    refine s_seq ?_
    refine s_reg ?_
    refine l_q (by exact y_indexT (off := i) rfl rfl (by omega) (by omega) rfl (by omega)) ?_
    refine l_q (by exact y_ld (v := I64 ((xs.getD i 0 : Nat) : Int)) hs rfl (own_nat c)) ?_
    refine l_q (by exact y_as_int rfl) ?_
    refine l_end ?_
    refine e_then ?_
    refine s_seq ?_
    refine s_reg ?_
    refine l_q (by exact y_mv_int rfl) ?_
    refine l_q (by first | exact y_lss rfl rfl (decide_eq_true (by omega)) | exact y_lss rfl rfl (decide_eq_false (by omega)) | exact y_lss rfl rfl rfl) ?_
    refine l_q (by exact y_mv_bool rfl) ?_
    first | refine l_gskip rfl rfl ?_ | refine l_gskip_u rfl rfl ?_ | refine l_gdo rfl rfl (by exact y_mv_int rfl) ?_
    first | refine l_gskip rfl rfl ?_ | refine l_gskip_u rfl rfl ?_ | refine l_gdo rfl rfl (by exact y_mv_ptr rfl) ?_
    first | refine l_gskip rfl rfl ?_ | refine l_gskip_u rfl rfl ?_ | refine l_gdo rfl rfl (by first | exact y_nil rfl | exact y_nilf rfl) ?_
    first | refine l_gskip rfl rfl ?_ | refine l_gskip_u rfl rfl ?_ | refine l_gdo rfl rfl (by exact y_field rfl) ?_
    first | refine l_gskip rfl rfl ?_ | refine l_gskip_u rfl rfl ?_ | refine l_gdo rfl rfl (by exact y_ld hs rfl rfl) ?_
    first | refine l_gskip rfl rfl ?_ | refine l_gskip_u rfl rfl ?_ | refine l_gdo rfl rfl (by exact y_len_slice rfl) ?_
    first | refine l_gskip rfl rfl ?_ | refine l_gskip_u rfl rfl ?_ | refine l_gdo rfl rfl (by first | exact y_geq rfl rfl (decide_eq_true (by omega)) | exact y_geq rfl rfl (decide_eq_false (by omega)) | exact y_geq rfl rfl rfl) ?_
    refine l_q (by first | exact y_pk_bt rfl rfl | exact y_pk_bf rfl rfl) ?_
    refine l_end ?_
    refine e_then ?_
    refine cond_f rfl ?_
    refine s_skip ?_
    refine e_blk ?_
    refine e_then ?_
    refine s_reg ?_
    refine l_q (by first | exact y_addn rfl rfl (by omega) | exact y_add rfl rfl rfl) ?_
    refine l_q (by exact y_mv_int rfl) ?_
    refine l_end ?_
    refine e_then ?_
    exact ⟨i + 1, _, nx ⟨rfl, rfl, rfl, rfl, trivial⟩, ⟨hs, by omega⟩, by omega⟩
  · refine s_seq ?_
    refine s_reg ?_
    refine l_q (by first | exact y_lss rfl rfl (decide_eq_true (by omega)) | exact y_lss rfl rfl (decide_eq_false (by omega)) | exact y_lss rfl rfl rfl) ?_
    refine l_end ?_
    refine e_then ?_
    refine s_seq ?_
    refine cond_f rfl ?_
    refine s_exit ?_
    refine e_then_x ?_
    refine e_then_x ?_
    refine e_blk_x ?_
    refine e_then ?_
    refine s_seq ?_
    refine s_reg ?_
    refine l_q (by exact y_as_bool rfl) ?_
    refine l_end ?_
    refine e_then ?_
    refine s_ret ?_
    exact ret_ [.bool _] rfl ⟨rfl, trivial⟩ ⟨rfl, hs⟩

/-! ### If -/
def ifF (s : DS) (a b c : Nat) : DS × Nat := (chooseF (s.vars + 1) s a b c).getD (s, 0)
theorem if_some {s : DS} (h : Inv s) {a b c : Nat} (ha : a < s.nodes.length) (hb : b < s.nodes.length) (hc : c < s.nodes.length) : chooseF (s.vars + 1) s a b c = some ((ifF s a b c).1, (ifF s a b c).2) ∧ ChSpec s a b c (ifF s a b c).1 (ifF s a b c).2 := by
  obtain ⟨s', r, h1, h2⟩ := choose_spec (s.vars + 1) h ha hb hc (by omega)
  have : ifF s a b c = (s', r) := by unfold ifF; rw [h1]; rfl
  rw [this]
  exact ⟨h1, h2⟩
theorem if_spec {s : DS} (h : Inv s) {a b c : Nat} (ha : a < s.nodes.length) (hb : b < s.nodes.length) (hc : c < s.nodes.length) : ChSpec s a b c (ifF s a b c).1 (ifF s a b c).2 := (if_some h ha hb hc).2

theorem lt3 {a b c n : Nat} (ha : a < n) (hb : b < n) (hc : c < n) : ∀ x ∈ [a, b, c], x < n := by
  intro x hx
  simp only [List.mem_cons, List.not_mem_nil, or_false] at hx
  rcases hx with rfl | rfl | rfl <;> assumption
theorem if_c {W0 w : World} {M : MB} {s : DS} {R : List (Nat × MObj)} (h : Inv s) {a b c : Nat} (ha : a < s.nodes.length) (hb : b < s.nodes.length) (hc : c < s.nodes.length) (hn : (ifF s a b c).1.nodes.length ≤ 60000) (hd : Dg W0 w M s R) :
    FnC Try.prog 19 [M.p, I64 a, I64 b, I64 c] w (fun v w' => v = .tuple #[I64 ((ifF s a b c).2 : Nat), I64 0] ∧ Dg W0 w' M (ifF s a b c).1 R) := by
  obtain ⟨os, hok, hs⟩ := hd.ex
  have hq := if_some h ha hb hc
  have hlen := hq.2.ext.len
  refine FnC.enterD Try.func19 rfl Try.ntmps19 rfl fun ρ => ?_
  refine s_seq ?_
  refine s_reg ?_
  refine l_q (by exact y_as_int rfl) ?_
  refine l_w (w_alloc (cs := [_]) hs rfl (fun b9 w hs hb9 => ?_))
  refine l_end ?_
  refine e_then ?_
  refine s_seq ?_
  refine s_seq ?_
  refine s_reg ?_
  refine l_q (by exact y_mv_ptr rfl) ?_
  refine l_q (by exact y_mv_int rfl) ?_
  refine l_q (by exact y_mv_int rfl) ?_
  refine l_q (by exact y_mv_int rfl) ?_
  refine l_w (w_buildSlice (pv := [(0, .int .i64 _), (1, .int .i64 _), (2, .int .i64 _)]) (vs := [_, _, _]) hs rfl rfl rfl rfl (fun b14 w hs hb14 => ?_))
  refine l_w (w_call rfl (badS_c (bb := b14) (e := 3) [a, b, c] (by simp) (lt3 ha hb hc) (by omega) hs) rfl (fun _ w h => ?_))
  obtain ⟨rfl, hs⟩ := h; replace hs := stB_rotN (Q := [_, _]) hs
  refine l_end ?_
  refine e_then ?_
  refine cond_f rfl ?_
  refine s_skip ?_
  refine e_then ?_
  refine s_seq ?_
  refine s_reg ?_
  refine l_w (w_defer rfl rfl ?_)
  refine l_end ?_
  refine e_then ?_
  refine s_seq ?_
  refine s_reg ?_
  refine l_q (by exact y_mv_ptr rfl) ?_
  refine l_q (by exact y_mv_int rfl) ?_
  refine l_q (by exact y_mv_int rfl) ?_
  refine l_q (by exact y_mv_int rfl) ?_
  refine l_w (w_call rfl (choose_c _ h.toWf0 ha hb hc hq.1 hn hok hs) rfl (fun _ w h => ?_))
  obtain ⟨rfl, os', hok', hs⟩ := h
  refine l_q (by exact y_as_int rfl) ?_
  refine l_w (w_store (v := .int .i64 _) hs rfl rfl rfl rfl (fun w hs => ?_))
  refine l_end ?_
  refine e_then ?_
  refine s_ret ?_
  exact endD1 [.int .i64 _, .int .i64 _] (guard_idle _) rfl ⟨rfl, ⟨_, rfl, run_ld1 hs rfl⟩, trivial⟩ ⟨rfl, os', hok', stB_dropN (.cons _ (.cons _ (List.Sublist.refl _))) hs⟩
end Go.Proofs.Ytfjniocobcoepaa
