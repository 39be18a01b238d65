/- Facts on the functions and types of this seat that its laws are proved from: contracts under the premises that each theorem names. -/
import Derived.Test.YtfjniocobcoepaaG6
set_option linter.unusedSimpArgs false
set_option linter.unusedVariables false
set_option linter.unnecessarySimpa false
namespace Go.Proofs.Ytfjniocobcoepaa
open Go Go.RowKit PB
set_option linter.unusedVariables false
set_option linter.unusedSimpArgs false

theorem not_c {W0 w : World} {M : MB} {s : DS} {R : List (Nat × MObj)} (h : Inv s) {a : Nat} (ha : a < s.nodes.length) (hn : (ifF s a 0 1).1.nodes.length ≤ 60000) (hd : Dg W0 w M s R) :
    FnC Try.prog 15 [M.p, I64 a] w (fun v w' => v = .tuple #[I64 ((ifF s a 0 1).2 : Nat), I64 0] ∧ Dg W0 w' M (ifF s a 0 1).1 R) := by
  have h2 := h.n2
  have h0 : 0 < s.nodes.length := by omega
  have h1 : 1 < s.nodes.length := by omega
  refine FnC.enter Try.func15 rfl Try.ntmps15 rfl fun ρ => ?_
  refine s_seq ?_
  refine s_reg ?_
  refine l_q (by exact y_as_int rfl) ?_
  refine l_q (by exact y_as_int rfl) ?_
  refine l_end ?_
  refine e_then ?_
  refine s_seq ?_
  refine s_reg ?_
  refine l_q (by exact y_mv_ptr rfl) ?_
  refine l_q (by exact y_mv_int rfl) ?_
  refine l_w (w_call rfl (if_c h ha h0 h1 hn hd) rfl (fun _ w h => ?_))
  obtain ⟨rfl, hd'⟩ := h
  refine l_q (by exact y_extract rfl rfl) ?_
  refine l_q (by exact y_extract rfl rfl) ?_
  refine l_q (by exact y_as_int rfl) ?_
  refine l_q (by exact y_as_int rfl) ?_
  refine l_end ?_
  refine e_then ?_
  refine s_ret ?_
  exact ret_ [.int .i64 _, .int .i64 _] rfl ⟨rfl, rfl, trivial⟩ ⟨rfl, hd'⟩

theorem and_c {W0 w : World} {M : MB} {s : DS} {R : List (Nat × MObj)} (h : Inv s) {a b : Nat} (ha : a < s.nodes.length) (hb : b < s.nodes.length) (hn : (ifF s a b 0).1.nodes.length ≤ 60000) (hd : Dg W0 w M s R) :
    FnC Try.prog 16 [M.p, I64 a, I64 b] w (fun v w' => v = .tuple #[I64 ((ifF s a b 0).2 : Nat), I64 0] ∧ Dg W0 w' M (ifF s a b 0).1 R) := by
  have h2 := h.n2
  have h0 : 0 < s.nodes.length := by omega
  refine FnC.enter Try.func16 rfl Try.ntmps16 rfl fun ρ => ?_
  refine s_seq ?_
  refine s_reg ?_
  refine l_q (by exact y_as_int rfl) ?_
  refine l_q (by exact y_as_int rfl) ?_
  refine l_end ?_
  refine e_then ?_
  refine s_seq ?_
  refine s_reg ?_
  refine l_q (by exact y_mv_ptr rfl) ?_
  refine l_q (by exact y_mv_int rfl) ?_
  refine l_q (by exact y_mv_int rfl) ?_
  refine l_w (w_call rfl (if_c h ha hb h0 hn hd) rfl (fun _ w h => ?_))
  obtain ⟨rfl, hd'⟩ := h
  refine l_q (by exact y_extract rfl rfl) ?_
  refine l_q (by exact y_extract rfl rfl) ?_
  refine l_q (by exact y_as_int rfl) ?_
  refine l_q (by exact y_as_int rfl) ?_
  refine l_end ?_
  refine e_then ?_
  refine s_ret ?_
  exact ret_ [.int .i64 _, .int .i64 _] rfl ⟨rfl, rfl, trivial⟩ ⟨rfl, hd'⟩
theorem or_c {W0 w : World} {M : MB} {s : DS} {R : List (Nat × MObj)} (h : Inv s) {a b : Nat} (ha : a < s.nodes.length) (hb : b < s.nodes.length) (hn : (ifF s a 1 b).1.nodes.length ≤ 60000) (hd : Dg W0 w M s R) :
    FnC Try.prog 17 [M.p, I64 a, I64 b] w (fun v w' => v = .tuple #[I64 ((ifF s a 1 b).2 : Nat), I64 0] ∧ Dg W0 w' M (ifF s a 1 b).1 R) := by
  have h2 := h.n2
  have h1 : 1 < s.nodes.length := by omega
  refine FnC.enter Try.func17 rfl Try.ntmps17 rfl fun ρ => ?_
  refine s_seq ?_
  refine s_reg ?_
  refine l_q (by exact y_as_int rfl) ?_
  refine l_q (by exact y_as_int rfl) ?_
  refine l_end ?_
  refine e_then ?_
  refine s_seq ?_
  refine s_reg ?_
  refine l_q (by exact y_mv_ptr rfl) ?_
  refine l_q (by exact y_mv_int rfl) ?_
  refine l_q (by exact y_mv_int rfl) ?_
  refine l_w (w_call rfl (if_c h ha h1 hb hn hd) rfl (fun _ w h => ?_))
  obtain ⟨rfl, hd'⟩ := h
  refine l_q (by exact y_extract rfl rfl) ?_
  refine l_q (by exact y_extract rfl rfl) ?_
  refine l_q (by exact y_as_int rfl) ?_
  refine l_q (by exact y_as_int rfl) ?_
  refine l_end ?_
  refine e_then ?_
  refine s_ret ?_
  exact ret_ [.int .i64 _, .int .i64 _] rfl ⟨rfl, rfl, trivial⟩ ⟨rfl, hd'⟩

/-! ### Xor -/
def xorF (s : DS) (a b : Nat) : DS × Nat := ifF (ifF s b 0 1).1 a (ifF s b 0 1).2 b
theorem lt2 {a b n : Nat} (ha : a < n) (hb : b < n) : ∀ x ∈ [a, b], x < n := by
  intro x hx
  simp only [List.mem_cons, List.not_mem_nil, or_false] at hx
  rcases hx with rfl | rfl <;> assumption
theorem lt1 {a n : Nat} (ha : a < n) : ∀ x ∈ [a], x < n := by
  intro x hx
  simp only [List.mem_cons, List.not_mem_nil, or_false] at hx
  rcases hx with rfl
  assumption
theorem xor_c {W0 w : World} {M : MB} {s : DS} {R : List (Nat × MObj)} (h : Inv s) {a b : Nat} (ha : a < s.nodes.length) (hb : b < s.nodes.length) (hn : (xorF s a b).1.nodes.length ≤ 60000) (hd : Dg W0 w M s R) :
    FnC Try.prog 18 [M.p, I64 a, I64 b] w (fun v w' => v = .tuple #[I64 ((xorF s a b).2 : Nat), I64 0] ∧ Dg W0 w' M (xorF s a b).1 R) := by
  obtain ⟨os, hok, hs⟩ := hd.ex
  have h2 := h.n2
  have h0 : 0 < s.nodes.length := by omega
  have h1 : 1 < s.nodes.length := by omega
  have hq := if_some h hb h0 h1
  have S := hq.2
  have hl1 := S.ext.len
  have ha1 : a < (ifF s b 0 1).1.nodes.length := by omega
  have hb1 : b < (ifF s b 0 1).1.nodes.length := by omega
  have hq2 := if_some S.inv ha1 S.lt hb1
  have hl2 := hq2.2.ext.len
  unfold xorF at hn ⊢
  have hn1 : (ifF s b 0 1).1.nodes.length ≤ 60000 := by omega
  refine FnC.enterD Try.func18 rfl Try.ntmps18 rfl fun ρ => ?_
  refine s_seq ?_
  refine s_reg ?_
  refine l_q (by exact y_as_int rfl) ?_
  refine l_w (w_alloc (cs := [_]) hs rfl (fun b7 w hs hb7 => ?_))
  refine l_end ?_
  refine e_then ?_
  refine s_seq ?_
  refine s_seq ?_
  refine s_reg ?_
  refine l_q (by exact y_mv_ptr rfl) ?_
  refine l_q (by exact y_mv_int rfl) ?_
  refine l_q (by exact y_mv_int rfl) ?_
  refine l_w (w_buildSlice (pv := [(0, .int .i64 _), (1, .int .i64 _)]) (vs := [_, _]) hs rfl rfl rfl rfl (fun b11 w hs hb11 => ?_))
  refine l_w (w_call rfl (badS_c (bb := b11) (e := 3) [a, b] (by simp) (lt2 ha hb) (by omega) hs) rfl (fun _ w h => ?_))
  obtain ⟨rfl, hs⟩ := h; replace hs := stB_rotN (Q := [_, _]) hs
  refine l_end ?_
  refine e_then ?_
  refine cond_f rfl ?_
  refine s_skip ?_
  refine e_then ?_
  refine s_seq ?_
  refine s_reg ?_
  refine l_w (w_defer rfl rfl ?_)
  refine l_end ?_
  refine e_then ?_
  refine s_seq ?_
  refine s_reg ?_
  refine l_q (by exact y_mv_ptr rfl) ?_
  refine l_q (by exact y_mv_int rfl) ?_
  refine l_q (by exact y_mv_ptr rfl) ?_
  refine l_q (by exact y_mv_int rfl) ?_
  refine l_w (w_call rfl (choose_c _ h.toWf0 hb h0 h1 hq.1 hn1 hok hs) rfl (fun _ w h => ?_))
  obtain ⟨rfl, os1, hok1, hs⟩ := h
  refine l_q (by exact y_mv_int rfl) ?_
  refine l_w (w_call rfl (choose_c _ S.inv.toWf0 ha1 S.lt hb1 hq2.1 hn hok1 hs) rfl (fun _ w h => ?_))
  obtain ⟨rfl, os', hok', hs⟩ := h
  refine l_q (by exact y_as_int rfl) ?_
  refine l_w (w_store (v := .int .i64 _) hs rfl rfl rfl rfl (fun w hs => ?_))
  refine l_end ?_
  refine e_then ?_
  refine s_ret ?_
  exact endD1 [.int .i64 _, .int .i64 _] (guard_idle _) rfl ⟨rfl, ⟨_, rfl, run_ld1 hs rfl⟩, trivial⟩ ⟨rfl, os', hok', stB_dropN (.cons _ (.cons _ (List.Sublist.refl _))) hs⟩

/-! ### Var -/
theorem var_c {W0 w : World} {M : MB} {s : DS} {R : List (Nat × MObj)} (h : Inv s) {i : Nat} (hi : i < s.vars) (hn : (nodeF s (i, 0, 1)).1.nodes.length ≤ 60000) (hd : Dg W0 w M s R) :
    FnC Try.prog 20 [M.p, I64 i] w (fun v w' => v = .tuple #[I64 ((nodeF s (i, 0, 1)).2 : Nat), I64 0] ∧ Dg W0 w' M (nodeF s (i, 0, 1)).1 R) := by
  obtain ⟨os, hok, hs⟩ := hd.ex
  have h2 := h.n2
  have ok := node_ok h.toWf0 (t := (i, 0, 1)) (Nat.le_of_lt hi) (show 0 < _ by omega) (show 1 < _ by omega)
  have hl := ok.2.1.len
  have W : Wf s := ⟨h.toWf0, by omega⟩
  refine FnC.enterD Try.func20 rfl Try.ntmps20 rfl fun ρ => ?_
  refine s_seq ?_
  refine s_reg ?_
  refine l_q (by exact y_as_int rfl) ?_
  refine l_w (w_alloc (cs := [_]) hs rfl (fun b5 w hs hb5 => ?_))
  refine l_end ?_
  refine e_then ?_
  refine s_seq ?_
  refine s_seq ?_
  refine s_reg ?_
  refine l_q (by exact y_mv_int rfl) ?_
  refine l_q (by first | exact y_lss rfl rfl (decide_eq_true (by omega)) | exact y_lss rfl rfl (decide_eq_false (by omega)) | exact y_lss rfl rfl rfl) ?_
  refine l_q (by exact y_mv_bool rfl) ?_
  first | refine l_gskip rfl rfl ?_ | refine l_gskip_u rfl rfl ?_ | refine l_gdo rfl rfl (by exact y_mv_int rfl) ?_
  first | refine l_gskip rfl rfl ?_ | refine l_gskip_u rfl rfl ?_ | refine l_gdo rfl rfl (by exact y_mv_ptr rfl) ?_
  first | refine l_gskip rfl rfl ?_ | refine l_gskip_u rfl rfl ?_ | refine l_gdo rfl rfl (by first | exact y_nil rfl | exact y_nilf rfl) ?_
  first | refine l_gskip rfl rfl ?_ | refine l_gskip_u rfl rfl ?_ | refine l_gdo rfl rfl (by exact y_field rfl) ?_
  first | refine l_gskip rfl rfl ?_ | refine l_gskip_u rfl rfl ?_ | refine l_gdo rfl rfl (by exact y_ld (v := I64 s.vars) hs rfl rfl) ?_
  first | refine l_gskip rfl rfl ?_ | refine l_gskip_u rfl rfl ?_ | refine l_gdo rfl rfl (by first | exact y_geq rfl rfl (decide_eq_true (by omega)) | exact y_geq rfl rfl (decide_eq_false (by omega)) | exact y_geq rfl rfl rfl) ?_
  refine l_q (by first | exact y_pk_bt rfl rfl | exact y_pk_bf rfl rfl) ?_
  refine l_end ?_
  refine e_then ?_
  refine cond_f rfl ?_
  refine s_skip ?_
  refine e_then ?_
  refine s_seq ?_
  refine s_reg ?_
  refine l_w (w_defer rfl rfl ?_)
  refine l_end ?_
  refine e_then ?_
  refine s_seq ?_
  refine s_reg ?_
  refine l_q (by exact y_mv_ptr rfl) ?_
  refine l_q (by exact y_mv_int rfl) ?_
  refine l_w (w_call rfl (node_c W hok (v := i) (lo := 0) (hi := 1) hn (stB_rot hs)) rfl (fun _ w h => ?_))
  obtain ⟨rfl, os', hok', hs⟩ := h
  refine l_q (by exact y_as_int rfl) ?_
  refine l_w (w_store (v := .int .i64 _) hs rfl rfl rfl rfl (fun w hs => ?_))
  refine l_end ?_
  refine e_then ?_
  refine s_ret ?_
  exact endD1 [.int .i64 _, .int .i64 _] (guard_idle _) rfl ⟨rfl, ⟨_, rfl, run_ld1 hs rfl⟩, trivial⟩ ⟨rfl, os', hok', stB_dropN (.cons _ (List.Sublist.refl _)) hs⟩
theorem var_spec {s : DS} (h : Inv s) {i : Nat} (hi : i < s.vars) : NodeSpec s i 0 1 (nodeF s (i, 0, 1)).1 (nodeF s (i, 0, 1)).2 :=
  node_spec h hi (by have := h.n2; omega) (by have := h.n2; omega) (by rw [h.c0]; exact hi) (by rw [h.c1]; exact hi)

/-! ### New -/
def initS (n : Nat) : DS := ⟨n, [(n, 0, 0), (n, 1, 1)], [], []⟩
theorem init_inv {n : Nat} (hn : n ≤ 128) : Inv (initS n) := by
  have hnd : ∀ a, a < 2 → (initS n).nd a = (n, a, a) := by
    intro a ha
    have : a = 0 ∨ a = 1 := by omega
    rcases this with rfl | rfl <;> rfl
  have hl : (initS n).nodes.length = 2 := rfl
  refine ⟨⟨⟨Nat.le_refl _, hn, fun a ha => ?_, fun a ha => ?_, fun a ha => ?_, fun k m hk => (by cases hk), fun k m hk => (by cases hk)⟩, rfl, rfl, fun a h2 ha => ?_⟩, fun a h2 ha => ?_, fun t a => ?_, fun a b c r hd => by cases hd⟩
  · rw [hl] at ha; rw [hnd a ha]; exact Nat.le_refl _
  · rw [hl] at ha; rw [hnd a ha]; exact ha
  · rw [hl] at ha; rw [hnd a ha]; exact ha
  · rw [hl] at ha; omega
  · rw [hl] at ha; omega
  · constructor
    · intro h; cases h
    · rintro ⟨q1, q2, _⟩; rw [hl] at q2; omega
theorem new_c {W0 w : World} {L : List (Nat × MObj)} {n : Nat} (hn : n ≤ 128) (hs : St W0 w L) :
    FnC Try.prog 11 [I64 n] w (fun v w' => ∃ M : MB, v = .tuple #[M.p, I64 0] ∧ Dg W0 w' M (initS n) L) := by
  refine FnC.enter Try.func11 rfl Try.ntmps11 rfl fun ρ => ?_
  refine s_seq ?_
  refine s_reg ?_
  refine l_q (by exact y_as_ptr rfl) ?_
  refine l_q (by exact y_as_int rfl) ?_
  refine l_end ?_
  refine e_then ?_
  refine s_seq ?_
  refine s_seq ?_
  refine s_reg ?_
  refine l_q (by exact y_mv_int rfl) ?_
  refine l_q (by first | exact y_lss rfl rfl (decide_eq_true (by omega)) | exact y_lss rfl rfl (decide_eq_false (by omega)) | exact y_lss rfl rfl rfl) ?_
  refine l_q (by exact y_mv_bool rfl) ?_
  first | refine l_gskip rfl rfl ?_ | refine l_gskip_u rfl rfl ?_ | refine l_gdo rfl rfl (by exact y_mv_int rfl) ?_
  first | refine l_gskip rfl rfl ?_ | refine l_gskip_u rfl rfl ?_ | refine l_gdo rfl rfl (by first | exact y_gtr rfl rfl (decide_eq_true (by omega)) | exact y_gtr rfl rfl (decide_eq_false (by omega)) | exact y_gtr rfl rfl rfl) ?_
  refine l_q (by first | exact y_pk_bt rfl rfl | exact y_pk_bf rfl rfl) ?_
  refine l_end ?_
  refine e_then ?_
  refine cond_f rfl ?_
  refine s_skip ?_
  refine e_then ?_
  refine s_seq ?_
  refine s_reg ?_
  refine l_q (by exact y_mv_int rfl) ?_
  refine l_w (w_makeMap hs (fun b12 w hs hb12 => ?_))
  refine l_w (w_makeMap hs (fun b13 w hs hb13 => ?_))
  refine l_q (by exact y_build (pv := [(0, .int .i64 _), (2, .map _), (3, .map _)]) (vs := [_, _, _, _]) rfl rfl) ?_
  refine l_w (w_boxA (vs := [_, _, _, _]) hs rfl (fun b15 w hs hb15 => ?_))
  refine l_q (by exact y_as_ptr rfl) ?_
  refine l_end ?_
  refine e_then ?_
  refine s_seq ?_
  refine s_reg ?_
  refine l_q (by exact y_mv_ptr rfl) ?_
  refine l_q (by exact y_mv_int rfl) ?_
  refine l_q (by exact y_build (pv := [(0, .int .i64 _)]) (vs := [_, _, _]) rfl rfl) ?_
  refine l_q (by exact y_mv_int rfl) ?_
  refine l_q (by exact y_build (pv := [(0, .int .i64 _), (1, .int .i64 _), (2, .int .i64 _)]) (vs := [_, _, _]) rfl rfl) ?_
  refine l_w (w_buildSliceV (pv := [.agg (List.toArray [_, _, _]), .agg (List.toArray [_, _, _])]) (cs := [_, _, _, _, _, _]) hs rfl rfl rfl rfl rfl rfl (fun b21 w hs hb21 => ?_))
  refine l_q (by first | exact y_nil rfl | exact y_nilf rfl) ?_
  refine l_q (by exact y_field rfl) ?_
  refine l_w (w_store (v := .slice _ _ _) hs rfl rfl rfl rfl (fun w hs => ?_))
  refine l_end ?_
  refine e_then ?_
  refine s_seq ?_
  refine s_reg ?_
  refine l_q (by exact y_mv_ptr rfl) ?_
  refine l_q (by exact y_as_ptr rfl) ?_
  refine l_q (by exact y_as_int rfl) ?_
  refine l_end ?_
  refine e_then ?_
  refine s_ret ?_
  refine ret_ [.pointer _, .int .i64 _] rfl ⟨rfl, rfl, trivial⟩ ⟨⟨b15, b12, b13⟩, rfl, ⟨some b21, 2, []⟩, ⟨rfl, rfl, Nat.le_refl _, fun h => by cases h⟩, ?_⟩
  refine hs.perm ?_
  exact (List.Perm.swap _ _ _).trans (List.Perm.cons _ (List.Perm.cons _ (List.Perm.swap _ _ _)))
end Go.Proofs.Ytfjniocobcoepaa
