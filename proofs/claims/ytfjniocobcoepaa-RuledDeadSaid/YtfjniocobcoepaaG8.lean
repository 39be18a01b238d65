/- Facts on the functions and types of this seat that its laws are proved from: contracts under the premises that each theorem names. -/
import Derived.Test.YtfjniocobcoepaaG7
set_option linter.unusedSimpArgs false
set_option linter.unusedVariables false
set_option linter.unnecessarySimpa false
namespace Go.Proofs.Ytfjniocobcoepaa
open Go Go.RowKit PB
set_option linter.unusedVariables false
set_option linter.unusedSimpArgs false

theorem tmod_eq (a b : Int) (hb : 0 < b) : (if a.tmod b < 0 then a.tmod b + b else a.tmod b) = a % b := by
  have h0 := Int.emod_nonneg a (show b ≠ 0 by omega)
  have h1 := Int.emod_lt_of_pos a hb
  rw [Int.tmod_eq_emod]
  split <;> rename_i h <;> (try split) <;> simp_all <;> omega
theorem rest_c (a b : Int) (w : World) (hb : 0 < b) (hb2 : b ≤ 1000000000) : FnC Try.prog 14 [.int .i64 a, .int .i64 b] w (fun v w' => v = .int .i64 (a % b) ∧ w' = w) := by
  have ht := Int.tmod_lt_of_pos a hb
  have ht2 := Int.lt_tmod_of_pos a hb
  have he := tmod_eq a b hb
  refine FnC.enter Try.func14 rfl Try.ntmps14 rfl fun ρ => ?_
  by_cases h1 : a.tmod b < 0
  · rw [if_pos h1] at he
    refine s_seq ?_
    refine s_reg ?_
    refine l_q (by exact y_as_int rfl) ?_
    refine l_end ?_
    refine e_then ?_
    refine s_seq ?_
    refine s_reg ?_
    refine l_q (by exact y_mv_int rfl) ?_
    refine l_q (by exact y_mv_int rfl) ?_
    refine l_q (by first | exact y_remn rfl rfl (by omega) | exact y_rem rfl rfl (by first | decide | omega) rfl) ?_
    refine l_q (by exact y_as_int rfl) ?_
    refine l_end ?_
    refine e_then ?_
    refine s_seq ?_
    refine s_seq ?_
    refine s_reg ?_
    refine l_q (by exact y_mv_int rfl) ?_
    refine l_q (by first | exact y_lss rfl rfl (decide_eq_true (by omega)) | exact y_lss rfl rfl (decide_eq_false (by omega)) | exact y_lss rfl rfl rfl) ?_
    refine l_end ?_
    refine e_then ?_
    refine cond_t rfl ?_
    refine s_seq ?_
    refine s_reg ?_
    refine l_q (by exact y_mv_int rfl) ?_
    refine l_q (by exact y_mv_int rfl) ?_
    refine l_q (by first | exact y_addn rfl rfl (by omega) | exact y_add rfl rfl rfl) ?_
    refine l_q (by exact y_as_int rfl) ?_
    refine l_end ?_
    refine e_then ?_
    refine s_ret ?_
    refine e_then_r ?_
    exact ret_ [.int .i64 _] rfl ⟨rfl, trivial⟩ ⟨by rw [← he]; rfl, rfl⟩
  · rw [if_neg h1] at he
    refine s_seq ?_
    refine s_reg ?_
    refine l_q (by exact y_as_int rfl) ?_
    refine l_end ?_
    refine e_then ?_
    refine s_seq ?_
    refine s_reg ?_
    refine l_q (by exact y_mv_int rfl) ?_
    refine l_q (by exact y_mv_int rfl) ?_
    refine l_q (by first | exact y_remn rfl rfl (by omega) | exact y_rem rfl rfl (by first | decide | omega) rfl) ?_
    refine l_q (by exact y_as_int rfl) ?_
    refine l_end ?_
    refine e_then ?_
    refine s_seq ?_
    refine s_seq ?_
    refine s_reg ?_
    refine l_q (by exact y_mv_int rfl) ?_
    refine l_q (by first | exact y_lss rfl rfl (decide_eq_true (by omega)) | exact y_lss rfl rfl (decide_eq_false (by omega)) | exact y_lss rfl rfl rfl) ?_
    refine l_end ?_
    refine e_then ?_
    refine cond_f rfl ?_
    refine s_skip ?_
    refine e_then ?_
    refine s_seq ?_
    refine s_reg ?_
    refine l_q (by exact y_mv_int rfl) ?_
    refine l_q (by exact y_as_int rfl) ?_
    refine l_end ?_
    refine e_then ?_
    refine s_ret ?_
    exact ret_ [.int .i64 _] rfl ⟨rfl, trivial⟩ ⟨by rw [← he]; rfl, rfl⟩

/-! ### Node -/
theorem nodeGet_c {W0 w : World} {M : MB} {s : DS} {R : List (Nat × MObj)} (h : Inv s) {a : Nat} (ha : a < s.nodes.length) (hn : s.nodes.length ≤ 60000) (hd : Dg W0 w M s R) :
    FnC Try.prog 22 [M.p, I64 a] w (fun v w' => v = .tuple #[.agg #[I64 (s.nd a).1, I64 (s.nd a).2.1, I64 (s.nd a).2.2], I64 0] ∧ Dg W0 w' M s R) := by
  obtain ⟨os, hok, hs⟩ := hd.ex
  have W : Wf s := ⟨h.toWf0, hn⟩
  obtain ⟨g, hg, had⟩ := own_nd hok W
  haveI := inl_blk hg (flatN s.nodes) 39
  refine FnC.enter Try.func22 rfl Try.ntmps22 rfl fun ρ => ?_
  refine s_seq ?_
  refine s_reg ?_
  refine l_w (w_alloc (cs := [_, _, _]) hs rfl (fun b4 w hs hb4 => ?_))
  refine l_q (by exact y_as_int rfl) ?_
  refine l_end ?_
  refine e_then ?_
  refine s_seq ?_
  refine s_seq ?_
  refine s_reg ?_
  refine l_q (by exact y_mv_ptr rfl) ?_
  refine l_q (by exact y_mv_int rfl) ?_
  refine l_w (w_buildSlice (pv := [(0, .int .i64 _)]) (vs := [_]) hs rfl rfl rfl rfl (fun b8 w hs hb8 => ?_))
  refine l_w (w_call rfl (badS_c (bb := b8) (e := 3) [a] (by simp) (lt1 ha) hn hs) rfl (fun _ w h => ?_))
  obtain ⟨rfl, hs⟩ := h
  refine l_end ?_
  refine e_then ?_
  refine cond_f rfl ?_
  refine s_skip ?_
  refine e_then ?_
  refine s_seq ?_
  refine s_reg ?_
  refine l_q (by exact y_mv_ptr rfl) ?_
  refine l_q (by first | exact y_nil rfl | exact y_nilf rfl) ?_
  refine l_q (by exact y_field rfl) ?_
  refine l_q (by exact y_ld hs rfl rfl) ?_
  refine l_q (by exact y_mv_int rfl) ?_
  refine l_q (by exact y_indexT (off := 3 * a) rfl rfl (by omega) (by omega) had (by omega)) ?_
  refine l_q (by exact y_ldA (vs := [I64 (s.nd a).1, I64 (s.nd a).2.1, I64 (s.nd a).2.2]) hs rfl (flatN_room ha _) (flatN_take ha _)) ?_
  refine l_w (w_storeA (vs := [_, _, _]) hs rfl rfl rfl rfl rfl (fun w hs => ?_))
  refine l_q (by exact y_as_int rfl) ?_
  refine l_end ?_
  refine e_then ?_
  refine s_ret ?_
  refine ret_ [.agg (List.toArray [_, _, _]), .int .i64 _] rfl ⟨⟨_, rfl, run_ldA hs rfl rfl⟩, rfl, trivial⟩ ⟨rfl, os, hok, ?_⟩
  exact stB_dropN (.cons _ (.cons _ (List.Sublist.refl _))) (stB_rotN (Q := [_, _]) hs)

/-! ### The fixed example -/
theorem fact_var : (nodeF (initS 3) (0, 0, 1)).2 = 2 ∧ (nodeF (initS 3) (0, 0, 1)).1.nodes = [(3, 0, 0), (3, 1, 1), (0, 0, 1)] := by decide
theorem fact_c {W0 w : World} {L : List (Nat × MObj)} (hs : St W0 w L) : FnC Try.prog 12 [] w (fun v w' => v = .bool true ∧ St W0 w' L) := by
  have hI := init_inv (n := 3) (by decide)
  obtain ⟨hq1, hq2⟩ := fact_var
  have hV := var_spec hI (i := 0) (by decide)
  have hnd : (nodeF (initS 3) (0, 0, 1)).1.nd (nodeF (initS 3) (0, 0, 1)).2 = (0, 0, 1) := by rw [hq1]; unfold DS.nd; rw [hq2]; rfl
  refine FnC.enter Try.func12 rfl Try.ntmps12 rfl fun ρ => ?_
  refine s_seq ?_
  refine s_reg ?_
  refine l_q (by exact y_as_bool rfl) ?_
  refine l_end ?_
  refine e_then ?_
  refine s_seq ?_
  refine s_reg ?_
  refine l_w (w_call rfl (new_c (n := 3) (by decide) hs) rfl (fun _ w h => ?_))
  obtain ⟨M, rfl, hd⟩ := h
  refine l_q (by exact y_mv_tuple rfl) ?_
  refine l_q (by exact y_extract rfl rfl) ?_
  refine l_q (by exact y_extract rfl rfl) ?_
  refine l_q (by exact y_as_ptr rfl) ?_
  refine l_q (by exact y_as_int rfl) ?_
  refine l_end ?_
  refine e_then ?_
  refine s_seq ?_
  refine s_seq ?_
  refine s_reg ?_
  refine l_q (by exact y_mv_int rfl) ?_
  refine l_q (by first | exact y_neq rfl rfl (decide_eq_true (by omega)) | exact y_neq rfl rfl (decide_eq_false (by omega)) | exact y_neq rfl rfl rfl) ?_
  refine l_q (by exact y_mv_bool rfl) ?_
  first | refine l_gskip rfl rfl ?_ | refine l_gskip_u rfl rfl ?_ | refine l_gdo rfl rfl (by exact y_mv_ptr rfl) ?_
  first | refine l_gskip rfl rfl ?_ | refine l_gskip_u rfl rfl ?_ | refine l_gdo rfl rfl (by first | exact y_ptr_nn rfl rfl | exact y_ptr_eql rfl rfl rfl) ?_
  refine l_q (by first | exact y_pk_bt rfl rfl | exact y_pk_bf rfl rfl) ?_
  refine l_end ?_
  refine e_then ?_
  refine cond_f rfl ?_
  refine s_skip ?_
  refine e_then ?_
  refine s_seq ?_
  refine s_reg ?_
  refine l_q (by exact y_mv_ptr rfl) ?_
  refine l_w (w_call rfl (var_c hI (i := 0) (by decide) (by rw [hq2]; decide) hd) rfl (fun _ w h => ?_))
  obtain ⟨rfl, hd⟩ := h
  refine l_q (by exact y_mv_tuple rfl) ?_
  refine l_q (by exact y_extract rfl rfl) ?_
  refine l_q (by exact y_extract rfl rfl) ?_
  refine l_q (by exact y_as_int rfl) ?_
  refine l_q (by exact y_as_int rfl) ?_
  refine l_end ?_
  refine e_then ?_
  refine s_seq ?_
  refine s_reg ?_
  refine l_q (by exact y_mv_ptr rfl) ?_
  refine l_q (by exact y_mv_int rfl) ?_
  refine l_w (w_call rfl (nodeGet_c hV.inv (a := (nodeF (initS 3) (0, 0, 1)).2) hV.lt (by rw [hq2]; decide) hd) rfl (fun _ w h => ?_))
  obtain ⟨rfl, hd⟩ := h; rw [hnd]; have hs := hd.rest
  refine l_q (by exact y_mv_tuple rfl) ?_
  refine l_q (by exact y_extract rfl rfl) ?_
  refine l_q (by exact y_extract rfl rfl) ?_
  refine l_w (w_alloc (cs := [_, _, _]) hs rfl (fun b4 w hs hb4 => ?_))
  refine l_w (w_storeA (vs := [_, _, _]) hs rfl rfl rfl rfl rfl (fun w hs => ?_))
  refine l_q (by exact y_as_int rfl) ?_
  refine l_end ?_
  refine e_then ?_
  refine s_seq ?_
  refine s_reg ?_
  refine l_q (by exact y_mv_int rfl) ?_
  refine l_q (by first | exact y_eql rfl rfl (decide_eq_true (by omega)) | exact y_eql rfl rfl (decide_eq_false (by omega)) | exact y_eql rfl rfl rfl) ?_
  refine l_q (by exact y_mv_bool rfl) ?_
  first | refine l_gskip rfl rfl ?_ | refine l_gskip_u rfl rfl ?_ | refine l_gdo rfl rfl (by exact y_mv_int rfl) ?_
  first | refine l_gskip rfl rfl ?_ | refine l_gskip_u rfl rfl ?_ | refine l_gdo rfl rfl (by first | exact y_eql rfl rfl (decide_eq_true (by omega)) | exact y_eql rfl rfl (decide_eq_false (by omega)) | exact y_eql rfl rfl rfl) ?_
  refine l_q (by first | exact y_pk_bt rfl rfl | exact y_pk_bf rfl rfl) ?_
  refine l_q (by exact y_mv_bool rfl) ?_
  first | refine l_gskip rfl rfl ?_ | refine l_gskip_u rfl rfl ?_ | refine l_gdo rfl rfl (by exact y_ldA (vs := [_, _, _]) hs rfl rfl rfl) ?_
  first | refine l_gskip rfl rfl ?_ | refine l_gskip_u rfl rfl ?_ | refine l_gdo rfl rfl (by exact y_build (pv := [(0, .int .i64 _), (1, .int .i64 _), (2, .int .i64 _)]) (vs := [_, _, _]) rfl rfl) ?_
  first | refine l_gskip rfl rfl ?_ | refine l_gskip_u rfl rfl ?_ | refine l_gdo rfl rfl (by exact y_eqlA (r := true) rfl rfl rfl rfl) ?_
  refine l_q (by first | exact y_pk_bt rfl rfl | exact y_pk_bf rfl rfl) ?_
  refine l_q (by exact y_as_bool rfl) ?_
  refine l_end ?_
  refine e_then ?_
  refine s_ret ?_
  exact ret_ [.bool _] rfl ⟨rfl, trivial⟩ ⟨rfl, hs.tail⟩
end Go.Proofs.Ytfjniocobcoepaa
