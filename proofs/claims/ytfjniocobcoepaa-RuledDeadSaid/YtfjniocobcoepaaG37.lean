/- Facts on the functions and types of this seat that its laws are proved from: contracts under the premises that each theorem names. -/
import Derived.Test.YtfjniocobcoepaaG36
set_option linter.unusedSimpArgs false
set_option linter.unusedVariables false
set_option linter.unnecessarySimpa false
namespace Go.Proofs.Ytfjniocobcoepaa
open Go Go.RowKit PB
set_option linter.unusedVariables false
set_option linter.unusedSimpArgs false

/-! ### first -/
def pkZ : PktV := ⟨0, 0, 0, 0, 0, 0, false, false, ByteArray.empty⟩
theorem real_and {s : DS} {a r n : Nat} {f : (Nat → Bool) → Bool} {B : Nat → Bx} (h : Inv s) (h105 : s.vars = 105) (A : Kn s a f) (Rl : Kn s r (fun e => decide (realP e))) (hB : Bxs n B) (hO : Of n B f) :
    Nx s (bothF s [a, r]).1 (41 * (n + 3)) ∧ Kn (bothF s [a, r]).1 (bothF s [a, r]).2 (fun e => f e && decide (realP e)) := by
  simp only [bothF, if_one h Rl.lt]
  have hz := if_real h h105 A.lt Rl.lt (kn0 h).lt A hB hO (fun e => by simp only [iteF]; rw [A.sem, Rl.sem, ev_0]; cases f e <;> rfl)
  obtain ⟨N, K⟩ := if_n h A Rl (kn0 h) hz
  exact ⟨N, K.fn fun e => by cases f e <;> rfl⟩
/-- What first answers. -/
structure FirstR (f : (Nat → Bool) → Bool) (p : PktV) (is : Bool) : Prop where
  yes : is = true → ∃ e, p = pkV e ∧ f e = true ∧ realP e
  no : is = false → p = pkZ ∧ ∀ e, realP e → f e = false
theorem first_k {W0 w : World} {M : MB} {mb a n : Nat} {s : DS} {R : List (Nat × MObj)} {f : (Nat → Bool) → Bool} {B : Nat → Bx} [im : InL mb (mkO M) R] (I : Inv s) (h105 : s.vars = 105) (A : Kn s a f) (hB : Bxs n B) (hO : Of n B f) (hn : s.nodes.length + (1144 + 41 * (n + 3)) ≤ 60000) (hd : Dg W0 w M s R) :
    FnC Try.prog 44 [mkP mb, I64 a] w (fun x w' => ∃ s' p is, x = .tuple #[.agg p.cells.toArray, .bool is, I64 0] ∧ Nx s s' (1144 + 41 * (n + 3)) ∧ FirstR f p is ∧ Dg W0 w' M s' R) := by
  obtain ⟨os, hos, hs⟩ := hd.ex
  refine FnC.enter Try.func44 rfl Try.ntmps44 rfl fun ρ => ?_
  refine s_seq ?_
  refine s_reg ?_
  refine l_w (w_alloc (cs := [_, _, _, _, _, _, _, _, _]) hs rfl (fun b4 w hs hb4 => ?_))
  refine l_q (by exact y_as_bool rfl) ?_
  refine l_q (by exact y_as_int rfl) ?_
  refine l_end ?_
  refine e_then ?_
  refine s_seq ?_
  refine s_reg ?_
  refine l_q (by exact y_mv_ptr rfl) ?_
  refine l_q (by exact y_mv_int rfl) ?_
  refine l_q (by exact y_mv_ptr rfl) ?_
  refine l_w (w_call rfl (real_k I h105 (by omega) ⟨os, hos, stB_rot hs⟩) rfl (fun _ w h => ?_))
  obtain ⟨s1, r1, rfl, N1, K1, hd⟩ := h; have A1 := A.up I N1; have hc1 := N1.cnt; have v1 := N1.ext.vars.trans h105; obtain ⟨N2, K2⟩ := real_and N1.inv v1 A1 K1 hB hO; have hc2 := N2.cnt; have v2 := N2.ext.vars.trans v1; obtain ⟨os, hos, hs⟩ := hd.ex
  refine l_w (w_buildSlice (pv := [(0, .int .i64 _), (1, .int .i64 _)]) (vs := [_, _]) hs rfl rfl rfl rfl (fun b14 w hs hb14 => ?_))
  refine l_w (w_call rfl (both_c (bb := b14) [a, r1] N1.inv (lt2 A1.lt K1.lt) (by simp) (by omega) ⟨os, hos, stB_rotN (Q := [_]) hs⟩) rfl (fun _ w h => ?_))
  obtain ⟨rfl, hd⟩ := h; obtain ⟨os, hos, hs⟩ := hd.ex; generalize bothF s1 [a, r1] = q at *
  refine l_q (by exact y_as_int rfl) ?_
  refine l_end ?_
  refine e_then ?_
  refine s_seq ?_
  refine s_seq ?_
  refine s_reg ?_
  refine l_q (by exact y_mv_ptr rfl) ?_
  refine l_q (by first | exact y_nil rfl | exact y_nilf rfl) ?_
  refine l_q (by exact y_field rfl) ?_
  refine l_q (by exact y_ld hs rfl rfl) ?_
  refine l_q (by first | exact y_neq rfl rfl (decide_eq_true (by omega)) | exact y_neq rfl rfl (decide_eq_false (by omega)) | exact y_neq rfl rfl rfl) ?_
  refine l_end ?_
  refine e_then ?_
  refine cond_f rfl ?_
  by_cases c : q.2 = 0
  · refine s_skip ?_
    refine e_then ?_
    refine s_seq ?_
    refine s_reg ?_
    refine l_q (by exact y_mv_ptr rfl) ?_
    refine l_q (by first | exact y_nil rfl | exact y_nilf rfl) ?_
    refine l_q (by exact y_field rfl) ?_
    refine l_q (by exact y_ld hs rfl rfl) ?_
    refine l_q (by exact y_mv_int rfl) ?_
    refine l_w (w_call rfl (one_0 N2.inv c (by omega) ⟨os, hos, hs⟩) rfl (fun _ w h => ?_))
    obtain ⟨rfl, hd⟩ := h; obtain ⟨os, hos, hs⟩ := hd.ex
    refine l_q (by exact y_mv_tuple rfl) ?_
    refine l_q (by exact y_extract rfl rfl) ?_
    refine l_q (by exact y_extract rfl rfl) ?_
    refine l_q (by exact y_extract rfl rfl) ?_
    refine l_q (by exact y_as_slice rfl) ?_
    refine l_q (by exact y_as_bool rfl) ?_
    refine l_q (by exact y_as_int rfl) ?_
    refine l_end ?_
    refine e_then ?_
    refine s_seq ?_
    refine s_seq ?_
    refine s_reg ?_
    refine l_q (by exact y_mv_int rfl) ?_
    refine l_q (by first | exact y_neq rfl rfl (decide_eq_true (by omega)) | exact y_neq rfl rfl (decide_eq_false (by omega)) | exact y_neq rfl rfl rfl) ?_
    refine l_q (by exact y_mv_bool rfl) ?_
    first | refine l_gskip rfl rfl ?_ | refine l_gskip_u rfl rfl ?_ | refine l_gdo rfl rfl (by exact y_mv_bool rfl) ?_
    first | refine l_gskip rfl rfl ?_ | refine l_gskip_u rfl rfl ?_ | refine l_gdo rfl rfl (by first | exact y_not_t rfl | exact y_not_f rfl | exact y_notd rfl) ?_
    refine l_q (by first | exact y_pk_bt rfl rfl | exact y_pk_bf rfl rfl) ?_
    refine l_end ?_
    refine e_then ?_
    refine cond_t rfl ?_
    refine s_seq ?_
    refine s_reg ?_
    refine l_q (by exact y_build (pv := []) (vs := [_, _, _, _, _, _, _, _, _]) rfl rfl) ?_
    refine l_q (by exact y_mv_int rfl) ?_
    refine l_w (w_storeA (vs := [_, _, _, _, _, _, _, _, _]) hs rfl rfl rfl rfl rfl (fun w hs => ?_))
    refine l_q (by exact y_as_bool rfl) ?_
    refine l_q (by exact y_as_int rfl) ?_
    refine l_end ?_
    refine e_then ?_
    refine s_ret ?_
    refine e_then_r ?_
    have hno : ∀ e, realP e → f e = false := fun e he => by
      have h1 := K2.sem e
      rw [c, ev_0, decide_eq_true he, Bool.and_true] at h1
      exact h1.symm
    exact ret_ [.agg (List.toArray [_, _, _, _, _, _, _, _, _]), .bool _, .int .i64 _] rfl ⟨⟨_, rfl, run_ldA hs rfl rfl⟩, rfl, rfl, trivial⟩ ⟨_, pkZ, false, rfl, (N1.trans N2).mono (by omega), ⟨fun h => (by cases h), fun _ => ⟨rfl, hno⟩⟩, ⟨os, hos, hs.subl⟩⟩
  · refine s_skip ?_
    refine e_then ?_
    refine s_seq ?_
    refine s_reg ?_
    refine l_q (by exact y_mv_ptr rfl) ?_
    refine l_q (by first | exact y_nil rfl | exact y_nilf rfl) ?_
    refine l_q (by exact y_field rfl) ?_
    refine l_q (by exact y_ld hs rfl rfl) ?_
    refine l_q (by exact y_mv_int rfl) ?_
    refine l_w (w_call rfl (one_c N2.inv K2.lt c (by omega) ⟨os, hos, hs⟩) rfl (fun _ w h => ?_))
    obtain ⟨bo, rfl, hd⟩ := h; rw [v2]; obtain ⟨os, hos, hs⟩ := hd.ex
    refine l_q (by exact y_mv_tuple rfl) ?_
    refine l_q (by exact y_extract rfl rfl) ?_
    refine l_q (by exact y_extract rfl rfl) ?_
    refine l_q (by exact y_extract rfl rfl) ?_
    refine l_q (by exact y_as_slice rfl) ?_
    refine l_q (by exact y_as_bool rfl) ?_
    refine l_q (by exact y_as_int rfl) ?_
    refine l_end ?_
    refine e_then ?_
    refine s_seq ?_
    refine s_seq ?_
    refine s_reg ?_
    refine l_q (by exact y_mv_int rfl) ?_
    refine l_q (by first | exact y_neq rfl rfl (decide_eq_true (by omega)) | exact y_neq rfl rfl (decide_eq_false (by omega)) | exact y_neq rfl rfl rfl) ?_
    refine l_q (by exact y_mv_bool rfl) ?_
    first | refine l_gskip rfl rfl ?_ | refine l_gskip_u rfl rfl ?_ | refine l_gdo rfl rfl (by exact y_mv_bool rfl) ?_
    first | refine l_gskip rfl rfl ?_ | refine l_gskip_u rfl rfl ?_ | refine l_gdo rfl rfl (by first | exact y_not_t rfl | exact y_not_f rfl | exact y_notd rfl) ?_
    refine l_q (by first | exact y_pk_bt rfl rfl | exact y_pk_bf rfl rfl) ?_
    refine l_end ?_
    refine e_then ?_
    refine cond_f rfl ?_
    refine s_skip ?_
    refine e_then ?_
    refine s_seq ?_
    refine s_reg ?_
    refine l_q (by exact y_mv_slice rfl) ?_
    refine l_w (w_call rfl (packet_c (bl := oneL q.1 q.2) (by rw [oneL_len, v2]) hs) rfl (fun _ w h => ?_))
    obtain ⟨rfl, hs⟩ := h
    refine l_w (w_storeA (vs := [_, _, _, _, _, _, _, _, _]) hs rfl rfl rfl rfl rfl (fun w hs => ?_))
    refine l_q (by exact y_as_bool rfl) ?_
    refine l_q (by exact y_as_int rfl) ?_
    refine l_end ?_
    refine e_then ?_
    refine s_ret ?_
    have hyes : f (envB (oneL q.1 q.2)) = true ∧ realP (envB (oneL q.1 q.2)) := by
      have h1 := one_true' N2.inv K2.lt c
      rw [← ev_agree N2.inv.toOrd (x := envB (oneL q.1 q.2)) (y := oneE q.1 q.2) (fun i hi => oneL_env hi) _ _ K2.lt (Nat.le_refl _), K2.sem, Bool.and_eq_true] at h1
      exact ⟨h1.1, of_decide_eq_true h1.2⟩
    exact ret_ [.agg (List.toArray [_, _, _, _, _, _, _, _, _]), .bool _, .int .i64 _] rfl ⟨⟨_, rfl, run_ldA hs rfl rfl⟩, rfl, rfl, trivial⟩ ⟨_, pkV (envB (oneL q.1 q.2)), true, rfl, (N1.trans N2).mono (by omega), ⟨fun _ => ⟨_, rfl, hyes⟩, fun h => (by cases h)⟩, ⟨os, hos, hs.subl⟩⟩
end Go.Proofs.Ytfjniocobcoepaa
