/- Facts on the functions and types of this seat that its laws are proved from: contracts under the premises that each theorem names. -/
import Derived.Test.YtfjniocobcoepaaG38
set_option linter.unusedSimpArgs false
set_option linter.unusedVariables false
set_option linter.unnecessarySimpa false
namespace Go.Proofs.Ytfjniocobcoepaa
open Go Go.RowKit PB
set_option linter.unusedVariables false
set_option linter.unusedSimpArgs false

def pktF : PktV := ⟨0, 0, 1, 1, 0, 0, false, false, ByteArray.empty⟩
theorem pktF_fits : pktF.fits := ⟨show 0 < 4294967296 by decide, show 0 < 4294967296 by decide, Nat.zero_le _⟩
theorem pktF_chk : pChk pktF = 0 := by
  have h1 : ¬ bad1 pktF := by unfold bad1 pktF; decide
  have h2 : ¬ bad2 pktF := by unfold bad2 pktF; decide
  have h3 : ¬ bad3 pktF := by unfold bad3 pktF; simp
  unfold pChk
  rw [if_neg h1, if_neg h2, if_neg h3]
theorem pktF_np : ¬ hasPorts pktF := by unfold hasPorts pktF; simp
theorem everyE_on (e : Nat → Bool) : (boxR (ruleE true)).on e := by
  rw [Bx.on_iff]
  simp [boxR, ruleE, numB, rngP]
theorem allE (e : Nat → Bool) : allF [ruleE true] e = true := by
  simp only [allF]
  rw [if_pos (decide_eq_true (everyE_on e))]
  rfl
theorem fact26_c {W0 w : World} {L : List (Nat × MObj)} (hs : St W0 w L) : FnC Try.prog 26 [] w (fun v w' => v = .bool true ∧ St W0 w' L) := by
  refine FnC.enter Try.func26 rfl Try.ntmps26 rfl fun ρ => ?_
  refine s_seq ?_
  refine s_reg ?_
  refine l_q (by exact y_as_bool rfl) ?_
  refine l_end ?_
  refine e_then ?_
  refine s_seq ?_
  refine s_reg ?_
  refine l_w (w_call rfl (everything_c true hs) rfl (fun _ w h => ?_))
  obtain ⟨rfl, hs⟩ := h
  refine l_w (w_buildSliceV (pv := [.agg (List.toArray [_, _, _, _, _, _, _, _, _, _])]) (cs := [_, _, _, _, _, _, _, _, _, _]) hs rfl rfl rfl rfl rfl rfl (fun b6 w hs hb6 => ?_))
  refine l_w (w_call rfl (compile_k (l := [ruleE true]) (by simp [lChk, lErr, rChk, aChk, rBad, badR, ruleE, lowB]) (rdR_blk rfl) (by simpa using ruleE_ok true) (by simp) (by decide) hs) rfl (fun _ w h => ?_))
  obtain ⟨M, s, r, cb, rfl, N, K, hd⟩ := h
  refine l_q (by exact y_mv_tuple rfl) ?_
  refine l_q (by exact y_extract rfl rfl) ?_
  refine l_q (by exact y_extract rfl rfl) ?_
  refine l_q (by exact y_as_ptr rfl) ?_
  refine l_q (by exact y_as_int rfl) ?_
  refine l_end ?_
  refine e_then ?_
  refine s_seq ?_
  refine s_seq ?_
  refine s_reg ?_
  refine l_q (by exact y_mv_int rfl) ?_
  refine l_q (by first | exact y_neq rfl rfl (decide_eq_true (by omega)) | exact y_neq rfl rfl (decide_eq_false (by omega)) | exact y_neq rfl rfl rfl) ?_
  refine l_q (by exact y_mv_bool rfl) ?_
  first | refine l_gskip rfl rfl ?_ | refine l_gskip_u rfl rfl ?_ | refine l_gdo rfl rfl (by exact y_mv_ptr rfl) ?_
  first | refine l_gskip rfl rfl ?_ | refine l_gskip_u rfl rfl ?_ | refine l_gdo rfl rfl (by first | exact y_ptr_nn rfl rfl | exact y_ptr_eql rfl rfl rfl) ?_
  refine l_q (by first | exact y_pk_bt rfl rfl | exact y_pk_bf rfl rfl) ?_
  refine l_end ?_
  refine e_then ?_
  refine cond_f rfl ?_
  refine s_skip ?_
  refine e_then ?_
  refine s_seq ?_
  refine s_reg ?_
  refine l_q (by exact y_mv_ptr rfl) ?_
  refine l_q (by exact y_build (pv := [(2, .int .i64 _), (3, .int .i64 _)]) (vs := [_, _, _, _, _, _, _, _, _]) rfl rfl) ?_
  refine l_w (w_call rfl (judge_t (cb := cb) (a := r) (pn := 1) pktF N.inv N.ext.vars (K.fn allE) (by have := N.cnt; have e : allN [ruleE true].length = 1107 := rfl; have e2 : (initS 105).nodes.length = 2 := rfl; omega) pktF_fits pktF_chk pktF_np rfl (by decide) hd) rfl (fun _ w h => ?_))
  obtain ⟨rfl, hd⟩ := h; have hs := hd.rest
  refine l_q (by exact y_mv_tuple rfl) ?_
  refine l_q (by exact y_extract rfl rfl) ?_
  refine l_q (by exact y_extract rfl rfl) ?_
  refine l_q (by exact y_as_bool rfl) ?_
  refine l_q (by exact y_as_int rfl) ?_
  refine l_end ?_
  refine e_then ?_
  refine s_seq ?_
  refine s_reg ?_
  refine l_q (by exact y_mv_bool rfl) ?_
  refine l_q (by exact y_mv_bool rfl) ?_
  first | refine l_gskip rfl rfl ?_ | refine l_gskip_u rfl rfl ?_ | refine l_gdo rfl rfl (by exact y_mv_int rfl) ?_
  first | refine l_gskip rfl rfl ?_ | refine l_gskip_u rfl rfl ?_ | refine l_gdo rfl rfl (by first | exact y_eql rfl rfl (decide_eq_true (by omega)) | exact y_eql rfl rfl (decide_eq_false (by omega)) | exact y_eql rfl rfl rfl) ?_
  refine l_q (by first | exact y_pk_bt rfl rfl | exact y_pk_bf rfl rfl) ?_
  refine l_q (by exact y_as_bool rfl) ?_
  refine l_end ?_
  refine e_then ?_
  refine s_ret ?_
  exact ret_ [.bool _] rfl ⟨rfl, trivial⟩ ⟨rfl, hs.subl⟩
end Go.Proofs.Ytfjniocobcoepaa
