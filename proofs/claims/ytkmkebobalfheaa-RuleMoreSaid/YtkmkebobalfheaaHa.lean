/- Facts on the functions and types of this seat that its laws are proved from: contracts under the premises that each theorem names. -/
import Derived.Test.YtkmkebobalfheaaRd
set_option linter.unusedSimpArgs false
set_option linter.unusedVariables false
set_option linter.unnecessarySimpa false
namespace Go.Proofs.Ytkmkebobalfheaa
open Go Go.RowKit PB
set_option linter.unusedVariables false
set_option linter.unusedSimpArgs false

def rule1 : RuleV := ⟨false, 0, 0, 0, 0, 0, 0, 1, 0, 0⟩
def pkt1 : PktV := ⟨0, 0, 1, 1, 0, 0, false, false, ByteArray.mk #[]⟩
theorem fact_j : judgeF [rule1, ruleE true] pkt1 = (1, 0) := by decide +kernel
theorem pkt1_fits : pkt1.fits := ⟨by decide, by decide, by decide⟩
theorem two_fits : ∀ r ∈ [rule1, ruleE true], r.fits := by
  intro r hr
  simp only [List.mem_cons, List.not_mem_nil, or_false] at hr
  rcases hr with rfl | rfl
  · exact ⟨by decide, by decide⟩
  · exact ruleE_fits true

theorem fact_c {W0 w : World} {L : List (Nat × MObj)} (hs : St W0 w L) : FnC Try.prog 5 [] w (fun v w' => v = .bool true ∧ St W0 w' L) := by
  refine FnC.enter Try.func5 rfl Try.ntmps5 rfl fun ρ => ?_
  refine s_seq ?_
  refine s_reg ?_
  refine l_q (by exact y_as_bool rfl) ?_
  refine l_end ?_
  refine e_then ?_
  refine s_seq ?_
  refine s_reg ?_
  refine l_q (by exact y_build (pv := [(5, .int .i64 _)]) (vs := [_, _, _, _, _, _, _, _, _, _]) rfl rfl) ?_
  refine l_w (w_call rfl (everything_c true hs) rfl (fun _ w h => ?_))
  obtain ⟨rfl, hs⟩ := h
  refine l_w (w_buildSliceV (pv := [.agg (List.toArray [_, _, _, _, _, _, _, _, _, _]), .agg (List.toArray [_, _, _, _, _, _, _, _, _, _])]) (cs := [_, _, _, _, _, _, _, _, _, _, _, _, _, _, _, _, _, _, _, _]) hs rfl rfl rfl rfl rfl rfl (fun b6 w hs hb6 => ?_))
  refine l_q (by exact y_build (pv := [(2, .int .i64 _), (3, .int .i64 _)]) (vs := [_, _, _, _, _, _, _, _, _]) rfl rfl) ?_
  refine l_w (w_call rfl (judge_c [rule1, ruleE true] _ pkt1 (rdR_blk rfl) two_fits pkt1_fits (by decide) hs) rfl (fun _ w h => ?_))
  obtain ⟨rfl, hs⟩ := h
  refine l_q (by exact y_mv_tuple rfl) ?_
  refine l_q (by exact y_extract rfl rfl) ?_
  refine l_q (by exact y_extract rfl rfl) ?_
  refine l_q (by exact y_as_int rfl) ?_
  refine l_q (by exact y_as_int rfl) ?_
  refine l_end ?_
  refine e_then ?_
  refine s_seq ?_
  refine s_reg ?_
  refine l_q (by exact y_mv_int rfl) ?_
  refine l_q (by first | exact y_eql rfl rfl (decide_eq_true (by omega)) | exact y_eql rfl rfl (decide_eq_false (by omega)) | exact y_eql rfl rfl rfl) ?_
  refine l_q (by exact y_mv_bool rfl) ?_
  first | refine l_gskip rfl rfl ?_ | refine l_gskip_u rfl rfl ?_ | refine l_gdo rfl rfl (by exact y_mv_int rfl) ?_
  first | refine l_gskip rfl rfl ?_ | refine l_gskip_u rfl rfl ?_ | refine l_gdo rfl rfl (by first | exact y_eql rfl rfl (decide_eq_true (by omega)) | exact y_eql rfl rfl (decide_eq_false (by omega)) | exact y_eql rfl rfl rfl) ?_
  refine l_q (by first | exact y_pk_bt rfl rfl | exact y_pk_bf rfl rfl) ?_
  refine l_q (by exact y_as_bool rfl) ?_
  refine l_end ?_
  refine e_then ?_
  refine s_ret ?_
  exact ret_ [.bool _] rfl ⟨rfl, trivial⟩ ⟨rfl, hs.tail⟩
end Go.Proofs.Ytkmkebobalfheaa
