/- Facts on the functions and types of this seat that its laws are proved from: contracts under the premises that each theorem names. -/
import Derived.Test.YtagdgalnaobpeaaTj
set_option linter.unusedSimpArgs false
set_option linter.unusedVariables false
set_option linter.unnecessarySimpa false
namespace Go.Proofs.Ytagdgalnaobpeaa
open Go Go.RowKit PB
set_option linter.unusedVariables false
set_option linter.unusedSimpArgs false

/-- What touch does; u: a FIN, v: a RST. -/
def touchF (e : Ent) (side u v : Nat) (now : Int) : Ent :=
  let a := e.f0 || (decide (u ≠ 0) && decide (side = 0))
  let b := e.f1 || (decide (u ≠ 0) && decide (side = 1))
  { e with f0 := a, f1 := b, til := now + if v ≠ 0 ∨ (a = true ∧ b = true) then 50 else 500 }

theorem touch_c {W0 w : World} {L : List (Nat × MObj)} {eb cap : Nat} {esp : List Value} (x : Wl) (now : Int) (e : Ent) (side f u v : Nat) (hside : side = 0 ∨ side = 1) (hf : f < 256) (hu : f &&& 1 = u) (hv : f &&& 4 = v) (hn : 0 ≤ now ∧ now ≤ 1000000000) (hs : St W0 w (x.w1 now eb cap esp e L)) :
    FnC Try.prog 25 [x.ptr, I64 0, I64 side, I64 f] w (fun _ w' => St W0 w' (x.w1 now eb cap esp (touchF e side u v now) L)) := by
  obtain ⟨pr, aa, ap, ba, bp, inw, f0, f1, til⟩ := e
  refine FnC.enter Try.func25 rfl Try.ntmps25 rfl fun ρ => ?_
  by_cases cu : u = 0
  · by_cases cv : v = 0
    · cases f0
      · have e1 : touchF ⟨pr, aa, ap, ba, bp, inw, false, f1, til⟩ side u v now = ⟨pr, aa, ap, ba, bp, inw, false, f1, now + 500⟩ := by simp [touchF, cu, cv]
        rw [e1]
        refine s_seq ?_
        refine s_reg ?_
        refine l_q (by exact y_mv_ptr rfl) ?_
        refine l_q (by first | exact y_nil rfl | exact y_nilf rfl) ?_
        refine l_q (by exact y_field rfl) ?_
        refine l_q (by exact y_ld hs rfl rfl) ?_
        refine l_q (by exact y_mv_int rfl) ?_
        refine l_q (by exact y_indexT (off := 0) rfl rfl (by decide) (by decide) rfl rfl) ?_
        refine l_q (by exact y_as_ptr rfl) ?_
        refine l_end ?_
        refine e_then ?_
        refine s_seq ?_
        refine s_seq ?_
        refine s_reg ?_
        refine l_q (by exact y_mv_int rfl) ?_
        refine l_q (by exact y_toInt (b := (u : Int)) (y_and64 (b := 1) rfl rfl (by omega) (by decide)) (by rw [hu])) ?_
        refine l_q (by first | exact y_neq rfl rfl (decide_eq_true (by omega)) | exact y_neq rfl rfl (decide_eq_false (by omega)) | exact y_neq rfl rfl rfl) ?_
        refine l_end ?_
        refine e_then ?_
        refine cond_f rfl ?_
        refine s_skip ?_
        refine e_then ?_
        refine s_seq ?_
        refine s_reg ?_
        refine l_q (by exact y_as_int rfl) ?_
        refine l_end ?_
        refine e_then ?_
        refine s_seq ?_
        refine s_seq ?_
        refine s_reg ?_
        refine l_q (by exact y_mv_int rfl) ?_
        refine l_q (by exact y_toInt (b := (v : Int)) (y_and64 (b := 4) rfl rfl (by omega) (by decide)) (by rw [hv])) ?_
        refine l_q (by first | exact y_neq rfl rfl (decide_eq_true (by omega)) | exact y_neq rfl rfl (decide_eq_false (by omega)) | exact y_neq rfl rfl rfl) ?_
        refine l_q (by exact y_mv_bool rfl) ?_
        first | refine l_gskip rfl rfl ?_ | refine l_gskip_u rfl rfl ?_ | refine l_gdo rfl rfl (by exact y_mv_ptr rfl) ?_
        first | refine l_gskip rfl rfl ?_ | refine l_gskip_u rfl rfl ?_ | refine l_gdo rfl rfl (by first | exact y_nil rfl | exact y_nilf rfl) ?_
        first | refine l_gskip rfl rfl ?_ | refine l_gskip_u rfl rfl ?_ | refine l_gdo rfl rfl (by exact y_field rfl) ?_
        first | refine l_gskip rfl rfl ?_ | refine l_gskip_u rfl rfl ?_ | refine l_gdo rfl rfl (by exact y_indexArr (off := 6) rfl rfl (by decide) (by decide) rfl) ?_
        first | refine l_gskip rfl rfl ?_ | refine l_gskip_u rfl rfl ?_ | refine l_gdo rfl rfl (by exact y_ld hs rfl rfl) ?_
        first | refine l_gskip rfl rfl ?_ | refine l_gskip_u rfl rfl ?_ | refine l_gdo rfl rfl (by exact y_mv_bool rfl) ?_
        first | refine l_gskip rfl rfl ?_ | refine l_gskip_u rfl rfl ?_ | refine l_gdo rfl rfl (by exact y_mv_ptr rfl) ?_
        first | refine l_gskip rfl rfl ?_ | refine l_gskip_u rfl rfl ?_ | refine l_gdo rfl rfl (by first | exact y_nil rfl | exact y_nilf rfl) ?_
        first | refine l_gskip rfl rfl ?_ | refine l_gskip_u rfl rfl ?_ | refine l_gdo rfl rfl (by exact y_field rfl) ?_
        first | refine l_gskip rfl rfl ?_ | refine l_gskip_u rfl rfl ?_ | refine l_gdo rfl rfl (by exact y_indexArr (off := 7) rfl rfl (by decide) (by decide) rfl) ?_
        first | refine l_gskip rfl rfl ?_ | refine l_gskip_u rfl rfl ?_ | refine l_gdo rfl rfl (by exact y_ld hs rfl rfl) ?_
        first | refine l_gskip rfl rfl ?_ | refine l_gskip_u rfl rfl ?_ | refine l_gdo rfl rfl (by first | exact y_pk_bt rfl rfl | exact y_pk_bf rfl rfl) ?_
        refine l_q (by first | exact y_pk_bt rfl rfl | exact y_pk_bf rfl rfl) ?_
        refine l_end ?_
        refine e_then ?_
        refine cond_f rfl ?_
        refine s_skip ?_
        refine e_then ?_
        refine s_reg ?_
        refine l_q (by exact y_mv_ptr rfl) ?_
        refine l_q (by exact y_mv_ptr rfl) ?_
        refine l_q (by first | exact y_nil rfl | exact y_nilf rfl) ?_
        refine l_q (by exact y_field rfl) ?_
        refine l_q (by exact y_ld hs rfl rfl) ?_
        refine l_q (by exact y_mv_int rfl) ?_
        refine l_q (by first | exact y_addn rfl rfl (by omega) | exact y_add rfl rfl rfl) ?_
        refine l_q (by first | exact y_nil rfl | exact y_nilf rfl) ?_
        refine l_q (by exact y_field rfl) ?_
        refine l_w (w_store (v := .int .i64 _) hs rfl rfl rfl rfl (fun w hs => ?_))
        refine l_end ?_
        exact end_ [] rfl trivial hs
      · cases f1
        · have e1 : touchF ⟨pr, aa, ap, ba, bp, inw, true, false, til⟩ side u v now = ⟨pr, aa, ap, ba, bp, inw, true, false, now + 500⟩ := by simp [touchF, cu, cv]
          rw [e1]
          refine s_seq ?_
          refine s_reg ?_
          refine l_q (by exact y_mv_ptr rfl) ?_
          refine l_q (by first | exact y_nil rfl | exact y_nilf rfl) ?_
          refine l_q (by exact y_field rfl) ?_
          refine l_q (by exact y_ld hs rfl rfl) ?_
          refine l_q (by exact y_mv_int rfl) ?_
          refine l_q (by exact y_indexT (off := 0) rfl rfl (by decide) (by decide) rfl rfl) ?_
          refine l_q (by exact y_as_ptr rfl) ?_
          refine l_end ?_
          refine e_then ?_
          refine s_seq ?_
          refine s_seq ?_
          refine s_reg ?_
          refine l_q (by exact y_mv_int rfl) ?_
          refine l_q (by exact y_toInt (b := (u : Int)) (y_and64 (b := 1) rfl rfl (by omega) (by decide)) (by rw [hu])) ?_
          refine l_q (by first | exact y_neq rfl rfl (decide_eq_true (by omega)) | exact y_neq rfl rfl (decide_eq_false (by omega)) | exact y_neq rfl rfl rfl) ?_
          refine l_end ?_
          refine e_then ?_
          refine cond_f rfl ?_
          refine s_skip ?_
          refine e_then ?_
          refine s_seq ?_
          refine s_reg ?_
          refine l_q (by exact y_as_int rfl) ?_
          refine l_end ?_
          refine e_then ?_
          refine s_seq ?_
          refine s_seq ?_
          refine s_reg ?_
          refine l_q (by exact y_mv_int rfl) ?_
          refine l_q (by exact y_toInt (b := (v : Int)) (y_and64 (b := 4) rfl rfl (by omega) (by decide)) (by rw [hv])) ?_
          refine l_q (by first | exact y_neq rfl rfl (decide_eq_true (by omega)) | exact y_neq rfl rfl (decide_eq_false (by omega)) | exact y_neq rfl rfl rfl) ?_
          refine l_q (by exact y_mv_bool rfl) ?_
          first | refine l_gskip rfl rfl ?_ | refine l_gskip_u rfl rfl ?_ | refine l_gdo rfl rfl (by exact y_mv_ptr rfl) ?_
          first | refine l_gskip rfl rfl ?_ | refine l_gskip_u rfl rfl ?_ | refine l_gdo rfl rfl (by first | exact y_nil rfl | exact y_nilf rfl) ?_
          first | refine l_gskip rfl rfl ?_ | refine l_gskip_u rfl rfl ?_ | refine l_gdo rfl rfl (by exact y_field rfl) ?_
          first | refine l_gskip rfl rfl ?_ | refine l_gskip_u rfl rfl ?_ | refine l_gdo rfl rfl (by exact y_indexArr (off := 6) rfl rfl (by decide) (by decide) rfl) ?_
          first | refine l_gskip rfl rfl ?_ | refine l_gskip_u rfl rfl ?_ | refine l_gdo rfl rfl (by exact y_ld hs rfl rfl) ?_
          first | refine l_gskip rfl rfl ?_ | refine l_gskip_u rfl rfl ?_ | refine l_gdo rfl rfl (by exact y_mv_bool rfl) ?_
          first | refine l_gskip rfl rfl ?_ | refine l_gskip_u rfl rfl ?_ | refine l_gdo rfl rfl (by exact y_mv_ptr rfl) ?_
          first | refine l_gskip rfl rfl ?_ | refine l_gskip_u rfl rfl ?_ | refine l_gdo rfl rfl (by first | exact y_nil rfl | exact y_nilf rfl) ?_
          first | refine l_gskip rfl rfl ?_ | refine l_gskip_u rfl rfl ?_ | refine l_gdo rfl rfl (by exact y_field rfl) ?_
          first | refine l_gskip rfl rfl ?_ | refine l_gskip_u rfl rfl ?_ | refine l_gdo rfl rfl (by exact y_indexArr (off := 7) rfl rfl (by decide) (by decide) rfl) ?_
          first | refine l_gskip rfl rfl ?_ | refine l_gskip_u rfl rfl ?_ | refine l_gdo rfl rfl (by exact y_ld hs rfl rfl) ?_
          first | refine l_gskip rfl rfl ?_ | refine l_gskip_u rfl rfl ?_ | refine l_gdo rfl rfl (by first | exact y_pk_bt rfl rfl | exact y_pk_bf rfl rfl) ?_
          refine l_q (by first | exact y_pk_bt rfl rfl | exact y_pk_bf rfl rfl) ?_
          refine l_end ?_
          refine e_then ?_
          refine cond_f rfl ?_
          refine s_skip ?_
          refine e_then ?_
          refine s_reg ?_
          refine l_q (by exact y_mv_ptr rfl) ?_
          refine l_q (by exact y_mv_ptr rfl) ?_
          refine l_q (by first | exact y_nil rfl | exact y_nilf rfl) ?_
          refine l_q (by exact y_field rfl) ?_
          refine l_q (by exact y_ld hs rfl rfl) ?_
          refine l_q (by exact y_mv_int rfl) ?_
          refine l_q (by first | exact y_addn rfl rfl (by omega) | exact y_add rfl rfl rfl) ?_
          refine l_q (by first | exact y_nil rfl | exact y_nilf rfl) ?_
          refine l_q (by exact y_field rfl) ?_
          refine l_w (w_store (v := .int .i64 _) hs rfl rfl rfl rfl (fun w hs => ?_))
          refine l_end ?_
          exact end_ [] rfl trivial hs
        · have e1 : touchF ⟨pr, aa, ap, ba, bp, inw, true, true, til⟩ side u v now = ⟨pr, aa, ap, ba, bp, inw, true, true, now + 50⟩ := by simp [touchF, cu, cv]
          rw [e1]
          refine s_seq ?_
          refine s_reg ?_
          refine l_q (by exact y_mv_ptr rfl) ?_
          refine l_q (by first | exact y_nil rfl | exact y_nilf rfl) ?_
          refine l_q (by exact y_field rfl) ?_
          refine l_q (by exact y_ld hs rfl rfl) ?_
          refine l_q (by exact y_mv_int rfl) ?_
          refine l_q (by exact y_indexT (off := 0) rfl rfl (by decide) (by decide) rfl rfl) ?_
          refine l_q (by exact y_as_ptr rfl) ?_
          refine l_end ?_
          refine e_then ?_
          refine s_seq ?_
          refine s_seq ?_
          refine s_reg ?_
          refine l_q (by exact y_mv_int rfl) ?_
          refine l_q (by exact y_toInt (b := (u : Int)) (y_and64 (b := 1) rfl rfl (by omega) (by decide)) (by rw [hu])) ?_
          refine l_q (by first | exact y_neq rfl rfl (decide_eq_true (by omega)) | exact y_neq rfl rfl (decide_eq_false (by omega)) | exact y_neq rfl rfl rfl) ?_
          refine l_end ?_
          refine e_then ?_
          refine cond_f rfl ?_
          refine s_skip ?_
          refine e_then ?_
          refine s_seq ?_
          refine s_reg ?_
          refine l_q (by exact y_as_int rfl) ?_
          refine l_end ?_
          refine e_then ?_
          refine s_seq ?_
          refine s_seq ?_
          refine s_reg ?_
          refine l_q (by exact y_mv_int rfl) ?_
          refine l_q (by exact y_toInt (b := (v : Int)) (y_and64 (b := 4) rfl rfl (by omega) (by decide)) (by rw [hv])) ?_
          refine l_q (by first | exact y_neq rfl rfl (decide_eq_true (by omega)) | exact y_neq rfl rfl (decide_eq_false (by omega)) | exact y_neq rfl rfl rfl) ?_
          refine l_q (by exact y_mv_bool rfl) ?_
          first | refine l_gskip rfl rfl ?_ | refine l_gskip_u rfl rfl ?_ | refine l_gdo rfl rfl (by exact y_mv_ptr rfl) ?_
          first | refine l_gskip rfl rfl ?_ | refine l_gskip_u rfl rfl ?_ | refine l_gdo rfl rfl (by first | exact y_nil rfl | exact y_nilf rfl) ?_
          first | refine l_gskip rfl rfl ?_ | refine l_gskip_u rfl rfl ?_ | refine l_gdo rfl rfl (by exact y_field rfl) ?_
          first | refine l_gskip rfl rfl ?_ | refine l_gskip_u rfl rfl ?_ | refine l_gdo rfl rfl (by exact y_indexArr (off := 6) rfl rfl (by decide) (by decide) rfl) ?_
          first | refine l_gskip rfl rfl ?_ | refine l_gskip_u rfl rfl ?_ | refine l_gdo rfl rfl (by exact y_ld hs rfl rfl) ?_
          first | refine l_gskip rfl rfl ?_ | refine l_gskip_u rfl rfl ?_ | refine l_gdo rfl rfl (by exact y_mv_bool rfl) ?_
          first | refine l_gskip rfl rfl ?_ | refine l_gskip_u rfl rfl ?_ | refine l_gdo rfl rfl (by exact y_mv_ptr rfl) ?_
          first | refine l_gskip rfl rfl ?_ | refine l_gskip_u rfl rfl ?_ | refine l_gdo rfl rfl (by first | exact y_nil rfl | exact y_nilf rfl) ?_
          first | refine l_gskip rfl rfl ?_ | refine l_gskip_u rfl rfl ?_ | refine l_gdo rfl rfl (by exact y_field rfl) ?_
          first | refine l_gskip rfl rfl ?_ | refine l_gskip_u rfl rfl ?_ | refine l_gdo rfl rfl (by exact y_indexArr (off := 7) rfl rfl (by decide) (by decide) rfl) ?_
          first | refine l_gskip rfl rfl ?_ | refine l_gskip_u rfl rfl ?_ | refine l_gdo rfl rfl (by exact y_ld hs rfl rfl) ?_
          first | refine l_gskip rfl rfl ?_ | refine l_gskip_u rfl rfl ?_ | refine l_gdo rfl rfl (by first | exact y_pk_bt rfl rfl | exact y_pk_bf rfl rfl) ?_
          refine l_q (by first | exact y_pk_bt rfl rfl | exact y_pk_bf rfl rfl) ?_
          refine l_end ?_
          refine e_then ?_
          refine cond_t rfl ?_
          refine s_reg ?_
          refine l_q (by exact y_as_int rfl) ?_
          refine l_end ?_
          refine e_then ?_
          refine s_reg ?_
          refine l_q (by exact y_mv_ptr rfl) ?_
          refine l_q (by exact y_mv_ptr rfl) ?_
          refine l_q (by first | exact y_nil rfl | exact y_nilf rfl) ?_
          refine l_q (by exact y_field rfl) ?_
          refine l_q (by exact y_ld hs rfl rfl) ?_
          refine l_q (by exact y_mv_int rfl) ?_
          refine l_q (by first | exact y_addn rfl rfl (by omega) | exact y_add rfl rfl rfl) ?_
          refine l_q (by first | exact y_nil rfl | exact y_nilf rfl) ?_
          refine l_q (by exact y_field rfl) ?_
          refine l_w (w_store (v := .int .i64 _) hs rfl rfl rfl rfl (fun w hs => ?_))
          refine l_end ?_
          exact end_ [] rfl trivial hs
    · have e1 : touchF ⟨pr, aa, ap, ba, bp, inw, f0, f1, til⟩ side u v now = ⟨pr, aa, ap, ba, bp, inw, f0, f1, now + 50⟩ := by simp [touchF, cu, cv]
      rw [e1]
      refine s_seq ?_
      refine s_reg ?_
      refine l_q (by exact y_mv_ptr rfl) ?_
      refine l_q (by first | exact y_nil rfl | exact y_nilf rfl) ?_
      refine l_q (by exact y_field rfl) ?_
      refine l_q (by exact y_ld hs rfl rfl) ?_
      refine l_q (by exact y_mv_int rfl) ?_
      refine l_q (by exact y_indexT (off := 0) rfl rfl (by decide) (by decide) rfl rfl) ?_
      refine l_q (by exact y_as_ptr rfl) ?_
      refine l_end ?_
      refine e_then ?_
      refine s_seq ?_
      refine s_seq ?_
      refine s_reg ?_
      refine l_q (by exact y_mv_int rfl) ?_
      refine l_q (by exact y_toInt (b := (u : Int)) (y_and64 (b := 1) rfl rfl (by omega) (by decide)) (by rw [hu])) ?_
      refine l_q (by first | exact y_neq rfl rfl (decide_eq_true (by omega)) | exact y_neq rfl rfl (decide_eq_false (by omega)) | exact y_neq rfl rfl rfl) ?_
      refine l_end ?_
      refine e_then ?_
      refine cond_f rfl ?_
      refine s_skip ?_
      refine e_then ?_
      refine s_seq ?_
      refine s_reg ?_
      refine l_q (by exact y_as_int rfl) ?_
      refine l_end ?_
      refine e_then ?_
      refine s_seq ?_
      refine s_seq ?_
      refine s_reg ?_
      refine l_q (by exact y_mv_int rfl) ?_
      refine l_q (by exact y_toInt (b := (v : Int)) (y_and64 (b := 4) rfl rfl (by omega) (by decide)) (by rw [hv])) ?_
      refine l_q (by first | exact y_neq rfl rfl (decide_eq_true (by omega)) | exact y_neq rfl rfl (decide_eq_false (by omega)) | exact y_neq rfl rfl rfl) ?_
      refine l_q (by exact y_mv_bool rfl) ?_
      first | refine l_gskip rfl rfl ?_ | refine l_gskip_u rfl rfl ?_ | refine l_gdo rfl rfl (by exact y_mv_ptr rfl) ?_
      first | refine l_gskip rfl rfl ?_ | refine l_gskip_u rfl rfl ?_ | refine l_gdo rfl rfl (by first | exact y_nil rfl | exact y_nilf rfl) ?_
      first | refine l_gskip rfl rfl ?_ | refine l_gskip_u rfl rfl ?_ | refine l_gdo rfl rfl (by exact y_field rfl) ?_
      first | refine l_gskip rfl rfl ?_ | refine l_gskip_u rfl rfl ?_ | refine l_gdo rfl rfl (by exact y_indexArr (off := 6) rfl rfl (by decide) (by decide) rfl) ?_
      first | refine l_gskip rfl rfl ?_ | refine l_gskip_u rfl rfl ?_ | refine l_gdo rfl rfl (by exact y_ld hs rfl rfl) ?_
      first | refine l_gskip rfl rfl ?_ | refine l_gskip_u rfl rfl ?_ | refine l_gdo rfl rfl (by exact y_mv_bool rfl) ?_
      first | refine l_gskip rfl rfl ?_ | refine l_gskip_u rfl rfl ?_ | refine l_gdo rfl rfl (by exact y_mv_ptr rfl) ?_
      first | refine l_gskip rfl rfl ?_ | refine l_gskip_u rfl rfl ?_ | refine l_gdo rfl rfl (by first | exact y_nil rfl | exact y_nilf rfl) ?_
      first | refine l_gskip rfl rfl ?_ | refine l_gskip_u rfl rfl ?_ | refine l_gdo rfl rfl (by exact y_field rfl) ?_
      first | refine l_gskip rfl rfl ?_ | refine l_gskip_u rfl rfl ?_ | refine l_gdo rfl rfl (by exact y_indexArr (off := 7) rfl rfl (by decide) (by decide) rfl) ?_
      first | refine l_gskip rfl rfl ?_ | refine l_gskip_u rfl rfl ?_ | refine l_gdo rfl rfl (by exact y_ld hs rfl rfl) ?_
      first | refine l_gskip rfl rfl ?_ | refine l_gskip_u rfl rfl ?_ | refine l_gdo rfl rfl (by first | exact y_pk_bt rfl rfl | exact y_pk_bf rfl rfl) ?_
      refine l_q (by first | exact y_pk_bt rfl rfl | exact y_pk_bf rfl rfl) ?_
      refine l_end ?_
      refine e_then ?_
      refine cond_t rfl ?_
      refine s_reg ?_
      refine l_q (by exact y_as_int rfl) ?_
      refine l_end ?_
      refine e_then ?_
      refine s_reg ?_
      refine l_q (by exact y_mv_ptr rfl) ?_
      refine l_q (by exact y_mv_ptr rfl) ?_
      refine l_q (by first | exact y_nil rfl | exact y_nilf rfl) ?_
      refine l_q (by exact y_field rfl) ?_
      refine l_q (by exact y_ld hs rfl rfl) ?_
      refine l_q (by exact y_mv_int rfl) ?_
      refine l_q (by first | exact y_addn rfl rfl (by omega) | exact y_add rfl rfl rfl) ?_
      refine l_q (by first | exact y_nil rfl | exact y_nilf rfl) ?_
      refine l_q (by exact y_field rfl) ?_
      refine l_w (w_store (v := .int .i64 _) hs rfl rfl rfl rfl (fun w hs => ?_))
      refine l_end ?_
      exact end_ [] rfl trivial hs
  · rcases hside with rfl | rfl
    · by_cases cv : v = 0
      · cases f1
        · have e1 : touchF ⟨pr, aa, ap, ba, bp, inw, f0, false, til⟩ 0 u v now = ⟨pr, aa, ap, ba, bp, inw, true, false, now + 500⟩ := by simp [touchF, cu, cv]
          rw [e1]
          refine s_seq ?_
          refine s_reg ?_
          refine l_q (by exact y_mv_ptr rfl) ?_
          refine l_q (by first | exact y_nil rfl | exact y_nilf rfl) ?_
          refine l_q (by exact y_field rfl) ?_
          refine l_q (by exact y_ld hs rfl rfl) ?_
          refine l_q (by exact y_mv_int rfl) ?_
          refine l_q (by exact y_indexT (off := 0) rfl rfl (by decide) (by decide) rfl rfl) ?_
          refine l_q (by exact y_as_ptr rfl) ?_
          refine l_end ?_
          refine e_then ?_
          refine s_seq ?_
          refine s_seq ?_
          refine s_reg ?_
          refine l_q (by exact y_mv_int rfl) ?_
          refine l_q (by exact y_toInt (b := (u : Int)) (y_and64 (b := 1) rfl rfl (by omega) (by decide)) (by rw [hu])) ?_
          refine l_q (by first | exact y_neq rfl rfl (decide_eq_true (by omega)) | exact y_neq rfl rfl (decide_eq_false (by omega)) | exact y_neq rfl rfl rfl) ?_
          refine l_end ?_
          refine e_then ?_
          refine cond_t rfl ?_
          refine s_reg ?_
          refine l_q (by exact y_mv_ptr rfl) ?_
          refine l_q (by exact y_mv_int rfl) ?_
          refine l_q (by first | exact y_nil rfl | exact y_nilf rfl) ?_
          refine l_q (by exact y_field rfl) ?_
          refine l_q (by first | exact y_indexArr (off := 6) rfl rfl (by decide) (by decide) rfl | exact y_indexArr (off := 7) rfl rfl (by decide) (by decide) rfl) ?_
          refine l_w (w_store (v := .bool _) hs rfl rfl rfl rfl (fun w hs => ?_))
          refine l_end ?_
          refine e_then ?_
          refine s_seq ?_
          refine s_reg ?_
          refine l_q (by exact y_as_int rfl) ?_
          refine l_end ?_
          refine e_then ?_
          refine s_seq ?_
          refine s_seq ?_
          refine s_reg ?_
          refine l_q (by exact y_mv_int rfl) ?_
          refine l_q (by exact y_toInt (b := (v : Int)) (y_and64 (b := 4) rfl rfl (by omega) (by decide)) (by rw [hv])) ?_
          refine l_q (by first | exact y_neq rfl rfl (decide_eq_true (by omega)) | exact y_neq rfl rfl (decide_eq_false (by omega)) | exact y_neq rfl rfl rfl) ?_
          refine l_q (by exact y_mv_bool rfl) ?_
          first | refine l_gskip rfl rfl ?_ | refine l_gskip_u rfl rfl ?_ | refine l_gdo rfl rfl (by exact y_mv_ptr rfl) ?_
          first | refine l_gskip rfl rfl ?_ | refine l_gskip_u rfl rfl ?_ | refine l_gdo rfl rfl (by first | exact y_nil rfl | exact y_nilf rfl) ?_
          first | refine l_gskip rfl rfl ?_ | refine l_gskip_u rfl rfl ?_ | refine l_gdo rfl rfl (by exact y_field rfl) ?_
          first | refine l_gskip rfl rfl ?_ | refine l_gskip_u rfl rfl ?_ | refine l_gdo rfl rfl (by exact y_indexArr (off := 6) rfl rfl (by decide) (by decide) rfl) ?_
          first | refine l_gskip rfl rfl ?_ | refine l_gskip_u rfl rfl ?_ | refine l_gdo rfl rfl (by exact y_ld hs rfl rfl) ?_
          first | refine l_gskip rfl rfl ?_ | refine l_gskip_u rfl rfl ?_ | refine l_gdo rfl rfl (by exact y_mv_bool rfl) ?_
          first | refine l_gskip rfl rfl ?_ | refine l_gskip_u rfl rfl ?_ | refine l_gdo rfl rfl (by exact y_mv_ptr rfl) ?_
          first | refine l_gskip rfl rfl ?_ | refine l_gskip_u rfl rfl ?_ | refine l_gdo rfl rfl (by first | exact y_nil rfl | exact y_nilf rfl) ?_
          first | refine l_gskip rfl rfl ?_ | refine l_gskip_u rfl rfl ?_ | refine l_gdo rfl rfl (by exact y_field rfl) ?_
          first | refine l_gskip rfl rfl ?_ | refine l_gskip_u rfl rfl ?_ | refine l_gdo rfl rfl (by exact y_indexArr (off := 7) rfl rfl (by decide) (by decide) rfl) ?_
          first | refine l_gskip rfl rfl ?_ | refine l_gskip_u rfl rfl ?_ | refine l_gdo rfl rfl (by exact y_ld hs rfl rfl) ?_
          first | refine l_gskip rfl rfl ?_ | refine l_gskip_u rfl rfl ?_ | refine l_gdo rfl rfl (by first | exact y_pk_bt rfl rfl | exact y_pk_bf rfl rfl) ?_
          refine l_q (by first | exact y_pk_bt rfl rfl | exact y_pk_bf rfl rfl) ?_
          refine l_end ?_
          refine e_then ?_
          refine cond_f rfl ?_
          refine s_skip ?_
          refine e_then ?_
          refine s_reg ?_
          refine l_q (by exact y_mv_ptr rfl) ?_
          refine l_q (by exact y_mv_ptr rfl) ?_
          refine l_q (by first | exact y_nil rfl | exact y_nilf rfl) ?_
          refine l_q (by exact y_field rfl) ?_
          refine l_q (by exact y_ld hs rfl rfl) ?_
          refine l_q (by exact y_mv_int rfl) ?_
          refine l_q (by first | exact y_addn rfl rfl (by omega) | exact y_add rfl rfl rfl) ?_
          refine l_q (by first | exact y_nil rfl | exact y_nilf rfl) ?_
          refine l_q (by exact y_field rfl) ?_
          refine l_w (w_store (v := .int .i64 _) hs rfl rfl rfl rfl (fun w hs => ?_))
          refine l_end ?_
          exact end_ [] rfl trivial hs
        · have e1 : touchF ⟨pr, aa, ap, ba, bp, inw, f0, true, til⟩ 0 u v now = ⟨pr, aa, ap, ba, bp, inw, true, true, now + 50⟩ := by simp [touchF, cu, cv]
          rw [e1]
          refine s_seq ?_
          refine s_reg ?_
          refine l_q (by exact y_mv_ptr rfl) ?_
          refine l_q (by first | exact y_nil rfl | exact y_nilf rfl) ?_
          refine l_q (by exact y_field rfl) ?_
          refine l_q (by exact y_ld hs rfl rfl) ?_
          refine l_q (by exact y_mv_int rfl) ?_
          refine l_q (by exact y_indexT (off := 0) rfl rfl (by decide) (by decide) rfl rfl) ?_
          refine l_q (by exact y_as_ptr rfl) ?_
          refine l_end ?_
          refine e_then ?_
          refine s_seq ?_
          refine s_seq ?_
          refine s_reg ?_
          refine l_q (by exact y_mv_int rfl) ?_
          refine l_q (by exact y_toInt (b := (u : Int)) (y_and64 (b := 1) rfl rfl (by omega) (by decide)) (by rw [hu])) ?_
          refine l_q (by first | exact y_neq rfl rfl (decide_eq_true (by omega)) | exact y_neq rfl rfl (decide_eq_false (by omega)) | exact y_neq rfl rfl rfl) ?_
          refine l_end ?_
          refine e_then ?_
          refine cond_t rfl ?_
          refine s_reg ?_
          refine l_q (by exact y_mv_ptr rfl) ?_
          refine l_q (by exact y_mv_int rfl) ?_
          refine l_q (by first | exact y_nil rfl | exact y_nilf rfl) ?_
          refine l_q (by exact y_field rfl) ?_
          refine l_q (by first | exact y_indexArr (off := 6) rfl rfl (by decide) (by decide) rfl | exact y_indexArr (off := 7) rfl rfl (by decide) (by decide) rfl) ?_
          refine l_w (w_store (v := .bool _) hs rfl rfl rfl rfl (fun w hs => ?_))
          refine l_end ?_
          refine e_then ?_
          refine s_seq ?_
          refine s_reg ?_
          refine l_q (by exact y_as_int rfl) ?_
          refine l_end ?_
          refine e_then ?_
          refine s_seq ?_
          refine s_seq ?_
          refine s_reg ?_
          refine l_q (by exact y_mv_int rfl) ?_
          refine l_q (by exact y_toInt (b := (v : Int)) (y_and64 (b := 4) rfl rfl (by omega) (by decide)) (by rw [hv])) ?_
          refine l_q (by first | exact y_neq rfl rfl (decide_eq_true (by omega)) | exact y_neq rfl rfl (decide_eq_false (by omega)) | exact y_neq rfl rfl rfl) ?_
          refine l_q (by exact y_mv_bool rfl) ?_
          first | refine l_gskip rfl rfl ?_ | refine l_gskip_u rfl rfl ?_ | refine l_gdo rfl rfl (by exact y_mv_ptr rfl) ?_
          first | refine l_gskip rfl rfl ?_ | refine l_gskip_u rfl rfl ?_ | refine l_gdo rfl rfl (by first | exact y_nil rfl | exact y_nilf rfl) ?_
          first | refine l_gskip rfl rfl ?_ | refine l_gskip_u rfl rfl ?_ | refine l_gdo rfl rfl (by exact y_field rfl) ?_
          first | refine l_gskip rfl rfl ?_ | refine l_gskip_u rfl rfl ?_ | refine l_gdo rfl rfl (by exact y_indexArr (off := 6) rfl rfl (by decide) (by decide) rfl) ?_
          first | refine l_gskip rfl rfl ?_ | refine l_gskip_u rfl rfl ?_ | refine l_gdo rfl rfl (by exact y_ld hs rfl rfl) ?_
          first | refine l_gskip rfl rfl ?_ | refine l_gskip_u rfl rfl ?_ | refine l_gdo rfl rfl (by exact y_mv_bool rfl) ?_
          first | refine l_gskip rfl rfl ?_ | refine l_gskip_u rfl rfl ?_ | refine l_gdo rfl rfl (by exact y_mv_ptr rfl) ?_
          first | refine l_gskip rfl rfl ?_ | refine l_gskip_u rfl rfl ?_ | refine l_gdo rfl rfl (by first | exact y_nil rfl | exact y_nilf rfl) ?_
          first | refine l_gskip rfl rfl ?_ | refine l_gskip_u rfl rfl ?_ | refine l_gdo rfl rfl (by exact y_field rfl) ?_
          first | refine l_gskip rfl rfl ?_ | refine l_gskip_u rfl rfl ?_ | refine l_gdo rfl rfl (by exact y_indexArr (off := 7) rfl rfl (by decide) (by decide) rfl) ?_
          first | refine l_gskip rfl rfl ?_ | refine l_gskip_u rfl rfl ?_ | refine l_gdo rfl rfl (by exact y_ld hs rfl rfl) ?_
          first | refine l_gskip rfl rfl ?_ | refine l_gskip_u rfl rfl ?_ | refine l_gdo rfl rfl (by first | exact y_pk_bt rfl rfl | exact y_pk_bf rfl rfl) ?_
          refine l_q (by first | exact y_pk_bt rfl rfl | exact y_pk_bf rfl rfl) ?_
          refine l_end ?_
          refine e_then ?_
          refine cond_t rfl ?_
          refine s_reg ?_
          refine l_q (by exact y_as_int rfl) ?_
          refine l_end ?_
          refine e_then ?_
          refine s_reg ?_
          refine l_q (by exact y_mv_ptr rfl) ?_
          refine l_q (by exact y_mv_ptr rfl) ?_
          refine l_q (by first | exact y_nil rfl | exact y_nilf rfl) ?_
          refine l_q (by exact y_field rfl) ?_
          refine l_q (by exact y_ld hs rfl rfl) ?_
          refine l_q (by exact y_mv_int rfl) ?_
          refine l_q (by first | exact y_addn rfl rfl (by omega) | exact y_add rfl rfl rfl) ?_
          refine l_q (by first | exact y_nil rfl | exact y_nilf rfl) ?_
          refine l_q (by exact y_field rfl) ?_
          refine l_w (w_store (v := .int .i64 _) hs rfl rfl rfl rfl (fun w hs => ?_))
          refine l_end ?_
          exact end_ [] rfl trivial hs
      · have e1 : touchF ⟨pr, aa, ap, ba, bp, inw, f0, f1, til⟩ 0 u v now = ⟨pr, aa, ap, ba, bp, inw, true, f1, now + 50⟩ := by simp [touchF, cu, cv]
        rw [e1]
        refine s_seq ?_
        refine s_reg ?_
        refine l_q (by exact y_mv_ptr rfl) ?_
        refine l_q (by first | exact y_nil rfl | exact y_nilf rfl) ?_
        refine l_q (by exact y_field rfl) ?_
        refine l_q (by exact y_ld hs rfl rfl) ?_
        refine l_q (by exact y_mv_int rfl) ?_
        refine l_q (by exact y_indexT (off := 0) rfl rfl (by decide) (by decide) rfl rfl) ?_
        refine l_q (by exact y_as_ptr rfl) ?_
        refine l_end ?_
        refine e_then ?_
        refine s_seq ?_
        refine s_seq ?_
        refine s_reg ?_
        refine l_q (by exact y_mv_int rfl) ?_
        refine l_q (by exact y_toInt (b := (u : Int)) (y_and64 (b := 1) rfl rfl (by omega) (by decide)) (by rw [hu])) ?_
        refine l_q (by first | exact y_neq rfl rfl (decide_eq_true (by omega)) | exact y_neq rfl rfl (decide_eq_false (by omega)) | exact y_neq rfl rfl rfl) ?_
        refine l_end ?_
        refine e_then ?_
        refine cond_t rfl ?_
        refine s_reg ?_
        refine l_q (by exact y_mv_ptr rfl) ?_
        refine l_q (by exact y_mv_int rfl) ?_
        refine l_q (by first | exact y_nil rfl | exact y_nilf rfl) ?_
        refine l_q (by exact y_field rfl) ?_
        refine l_q (by first | exact y_indexArr (off := 6) rfl rfl (by decide) (by decide) rfl | exact y_indexArr (off := 7) rfl rfl (by decide) (by decide) rfl) ?_
        refine l_w (w_store (v := .bool _) hs rfl rfl rfl rfl (fun w hs => ?_))
        refine l_end ?_
        refine e_then ?_
        refine s_seq ?_
        refine s_reg ?_
        refine l_q (by exact y_as_int rfl) ?_
        refine l_end ?_
        refine e_then ?_
        refine s_seq ?_
        refine s_seq ?_
        refine s_reg ?_
        refine l_q (by exact y_mv_int rfl) ?_
        refine l_q (by exact y_toInt (b := (v : Int)) (y_and64 (b := 4) rfl rfl (by omega) (by decide)) (by rw [hv])) ?_
        refine l_q (by first | exact y_neq rfl rfl (decide_eq_true (by omega)) | exact y_neq rfl rfl (decide_eq_false (by omega)) | exact y_neq rfl rfl rfl) ?_
        refine l_q (by exact y_mv_bool rfl) ?_
        first | refine l_gskip rfl rfl ?_ | refine l_gskip_u rfl rfl ?_ | refine l_gdo rfl rfl (by exact y_mv_ptr rfl) ?_
        first | refine l_gskip rfl rfl ?_ | refine l_gskip_u rfl rfl ?_ | refine l_gdo rfl rfl (by first | exact y_nil rfl | exact y_nilf rfl) ?_
        first | refine l_gskip rfl rfl ?_ | refine l_gskip_u rfl rfl ?_ | refine l_gdo rfl rfl (by exact y_field rfl) ?_
        first | refine l_gskip rfl rfl ?_ | refine l_gskip_u rfl rfl ?_ | refine l_gdo rfl rfl (by exact y_indexArr (off := 6) rfl rfl (by decide) (by decide) rfl) ?_
        first | refine l_gskip rfl rfl ?_ | refine l_gskip_u rfl rfl ?_ | refine l_gdo rfl rfl (by exact y_ld hs rfl rfl) ?_
        first | refine l_gskip rfl rfl ?_ | refine l_gskip_u rfl rfl ?_ | refine l_gdo rfl rfl (by exact y_mv_bool rfl) ?_
        first | refine l_gskip rfl rfl ?_ | refine l_gskip_u rfl rfl ?_ | refine l_gdo rfl rfl (by exact y_mv_ptr rfl) ?_
        first | refine l_gskip rfl rfl ?_ | refine l_gskip_u rfl rfl ?_ | refine l_gdo rfl rfl (by first | exact y_nil rfl | exact y_nilf rfl) ?_
        first | refine l_gskip rfl rfl ?_ | refine l_gskip_u rfl rfl ?_ | refine l_gdo rfl rfl (by exact y_field rfl) ?_
        first | refine l_gskip rfl rfl ?_ | refine l_gskip_u rfl rfl ?_ | refine l_gdo rfl rfl (by exact y_indexArr (off := 7) rfl rfl (by decide) (by decide) rfl) ?_
        first | refine l_gskip rfl rfl ?_ | refine l_gskip_u rfl rfl ?_ | refine l_gdo rfl rfl (by exact y_ld hs rfl rfl) ?_
        first | refine l_gskip rfl rfl ?_ | refine l_gskip_u rfl rfl ?_ | refine l_gdo rfl rfl (by first | exact y_pk_bt rfl rfl | exact y_pk_bf rfl rfl) ?_
        refine l_q (by first | exact y_pk_bt rfl rfl | exact y_pk_bf rfl rfl) ?_
        refine l_end ?_
        refine e_then ?_
        refine cond_t rfl ?_
        refine s_reg ?_
        refine l_q (by exact y_as_int rfl) ?_
        refine l_end ?_
        refine e_then ?_
        refine s_reg ?_
        refine l_q (by exact y_mv_ptr rfl) ?_
        refine l_q (by exact y_mv_ptr rfl) ?_
        refine l_q (by first | exact y_nil rfl | exact y_nilf rfl) ?_
        refine l_q (by exact y_field rfl) ?_
        refine l_q (by exact y_ld hs rfl rfl) ?_
        refine l_q (by exact y_mv_int rfl) ?_
        refine l_q (by first | exact y_addn rfl rfl (by omega) | exact y_add rfl rfl rfl) ?_
        refine l_q (by first | exact y_nil rfl | exact y_nilf rfl) ?_
        refine l_q (by exact y_field rfl) ?_
        refine l_w (w_store (v := .int .i64 _) hs rfl rfl rfl rfl (fun w hs => ?_))
        refine l_end ?_
        exact end_ [] rfl trivial hs
    · by_cases cv : v = 0
      · cases f0
        · have e1 : touchF ⟨pr, aa, ap, ba, bp, inw, false, f1, til⟩ 1 u v now = ⟨pr, aa, ap, ba, bp, inw, false, true, now + 500⟩ := by simp [touchF, cu, cv]
          rw [e1]
          refine s_seq ?_
          refine s_reg ?_
          refine l_q (by exact y_mv_ptr rfl) ?_
          refine l_q (by first | exact y_nil rfl | exact y_nilf rfl) ?_
          refine l_q (by exact y_field rfl) ?_
          refine l_q (by exact y_ld hs rfl rfl) ?_
          refine l_q (by exact y_mv_int rfl) ?_
          refine l_q (by exact y_indexT (off := 0) rfl rfl (by decide) (by decide) rfl rfl) ?_
          refine l_q (by exact y_as_ptr rfl) ?_
          refine l_end ?_
          refine e_then ?_
          refine s_seq ?_
          refine s_seq ?_
          refine s_reg ?_
          refine l_q (by exact y_mv_int rfl) ?_
          refine l_q (by exact y_toInt (b := (u : Int)) (y_and64 (b := 1) rfl rfl (by omega) (by decide)) (by rw [hu])) ?_
          refine l_q (by first | exact y_neq rfl rfl (decide_eq_true (by omega)) | exact y_neq rfl rfl (decide_eq_false (by omega)) | exact y_neq rfl rfl rfl) ?_
          refine l_end ?_
          refine e_then ?_
          refine cond_t rfl ?_
          refine s_reg ?_
          refine l_q (by exact y_mv_ptr rfl) ?_
          refine l_q (by exact y_mv_int rfl) ?_
          refine l_q (by first | exact y_nil rfl | exact y_nilf rfl) ?_
          refine l_q (by exact y_field rfl) ?_
          refine l_q (by first | exact y_indexArr (off := 6) rfl rfl (by decide) (by decide) rfl | exact y_indexArr (off := 7) rfl rfl (by decide) (by decide) rfl) ?_
          refine l_w (w_store (v := .bool _) hs rfl rfl rfl rfl (fun w hs => ?_))
          refine l_end ?_
          refine e_then ?_
          refine s_seq ?_
          refine s_reg ?_
          refine l_q (by exact y_as_int rfl) ?_
          refine l_end ?_
          refine e_then ?_
          refine s_seq ?_
          refine s_seq ?_
          refine s_reg ?_
          refine l_q (by exact y_mv_int rfl) ?_
          refine l_q (by exact y_toInt (b := (v : Int)) (y_and64 (b := 4) rfl rfl (by omega) (by decide)) (by rw [hv])) ?_
          refine l_q (by first | exact y_neq rfl rfl (decide_eq_true (by omega)) | exact y_neq rfl rfl (decide_eq_false (by omega)) | exact y_neq rfl rfl rfl) ?_
          refine l_q (by exact y_mv_bool rfl) ?_
          first | refine l_gskip rfl rfl ?_ | refine l_gskip_u rfl rfl ?_ | refine l_gdo rfl rfl (by exact y_mv_ptr rfl) ?_
          first | refine l_gskip rfl rfl ?_ | refine l_gskip_u rfl rfl ?_ | refine l_gdo rfl rfl (by first | exact y_nil rfl | exact y_nilf rfl) ?_
          first | refine l_gskip rfl rfl ?_ | refine l_gskip_u rfl rfl ?_ | refine l_gdo rfl rfl (by exact y_field rfl) ?_
          first | refine l_gskip rfl rfl ?_ | refine l_gskip_u rfl rfl ?_ | refine l_gdo rfl rfl (by exact y_indexArr (off := 6) rfl rfl (by decide) (by decide) rfl) ?_
          first | refine l_gskip rfl rfl ?_ | refine l_gskip_u rfl rfl ?_ | refine l_gdo rfl rfl (by exact y_ld hs rfl rfl) ?_
          first | refine l_gskip rfl rfl ?_ | refine l_gskip_u rfl rfl ?_ | refine l_gdo rfl rfl (by exact y_mv_bool rfl) ?_
          first | refine l_gskip rfl rfl ?_ | refine l_gskip_u rfl rfl ?_ | refine l_gdo rfl rfl (by exact y_mv_ptr rfl) ?_
          first | refine l_gskip rfl rfl ?_ | refine l_gskip_u rfl rfl ?_ | refine l_gdo rfl rfl (by first | exact y_nil rfl | exact y_nilf rfl) ?_
          first | refine l_gskip rfl rfl ?_ | refine l_gskip_u rfl rfl ?_ | refine l_gdo rfl rfl (by exact y_field rfl) ?_
          first | refine l_gskip rfl rfl ?_ | refine l_gskip_u rfl rfl ?_ | refine l_gdo rfl rfl (by exact y_indexArr (off := 7) rfl rfl (by decide) (by decide) rfl) ?_
          first | refine l_gskip rfl rfl ?_ | refine l_gskip_u rfl rfl ?_ | refine l_gdo rfl rfl (by exact y_ld hs rfl rfl) ?_
          first | refine l_gskip rfl rfl ?_ | refine l_gskip_u rfl rfl ?_ | refine l_gdo rfl rfl (by first | exact y_pk_bt rfl rfl | exact y_pk_bf rfl rfl) ?_
          refine l_q (by first | exact y_pk_bt rfl rfl | exact y_pk_bf rfl rfl) ?_
          refine l_end ?_
          refine e_then ?_
          refine cond_f rfl ?_
          refine s_skip ?_
          refine e_then ?_
          refine s_reg ?_
          refine l_q (by exact y_mv_ptr rfl) ?_
          refine l_q (by exact y_mv_ptr rfl) ?_
          refine l_q (by first | exact y_nil rfl | exact y_nilf rfl) ?_
          refine l_q (by exact y_field rfl) ?_
          refine l_q (by exact y_ld hs rfl rfl) ?_
          refine l_q (by exact y_mv_int rfl) ?_
          refine l_q (by first | exact y_addn rfl rfl (by omega) | exact y_add rfl rfl rfl) ?_
          refine l_q (by first | exact y_nil rfl | exact y_nilf rfl) ?_
          refine l_q (by exact y_field rfl) ?_
          refine l_w (w_store (v := .int .i64 _) hs rfl rfl rfl rfl (fun w hs => ?_))
          refine l_end ?_
          exact end_ [] rfl trivial hs
        · have e1 : touchF ⟨pr, aa, ap, ba, bp, inw, true, f1, til⟩ 1 u v now = ⟨pr, aa, ap, ba, bp, inw, true, true, now + 50⟩ := by simp [touchF, cu, cv]
          rw [e1]
          refine s_seq ?_
          refine s_reg ?_
          refine l_q (by exact y_mv_ptr rfl) ?_
          refine l_q (by first | exact y_nil rfl | exact y_nilf rfl) ?_
          refine l_q (by exact y_field rfl) ?_
          refine l_q (by exact y_ld hs rfl rfl) ?_
          refine l_q (by exact y_mv_int rfl) ?_
          refine l_q (by exact y_indexT (off := 0) rfl rfl (by decide) (by decide) rfl rfl) ?_
          refine l_q (by exact y_as_ptr rfl) ?_
          refine l_end ?_
          refine e_then ?_
          refine s_seq ?_
          refine s_seq ?_
          refine s_reg ?_
          refine l_q (by exact y_mv_int rfl) ?_
          refine l_q (by exact y_toInt (b := (u : Int)) (y_and64 (b := 1) rfl rfl (by omega) (by decide)) (by rw [hu])) ?_
          refine l_q (by first | exact y_neq rfl rfl (decide_eq_true (by omega)) | exact y_neq rfl rfl (decide_eq_false (by omega)) | exact y_neq rfl rfl rfl) ?_
          refine l_end ?_
          refine e_then ?_
          refine cond_t rfl ?_
          refine s_reg ?_
          refine l_q (by exact y_mv_ptr rfl) ?_
          refine l_q (by exact y_mv_int rfl) ?_
          refine l_q (by first | exact y_nil rfl | exact y_nilf rfl) ?_
          refine l_q (by exact y_field rfl) ?_
          refine l_q (by first | exact y_indexArr (off := 6) rfl rfl (by decide) (by decide) rfl | exact y_indexArr (off := 7) rfl rfl (by decide) (by decide) rfl) ?_
          refine l_w (w_store (v := .bool _) hs rfl rfl rfl rfl (fun w hs => ?_))
          refine l_end ?_
          refine e_then ?_
          refine s_seq ?_
          refine s_reg ?_
          refine l_q (by exact y_as_int rfl) ?_
          refine l_end ?_
          refine e_then ?_
          refine s_seq ?_
          refine s_seq ?_
          refine s_reg ?_
          refine l_q (by exact y_mv_int rfl) ?_
          refine l_q (by exact y_toInt (b := (v : Int)) (y_and64 (b := 4) rfl rfl (by omega) (by decide)) (by rw [hv])) ?_
          refine l_q (by first | exact y_neq rfl rfl (decide_eq_true (by omega)) | exact y_neq rfl rfl (decide_eq_false (by omega)) | exact y_neq rfl rfl rfl) ?_
          refine l_q (by exact y_mv_bool rfl) ?_
          first | refine l_gskip rfl rfl ?_ | refine l_gskip_u rfl rfl ?_ | refine l_gdo rfl rfl (by exact y_mv_ptr rfl) ?_
          first | refine l_gskip rfl rfl ?_ | refine l_gskip_u rfl rfl ?_ | refine l_gdo rfl rfl (by first | exact y_nil rfl | exact y_nilf rfl) ?_
          first | refine l_gskip rfl rfl ?_ | refine l_gskip_u rfl rfl ?_ | refine l_gdo rfl rfl (by exact y_field rfl) ?_
          first | refine l_gskip rfl rfl ?_ | refine l_gskip_u rfl rfl ?_ | refine l_gdo rfl rfl (by exact y_indexArr (off := 6) rfl rfl (by decide) (by decide) rfl) ?_
          first | refine l_gskip rfl rfl ?_ | refine l_gskip_u rfl rfl ?_ | refine l_gdo rfl rfl (by exact y_ld hs rfl rfl) ?_
          first | refine l_gskip rfl rfl ?_ | refine l_gskip_u rfl rfl ?_ | refine l_gdo rfl rfl (by exact y_mv_bool rfl) ?_
          first | refine l_gskip rfl rfl ?_ | refine l_gskip_u rfl rfl ?_ | refine l_gdo rfl rfl (by exact y_mv_ptr rfl) ?_
          first | refine l_gskip rfl rfl ?_ | refine l_gskip_u rfl rfl ?_ | refine l_gdo rfl rfl (by first | exact y_nil rfl | exact y_nilf rfl) ?_
          first | refine l_gskip rfl rfl ?_ | refine l_gskip_u rfl rfl ?_ | refine l_gdo rfl rfl (by exact y_field rfl) ?_
          first | refine l_gskip rfl rfl ?_ | refine l_gskip_u rfl rfl ?_ | refine l_gdo rfl rfl (by exact y_indexArr (off := 7) rfl rfl (by decide) (by decide) rfl) ?_
          first | refine l_gskip rfl rfl ?_ | refine l_gskip_u rfl rfl ?_ | refine l_gdo rfl rfl (by exact y_ld hs rfl rfl) ?_
          first | refine l_gskip rfl rfl ?_ | refine l_gskip_u rfl rfl ?_ | refine l_gdo rfl rfl (by first | exact y_pk_bt rfl rfl | exact y_pk_bf rfl rfl) ?_
          refine l_q (by first | exact y_pk_bt rfl rfl | exact y_pk_bf rfl rfl) ?_
          refine l_end ?_
          refine e_then ?_
          refine cond_t rfl ?_
          refine s_reg ?_
          refine l_q (by exact y_as_int rfl) ?_
          refine l_end ?_
          refine e_then ?_
          refine s_reg ?_
          refine l_q (by exact y_mv_ptr rfl) ?_
          refine l_q (by exact y_mv_ptr rfl) ?_
          refine l_q (by first | exact y_nil rfl | exact y_nilf rfl) ?_
          refine l_q (by exact y_field rfl) ?_
          refine l_q (by exact y_ld hs rfl rfl) ?_
          refine l_q (by exact y_mv_int rfl) ?_
          refine l_q (by first | exact y_addn rfl rfl (by omega) | exact y_add rfl rfl rfl) ?_
          refine l_q (by first | exact y_nil rfl | exact y_nilf rfl) ?_
          refine l_q (by exact y_field rfl) ?_
          refine l_w (w_store (v := .int .i64 _) hs rfl rfl rfl rfl (fun w hs => ?_))
          refine l_end ?_
          exact end_ [] rfl trivial hs
      · have e1 : touchF ⟨pr, aa, ap, ba, bp, inw, f0, f1, til⟩ 1 u v now = ⟨pr, aa, ap, ba, bp, inw, f0, true, now + 50⟩ := by simp [touchF, cu, cv]
        rw [e1]
        refine s_seq ?_
        refine s_reg ?_
        refine l_q (by exact y_mv_ptr rfl) ?_
        refine l_q (by first | exact y_nil rfl | exact y_nilf rfl) ?_
        refine l_q (by exact y_field rfl) ?_
        refine l_q (by exact y_ld hs rfl rfl) ?_
        refine l_q (by exact y_mv_int rfl) ?_
        refine l_q (by exact y_indexT (off := 0) rfl rfl (by decide) (by decide) rfl rfl) ?_
        refine l_q (by exact y_as_ptr rfl) ?_
        refine l_end ?_
        refine e_then ?_
        refine s_seq ?_
        refine s_seq ?_
        refine s_reg ?_
        refine l_q (by exact y_mv_int rfl) ?_
        refine l_q (by exact y_toInt (b := (u : Int)) (y_and64 (b := 1) rfl rfl (by omega) (by decide)) (by rw [hu])) ?_
        refine l_q (by first | exact y_neq rfl rfl (decide_eq_true (by omega)) | exact y_neq rfl rfl (decide_eq_false (by omega)) | exact y_neq rfl rfl rfl) ?_
        refine l_end ?_
        refine e_then ?_
        refine cond_t rfl ?_
        refine s_reg ?_
        refine l_q (by exact y_mv_ptr rfl) ?_
        refine l_q (by exact y_mv_int rfl) ?_
        refine l_q (by first | exact y_nil rfl | exact y_nilf rfl) ?_
        refine l_q (by exact y_field rfl) ?_
        refine l_q (by first | exact y_indexArr (off := 6) rfl rfl (by decide) (by decide) rfl | exact y_indexArr (off := 7) rfl rfl (by decide) (by decide) rfl) ?_
        refine l_w (w_store (v := .bool _) hs rfl rfl rfl rfl (fun w hs => ?_))
        refine l_end ?_
        refine e_then ?_
        refine s_seq ?_
        refine s_reg ?_
        refine l_q (by exact y_as_int rfl) ?_
        refine l_end ?_
        refine e_then ?_
        refine s_seq ?_
        refine s_seq ?_
        refine s_reg ?_
        refine l_q (by exact y_mv_int rfl) ?_
        refine l_q (by exact y_toInt (b := (v : Int)) (y_and64 (b := 4) rfl rfl (by omega) (by decide)) (by rw [hv])) ?_
        refine l_q (by first | exact y_neq rfl rfl (decide_eq_true (by omega)) | exact y_neq rfl rfl (decide_eq_false (by omega)) | exact y_neq rfl rfl rfl) ?_
        refine l_q (by exact y_mv_bool rfl) ?_
        first | refine l_gskip rfl rfl ?_ | refine l_gskip_u rfl rfl ?_ | refine l_gdo rfl rfl (by exact y_mv_ptr rfl) ?_
        first | refine l_gskip rfl rfl ?_ | refine l_gskip_u rfl rfl ?_ | refine l_gdo rfl rfl (by first | exact y_nil rfl | exact y_nilf rfl) ?_
        first | refine l_gskip rfl rfl ?_ | refine l_gskip_u rfl rfl ?_ | refine l_gdo rfl rfl (by exact y_field rfl) ?_
        first | refine l_gskip rfl rfl ?_ | refine l_gskip_u rfl rfl ?_ | refine l_gdo rfl rfl (by exact y_indexArr (off := 6) rfl rfl (by decide) (by decide) rfl) ?_
        first | refine l_gskip rfl rfl ?_ | refine l_gskip_u rfl rfl ?_ | refine l_gdo rfl rfl (by exact y_ld hs rfl rfl) ?_
        first | refine l_gskip rfl rfl ?_ | refine l_gskip_u rfl rfl ?_ | refine l_gdo rfl rfl (by exact y_mv_bool rfl) ?_
        first | refine l_gskip rfl rfl ?_ | refine l_gskip_u rfl rfl ?_ | refine l_gdo rfl rfl (by exact y_mv_ptr rfl) ?_
        first | refine l_gskip rfl rfl ?_ | refine l_gskip_u rfl rfl ?_ | refine l_gdo rfl rfl (by first | exact y_nil rfl | exact y_nilf rfl) ?_
        first | refine l_gskip rfl rfl ?_ | refine l_gskip_u rfl rfl ?_ | refine l_gdo rfl rfl (by exact y_field rfl) ?_
        first | refine l_gskip rfl rfl ?_ | refine l_gskip_u rfl rfl ?_ | refine l_gdo rfl rfl (by exact y_indexArr (off := 7) rfl rfl (by decide) (by decide) rfl) ?_
        first | refine l_gskip rfl rfl ?_ | refine l_gskip_u rfl rfl ?_ | refine l_gdo rfl rfl (by exact y_ld hs rfl rfl) ?_
        first | refine l_gskip rfl rfl ?_ | refine l_gskip_u rfl rfl ?_ | refine l_gdo rfl rfl (by first | exact y_pk_bt rfl rfl | exact y_pk_bf rfl rfl) ?_
        refine l_q (by first | exact y_pk_bt rfl rfl | exact y_pk_bf rfl rfl) ?_
        refine l_end ?_
        refine e_then ?_
        refine cond_t rfl ?_
        refine s_reg ?_
        refine l_q (by exact y_as_int rfl) ?_
        refine l_end ?_
        refine e_then ?_
        refine s_reg ?_
        refine l_q (by exact y_mv_ptr rfl) ?_
        refine l_q (by exact y_mv_ptr rfl) ?_
        refine l_q (by first | exact y_nil rfl | exact y_nilf rfl) ?_
        refine l_q (by exact y_field rfl) ?_
        refine l_q (by exact y_ld hs rfl rfl) ?_
        refine l_q (by exact y_mv_int rfl) ?_
        refine l_q (by first | exact y_addn rfl rfl (by omega) | exact y_add rfl rfl rfl) ?_
        refine l_q (by first | exact y_nil rfl | exact y_nilf rfl) ?_
        refine l_q (by exact y_field rfl) ?_
        refine l_w (w_store (v := .int .i64 _) hs rfl rfl rfl rfl (fun w hs => ?_))
        refine l_end ?_
        exact end_ [] rfl trivial hs
end Go.Proofs.Ytagdgalnaobpeaa
