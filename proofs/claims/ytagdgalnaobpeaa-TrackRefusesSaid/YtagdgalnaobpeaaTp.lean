/- Facts on the functions and types of this seat that its laws are proved from: contracts under the premises that each theorem names. -/
import Derived.Test.YtagdgalnaobpeaaTo
set_option linter.unusedSimpArgs false
set_option linter.unusedVariables false
set_option linter.unnecessarySimpa false
namespace Go.Proofs.Ytagdgalnaobpeaa
open Go Go.RowKit PB
set_option linter.unusedVariables false
set_option linter.unusedSimpArgs false

/-! ### Judge between two endpoints, under outward() -/
section
variable {W0 w : World} {L : List (Nat × MObj)} {eb cap : Nat} {esp : List Value} {x : Wl} {p : PktV} {sa sp da dp fl : Nat} {pr old now til : Int} {f0 f1 : Bool}
theorem jA (inw : Bool) (hx : x.r = ruleO) (hI : IsP p sa sp da dp pr fl) (h : 0 ≤ now ∧ now ≤ 1000 ∧ old ≤ now) (h2 : 96 ≤ sa ∧ sa ≤ 111) (hf : pr ≠ 6 ∨ fl &&& 22 = 2) (hs : St W0 w (x.w0 old L)) :
    FnC Try.prog 11 [x.ptr, .agg p.cells.toArray, .bool inw, I64 now] w (fun v w' => v = .tuple #[.bool true, I64 0] ∧ ∃ eb cap esp, St W0 w' (x.w1 now eb cap esp ⟨pr, sa, sp, da, dp, inw, false, false, now + 500⟩ L)) := by
  have hk := asksO hx hI h
  obtain ⟨rfl, rfl, rfl, has, rfl, rfl, chk, fits, rfl⟩ := hI
  exact judge_A x p inw old now true (decide_eq_true has) hk (by rw [hx]; exact match_O p fits has h2) _ rfl rfl hf hs
theorem jB (inw : Bool) (hx : x.r = ruleO) (hI : IsP p sa sp da dp pr fl) (h : 0 ≤ now ∧ now ≤ 1000 ∧ old ≤ now) (h2 : 900 ≤ sa) (hs : St W0 w (x.w0 old L)) :
    FnC Try.prog 11 [x.ptr, .agg p.cells.toArray, .bool inw, I64 now] w (fun v w' => v = .tuple #[.bool false, I64 0] ∧ St W0 w' (x.w0 now L)) := by
  have hk := asksO hx hI h
  obtain ⟨rfl, rfl, rfl, has, rfl, rfl, chk, fits, rfl⟩ := hI
  exact judge_B x p inw old now true (decide_eq_true has) hk (by rw [hx]; exact nomatch_O p h2) rfl hs
theorem jC0 (hx : x.r = ruleO) (hI : IsP p sa sp da dp pr fl) (h : 0 ≤ now ∧ now ≤ 1000 ∧ old ≤ now) (hov : ¬ til ≤ now) (hs : St W0 w (x.w1 old eb cap esp ⟨pr, sa, sp, da, dp, false, f0, f1, til⟩ L)) :
    FnC Try.prog 11 [x.ptr, .agg p.cells.toArray, .bool false, I64 now] w (fun v w' => v = .tuple #[.bool true, I64 0] ∧ St W0 w' (x.w1 now eb cap esp (touchF ⟨pr, sa, sp, da, dp, false, f0, f1, til⟩ 0 (fl &&& 1) (fl &&& 4) now) L)) := by
  have hk := asksO hx hI h
  obtain ⟨rfl, rfl, rfl, has, rfl, rfl, chk, fits, rfl⟩ := hI
  exact judge_C0 x p false old now til true (decide_eq_true has) hk rfl _ _ _ _ f0 f1 (decide_eq_false hov) ⟨rfl, rfl⟩ ⟨rfl, rfl⟩ rfl hs
theorem jC1 (hx : x.r = ruleO) (hI : IsP p da dp sa sp pr fl) (h : 0 ≤ now ∧ now ≤ 1000 ∧ old ≤ now) (hov : ¬ til ≤ now) (hne : sa ≠ da) (hs : St W0 w (x.w1 old eb cap esp ⟨pr, sa, sp, da, dp, false, f0, f1, til⟩ L)) :
    FnC Try.prog 11 [x.ptr, .agg p.cells.toArray, .bool true, I64 now] w (fun v w' => v = .tuple #[.bool true, I64 0] ∧ St W0 w' (x.w1 now eb cap esp (touchF ⟨pr, sa, sp, da, dp, false, f0, f1, til⟩ 1 (fl &&& 1) (fl &&& 4) now) L)) := by
  have hk := asksO hx hI h
  obtain ⟨rfl, rfl, rfl, has, rfl, rfl, chk, fits, rfl⟩ := hI
  exact judge_C1 x p true old now til true (decide_eq_true has) hk rfl _ _ _ _ f0 f1 (decide_eq_false hov) hne ⟨rfl, rfl⟩ ⟨rfl, rfl⟩ rfl hs
theorem jD {ca cp : Nat} (inw : Bool) (hx : x.r = ruleO) (hI : IsP p ca cp sa sp pr fl) (h : 0 ≤ now ∧ now ≤ 1000 ∧ old ≤ now) (hov : ¬ til ≤ now) (h2 : 900 ≤ ca) (hne : sa ≠ ca) (h3 : ¬ (da = ca ∧ dp = cp) ∨ inw = false) (hs : St W0 w (x.w1 old eb cap esp ⟨pr, sa, sp, da, dp, false, f0, f1, til⟩ L)) :
    FnC Try.prog 11 [x.ptr, .agg p.cells.toArray, .bool inw, I64 now] w (fun v w' => v = .tuple #[.bool false, I64 0] ∧ St W0 w' (x.w1 now eb cap esp ⟨pr, sa, sp, da, dp, false, f0, f1, til⟩ L)) := by
  have hk := asksO hx hI h
  obtain ⟨rfl, rfl, rfl, has, rfl, rfl, chk, fits, rfl⟩ := hI
  exact judge_D x p inw old now til true (decide_eq_true has) hk (by rw [hx]; exact nomatch_O p h2) rfl _ _ _ _ f0 f1 (decide_eq_false hov) hne ⟨rfl, rfl⟩ h3 hs
end

/-! ### TrackCloses -/
theorem closes_walk (W : World) (n0 n1 : Int) (reset both : Bool) (n4 : Int) :
    FnC Try.prog 4 [I64 n0, I64 n1, .bool reset, .bool both, I64 n4] W (fun v w' => v = .bool true ∧ St W w' []) := by
  have hs := St.start W
  refine FnC.enter Try.func4 rfl Try.ntmps4 rfl fun ρ => ?_
  cases both
  · cases reset
    · refine s_seq ?_
      refine s_reg ?_
      refine l_q (by exact y_as_bool rfl) ?_
      refine l_end ?_
      refine e_then ?_
      refine s_seq ?_
      refine s_reg ?_
      refine l_w (w_call rfl (outward_c hs) rfl (fun _ w h => ?_))
      obtain ⟨b20, rfl, hs⟩ := h
      refine l_w (w_call rfl (new_c ruleO ruleO_fits (by decide) hs) rfl (fun _ w h => ?_))
      obtain ⟨x, rfl, hx, hs⟩ := h
      refine l_q (by exact y_mv_tuple rfl) ?_
      refine l_q (by exact y_extract rfl rfl) ?_
      refine l_q (by exact y_extract rfl rfl) ?_
      refine l_q (by exact y_as_ptr rfl) ?_
      refine l_q (by exact y_as_int rfl) ?_
      refine l_end ?_
      refine e_then ?_
      refine s_seq ?_
      refine s_seq ?_
      refine s_reg ?_
      refine l_w (w_call rfl (fact_c hs) rfl (fun _ w h => ?_))
      obtain ⟨rfl, hs⟩ := h
      refine l_q (by first | exact y_not_t rfl | exact y_not_f rfl | exact y_notd rfl) ?_
      refine l_q (by exact y_mv_bool rfl) ?_
      first | refine l_gskip rfl rfl ?_ | refine l_gskip_u rfl rfl ?_ | refine l_gdo rfl rfl (by exact y_mv_int rfl) ?_
      first | refine l_gskip rfl rfl ?_ | refine l_gskip_u rfl rfl ?_ | refine l_gdo rfl rfl (by first | exact y_neq rfl rfl (decide_eq_true (by omega)) | exact y_neq rfl rfl (decide_eq_false (by omega)) | exact y_neq rfl rfl rfl) ?_
      refine l_q (by first | exact y_pk_bt rfl rfl | exact y_pk_bf rfl rfl) ?_
      refine l_q (by exact y_mv_bool rfl) ?_
      first | refine l_gskip rfl rfl ?_ | refine l_gskip_u rfl rfl ?_ | refine l_gdo rfl rfl (by exact y_mv_ptr rfl) ?_
      first | refine l_gskip rfl rfl ?_ | refine l_gskip_u rfl rfl ?_ | refine l_gdo rfl rfl (by first | exact y_ptr_nn rfl rfl | exact y_ptr_eql rfl rfl rfl) ?_
      refine l_q (by first | exact y_pk_bt rfl rfl | exact y_pk_bf rfl rfl) ?_
      refine l_end ?_
      refine e_then ?_
      refine cond_f rfl ?_
      refine s_skip ?_
      refine e_then ?_
      refine s_seq ?_
      refine s_reg ?_
      refine l_q (by exact y_mv_int rfl) ?_
      refine l_w (w_call rfl (inside_c n0 hs) rfl (fun _ w h => ?_))
      obtain ⟨⟨sa, sp, rfl, i1, i2, i3, i4⟩, hs⟩ := h
      refine l_q (by exact y_mv_int rfl) ?_
      refine l_w (w_call rfl (outer_c n1 hs) rfl (fun _ w h => ?_))
      obtain ⟨⟨da, dp, rfl, o1, o2, o3, o4⟩, hs⟩ := h
      refine l_w (w_alloc (cs := [_, _]) hs rfl (fun b13 w hs hb13 => ?_))
      refine l_w (w_alloc (cs := [_, _]) hs rfl (fun b14 w hs hb14 => ?_))
      refine l_w (w_storeA (vs := [U32 sa, I64 sp]) hs rfl rfl rfl rfl rfl (fun w hs => ?_))
      refine l_w (w_storeA (vs := [U32 da, I64 dp]) hs rfl rfl rfl rfl rfl (fun w hs => ?_))
      have hs : St W w (x.w0 0 [(b14, .cells [U32 da, I64 dp] 41), (b13, .cells [U32 sa, I64 sp] 41)]) := St.sink22 hs
      refine l_end ?_
      refine e_then ?_
      refine s_seq ?_
      refine s_reg ?_
      refine l_q (by exact y_as_int rfl) ?_
      refine l_end ?_
      refine e_then ?_
      refine s_seq ?_
      refine s_reg ?_
      refine l_q (by exact y_mv_ptr rfl) ?_
      refine l_q (by exact y_ldA (vs := [_, _]) hs rfl rfl rfl) ?_
      refine l_q (by exact y_ldA (vs := [_, _]) hs rfl rfl rfl) ?_
      refine l_w (w_call rfl (flagged_c sa sp da dp 2 (by omega) (by omega) (by omega) (by omega) rfl (by decide) hs) rfl (fun _ w h => ?_))
      obtain ⟨p1, rfl, hI1, hs⟩ := h
      refine l_w (w_call rfl (jA (now := 0) false hx hI1 (by decide) (by omega) (.inr rfl) hs) rfl (fun _ w h => ?_))
      obtain ⟨rfl, eb, cap, esp, hs⟩ := h
      refine l_end ?_
      refine e_then ?_
      refine s_seq ?_
      refine s_reg ?_
      refine l_q (by exact y_mv_ptr rfl) ?_
      refine l_q (by exact y_ldA (vs := [_, _]) hs rfl rfl rfl) ?_
      refine l_q (by exact y_ldA (vs := [_, _]) hs rfl rfl rfl) ?_
      refine l_w (w_call rfl (flagged_c sa sp da dp 17 (by omega) (by omega) (by omega) (by omega) rfl (by decide) hs) rfl (fun _ w h => ?_))
      obtain ⟨p2, rfl, hI2, hs⟩ := h
      refine l_w (w_call rfl (jC0 (now := 1) hx hI2 (by decide) (by decide) hs) rfl (fun _ w h => ?_))
      obtain ⟨rfl, hs⟩ := h; have hs : St W w (x.w1 1 eb cap esp ⟨6, sa, sp, da, dp, false, true, false, 501⟩ [(b14, .cells [U32 da, I64 dp] 41), (b13, .cells [U32 sa, I64 sp] 41)]) := hs
      refine l_end ?_
      refine e_then ?_
      refine s_seq ?_
      refine s_seq ?_
      refine s_reg ?_
      refine l_q (by exact y_mv_bool rfl) ?_
      refine l_end ?_
      refine e_then ?_
      refine cond_f rfl ?_
      refine s_skip ?_
      refine e_then ?_
      refine s_seq ?_
      refine s_seq ?_
      refine s_reg ?_
      refine l_q (by exact y_mv_bool rfl) ?_
      refine l_end ?_
      refine e_then ?_
      refine cond_f rfl ?_
      refine s_skip ?_
      refine e_then ?_
      refine s_seq ?_
      refine s_seq ?_
      refine s_reg ?_
      refine l_q (by exact y_mv_bool rfl) ?_
      refine l_q (by first | exact y_not_t rfl | exact y_not_f rfl | exact y_notd rfl) ?_
      refine l_q (by exact y_mv_bool rfl) ?_
      first | refine l_gskip rfl rfl ?_ | refine l_gskip_u rfl rfl ?_ | refine l_gdo rfl rfl (by exact y_mv_bool rfl) ?_
      first | refine l_gskip rfl rfl ?_ | refine l_gskip_u rfl rfl ?_ | refine l_gdo rfl rfl (by first | exact y_not_t rfl | exact y_not_f rfl | exact y_notd rfl) ?_
      refine l_q (by first | exact y_pk_bt rfl rfl | exact y_pk_bf rfl rfl) ?_
      refine l_end ?_
      refine e_then ?_
      refine cond_t rfl ?_
      refine s_reg ?_
      refine l_q (by exact y_mv_ptr rfl) ?_
      refine l_q (by exact y_ldA (vs := [_, _]) hs rfl rfl rfl) ?_
      refine l_q (by exact y_ldA (vs := [_, _]) hs rfl rfl rfl) ?_
      refine l_w (w_call rfl (flagged_c da dp sa sp 16 (by omega) (by omega) (by omega) (by omega) rfl (by decide) hs) rfl (fun _ w h => ?_))
      obtain ⟨p5, rfl, hI5, hs⟩ := h
      refine l_w (w_call rfl (jC1 (now := 2) hx hI5 (by decide) (by decide) (by omega) hs) rfl (fun _ w h => ?_))
      obtain ⟨rfl, hs⟩ := h
      refine l_end ?_
      refine e_then ?_
      refine s_seq ?_
      refine s_reg ?_
      refine l_q (by exact y_mv_ptr rfl) ?_
      refine l_q (by exact y_mv_int rfl) ?_
      refine l_q (by exact y_mv_int rfl) ?_
      refine l_w (w_call rfl (rest_c n4 500 (by decide) (by decide) w) rfl (fun _ w h => ?_))
      obtain ⟨⟨r, rfl, hr⟩, rfl⟩ := h
      refine l_q (by exact y_toInt (b := ((2 + r : Nat) : Int)) (y_addn rfl rfl (by omega)) (by omega)) ?_
      refine l_w (w_call rfl (many_1 x 2 ((2 + r : Nat) : Int) _ (decide_eq_false (show ¬ ((502 : Int) ≤ _) by omega)) (by omega) (by omega) hs) rfl (fun _ w h => ?_))
      obtain ⟨rfl, hs⟩ := h
      refine l_q (by exact y_mv_tuple rfl) ?_
      refine l_q (by exact y_extract rfl rfl) ?_
      refine l_q (by exact y_extract rfl rfl) ?_
      refine l_q (by exact y_as_int rfl) ?_
      refine l_q (by exact y_as_int rfl) ?_
      refine l_end ?_
      refine e_then ?_
      refine s_seq ?_
      refine s_reg ?_
      refine l_q (by exact y_mv_ptr rfl) ?_
      refine l_q (by exact y_mv_int rfl) ?_
      refine l_q (by first | exact y_addn rfl rfl (by omega) | exact y_add rfl rfl rfl) ?_
      refine l_w (w_call rfl (many_2 x ((2 + r : Nat) : Int) 502 _ rfl (by decide) (by omega) hs) rfl (fun _ w h => ?_))
      obtain ⟨rfl, hs⟩ := h
      refine l_q (by exact y_mv_tuple rfl) ?_
      refine l_q (by exact y_extract rfl rfl) ?_
      refine l_q (by exact y_extract rfl rfl) ?_
      refine l_q (by exact y_as_int rfl) ?_
      refine l_q (by exact y_as_int rfl) ?_
      refine l_end ?_
      refine e_then ?_
      refine s_seq ?_
      refine s_reg ?_
      refine l_q (by exact y_mv_int rfl) ?_
      refine l_q (by first | exact y_eql rfl rfl (decide_eq_true (by omega)) | exact y_eql rfl rfl (decide_eq_false (by omega)) | exact y_eql rfl rfl rfl) ?_
      refine l_q (by exact y_mv_bool rfl) ?_
      first | refine l_gskip rfl rfl ?_ | refine l_gskip_u rfl rfl ?_ | refine l_gdo rfl rfl (by exact y_mv_int rfl) ?_
      first | refine l_gskip rfl rfl ?_ | refine l_gskip_u rfl rfl ?_ | refine l_gdo rfl rfl (by first | exact y_eql rfl rfl (decide_eq_true (by omega)) | exact y_eql rfl rfl (decide_eq_false (by omega)) | exact y_eql rfl rfl rfl) ?_
      refine l_q (by first | exact y_pk_bt rfl rfl | exact y_pk_bf rfl rfl) ?_
      refine l_q (by exact y_mv_bool rfl) ?_
      first | refine l_gskip rfl rfl ?_ | refine l_gskip_u rfl rfl ?_ | refine l_gdo rfl rfl (by exact y_mv_int rfl) ?_
      first | refine l_gskip rfl rfl ?_ | refine l_gskip_u rfl rfl ?_ | refine l_gdo rfl rfl (by first | exact y_eql rfl rfl (decide_eq_true (by omega)) | exact y_eql rfl rfl (decide_eq_false (by omega)) | exact y_eql rfl rfl rfl) ?_
      refine l_q (by first | exact y_pk_bt rfl rfl | exact y_pk_bf rfl rfl) ?_
      refine l_q (by exact y_mv_bool rfl) ?_
      first | refine l_gskip rfl rfl ?_ | refine l_gskip_u rfl rfl ?_ | refine l_gdo rfl rfl (by exact y_mv_int rfl) ?_
      first | refine l_gskip rfl rfl ?_ | refine l_gskip_u rfl rfl ?_ | refine l_gdo rfl rfl (by first | exact y_eql rfl rfl (decide_eq_true (by omega)) | exact y_eql rfl rfl (decide_eq_false (by omega)) | exact y_eql rfl rfl rfl) ?_
      refine l_q (by first | exact y_pk_bt rfl rfl | exact y_pk_bf rfl rfl) ?_
      refine l_q (by exact y_as_bool rfl) ?_
      refine l_end ?_
      refine e_then ?_
      refine s_ret ?_
      exact ret_ [.bool _] rfl ⟨rfl, trivial⟩ ⟨rfl, hs.nil⟩
    · refine s_seq ?_
      refine s_reg ?_
      refine l_q (by exact y_as_bool rfl) ?_
      refine l_end ?_
      refine e_then ?_
      refine s_seq ?_
      refine s_reg ?_
      refine l_w (w_call rfl (outward_c hs) rfl (fun _ w h => ?_))
      obtain ⟨b20, rfl, hs⟩ := h
      refine l_w (w_call rfl (new_c ruleO ruleO_fits (by decide) hs) rfl (fun _ w h => ?_))
      obtain ⟨x, rfl, hx, hs⟩ := h
      refine l_q (by exact y_mv_tuple rfl) ?_
      refine l_q (by exact y_extract rfl rfl) ?_
      refine l_q (by exact y_extract rfl rfl) ?_
      refine l_q (by exact y_as_ptr rfl) ?_
      refine l_q (by exact y_as_int rfl) ?_
      refine l_end ?_
      refine e_then ?_
      refine s_seq ?_
      refine s_seq ?_
      refine s_reg ?_
      refine l_w (w_call rfl (fact_c hs) rfl (fun _ w h => ?_))
      obtain ⟨rfl, hs⟩ := h
      refine l_q (by first | exact y_not_t rfl | exact y_not_f rfl | exact y_notd rfl) ?_
      refine l_q (by exact y_mv_bool rfl) ?_
      first | refine l_gskip rfl rfl ?_ | refine l_gskip_u rfl rfl ?_ | refine l_gdo rfl rfl (by exact y_mv_int rfl) ?_
      first | refine l_gskip rfl rfl ?_ | refine l_gskip_u rfl rfl ?_ | refine l_gdo rfl rfl (by first | exact y_neq rfl rfl (decide_eq_true (by omega)) | exact y_neq rfl rfl (decide_eq_false (by omega)) | exact y_neq rfl rfl rfl) ?_
      refine l_q (by first | exact y_pk_bt rfl rfl | exact y_pk_bf rfl rfl) ?_
      refine l_q (by exact y_mv_bool rfl) ?_
      first | refine l_gskip rfl rfl ?_ | refine l_gskip_u rfl rfl ?_ | refine l_gdo rfl rfl (by exact y_mv_ptr rfl) ?_
      first | refine l_gskip rfl rfl ?_ | refine l_gskip_u rfl rfl ?_ | refine l_gdo rfl rfl (by first | exact y_ptr_nn rfl rfl | exact y_ptr_eql rfl rfl rfl) ?_
      refine l_q (by first | exact y_pk_bt rfl rfl | exact y_pk_bf rfl rfl) ?_
      refine l_end ?_
      refine e_then ?_
      refine cond_f rfl ?_
      refine s_skip ?_
      refine e_then ?_
      refine s_seq ?_
      refine s_reg ?_
      refine l_q (by exact y_mv_int rfl) ?_
      refine l_w (w_call rfl (inside_c n0 hs) rfl (fun _ w h => ?_))
      obtain ⟨⟨sa, sp, rfl, i1, i2, i3, i4⟩, hs⟩ := h
      refine l_q (by exact y_mv_int rfl) ?_
      refine l_w (w_call rfl (outer_c n1 hs) rfl (fun _ w h => ?_))
      obtain ⟨⟨da, dp, rfl, o1, o2, o3, o4⟩, hs⟩ := h
      refine l_w (w_alloc (cs := [_, _]) hs rfl (fun b13 w hs hb13 => ?_))
      refine l_w (w_alloc (cs := [_, _]) hs rfl (fun b14 w hs hb14 => ?_))
      refine l_w (w_storeA (vs := [U32 sa, I64 sp]) hs rfl rfl rfl rfl rfl (fun w hs => ?_))
      refine l_w (w_storeA (vs := [U32 da, I64 dp]) hs rfl rfl rfl rfl rfl (fun w hs => ?_))
      have hs : St W w (x.w0 0 [(b14, .cells [U32 da, I64 dp] 41), (b13, .cells [U32 sa, I64 sp] 41)]) := St.sink22 hs
      refine l_end ?_
      refine e_then ?_
      refine s_seq ?_
      refine s_reg ?_
      refine l_q (by exact y_as_int rfl) ?_
      refine l_end ?_
      refine e_then ?_
      refine s_seq ?_
      refine s_reg ?_
      refine l_q (by exact y_mv_ptr rfl) ?_
      refine l_q (by exact y_ldA (vs := [_, _]) hs rfl rfl rfl) ?_
      refine l_q (by exact y_ldA (vs := [_, _]) hs rfl rfl rfl) ?_
      refine l_w (w_call rfl (flagged_c sa sp da dp 2 (by omega) (by omega) (by omega) (by omega) rfl (by decide) hs) rfl (fun _ w h => ?_))
      obtain ⟨p1, rfl, hI1, hs⟩ := h
      refine l_w (w_call rfl (jA (now := 0) false hx hI1 (by decide) (by omega) (.inr rfl) hs) rfl (fun _ w h => ?_))
      obtain ⟨rfl, eb, cap, esp, hs⟩ := h
      refine l_end ?_
      refine e_then ?_
      refine s_seq ?_
      refine s_reg ?_
      refine l_q (by exact y_mv_ptr rfl) ?_
      refine l_q (by exact y_ldA (vs := [_, _]) hs rfl rfl rfl) ?_
      refine l_q (by exact y_ldA (vs := [_, _]) hs rfl rfl rfl) ?_
      refine l_w (w_call rfl (flagged_c sa sp da dp 17 (by omega) (by omega) (by omega) (by omega) rfl (by decide) hs) rfl (fun _ w h => ?_))
      obtain ⟨p2, rfl, hI2, hs⟩ := h
      refine l_w (w_call rfl (jC0 (now := 1) hx hI2 (by decide) (by decide) hs) rfl (fun _ w h => ?_))
      obtain ⟨rfl, hs⟩ := h; have hs : St W w (x.w1 1 eb cap esp ⟨6, sa, sp, da, dp, false, true, false, 501⟩ [(b14, .cells [U32 da, I64 dp] 41), (b13, .cells [U32 sa, I64 sp] 41)]) := hs
      refine l_end ?_
      refine e_then ?_
      refine s_seq ?_
      refine s_seq ?_
      refine s_reg ?_
      refine l_q (by exact y_mv_bool rfl) ?_
      refine l_end ?_
      refine e_then ?_
      refine cond_f rfl ?_
      refine s_skip ?_
      refine e_then ?_
      refine s_seq ?_
      refine s_seq ?_
      refine s_reg ?_
      refine l_q (by exact y_mv_bool rfl) ?_
      refine l_end ?_
      refine e_then ?_
      refine cond_t rfl ?_
      refine s_seq ?_
      refine s_reg ?_
      refine l_q (by exact y_mv_ptr rfl) ?_
      refine l_q (by exact y_ldA (vs := [_, _]) hs rfl rfl rfl) ?_
      refine l_q (by exact y_ldA (vs := [_, _]) hs rfl rfl rfl) ?_
      refine l_w (w_call rfl (flagged_c sa sp da dp 4 (by omega) (by omega) (by omega) (by omega) rfl (by decide) hs) rfl (fun _ w h => ?_))
      obtain ⟨p4, rfl, hI4, hs⟩ := h
      refine l_w (w_call rfl (jC0 (now := 2) hx hI4 (by decide) (by decide) hs) rfl (fun _ w h => ?_))
      obtain ⟨rfl, hs⟩ := h
      refine l_end ?_
      refine e_then ?_
      refine s_reg ?_
      refine l_q (by exact y_as_int rfl) ?_
      refine l_end ?_
      refine e_then ?_
      refine s_seq ?_
      refine s_seq ?_
      refine s_reg ?_
      refine l_q (by exact y_mv_bool rfl) ?_
      refine l_q (by first | exact y_not_t rfl | exact y_not_f rfl | exact y_notd rfl) ?_
      refine l_q (by exact y_mv_bool rfl) ?_
      first | refine l_gskip rfl rfl ?_ | refine l_gskip_u rfl rfl ?_ | refine l_gdo rfl rfl (by exact y_mv_bool rfl) ?_
      first | refine l_gskip rfl rfl ?_ | refine l_gskip_u rfl rfl ?_ | refine l_gdo rfl rfl (by first | exact y_not_t rfl | exact y_not_f rfl | exact y_notd rfl) ?_
      refine l_q (by first | exact y_pk_bt rfl rfl | exact y_pk_bf rfl rfl) ?_
      refine l_end ?_
      refine e_then ?_
      refine cond_f rfl ?_
      refine s_skip ?_
      refine e_then ?_
      refine s_seq ?_
      refine s_reg ?_
      refine l_q (by exact y_mv_ptr rfl) ?_
      refine l_q (by exact y_mv_int rfl) ?_
      refine l_q (by exact y_mv_int rfl) ?_
      refine l_w (w_call rfl (rest_c n4 50 (by decide) (by decide) w) rfl (fun _ w h => ?_))
      obtain ⟨⟨r, rfl, hr⟩, rfl⟩ := h
      refine l_q (by exact y_toInt (b := ((2 + r : Nat) : Int)) (y_addn rfl rfl (by omega)) (by omega)) ?_
      refine l_w (w_call rfl (many_1 x 2 ((2 + r : Nat) : Int) _ (decide_eq_false (show ¬ ((52 : Int) ≤ _) by omega)) (by omega) (by omega) hs) rfl (fun _ w h => ?_))
      obtain ⟨rfl, hs⟩ := h
      refine l_q (by exact y_mv_tuple rfl) ?_
      refine l_q (by exact y_extract rfl rfl) ?_
      refine l_q (by exact y_extract rfl rfl) ?_
      refine l_q (by exact y_as_int rfl) ?_
      refine l_q (by exact y_as_int rfl) ?_
      refine l_end ?_
      refine e_then ?_
      refine s_seq ?_
      refine s_reg ?_
      refine l_q (by exact y_mv_ptr rfl) ?_
      refine l_q (by exact y_mv_int rfl) ?_
      refine l_q (by first | exact y_addn rfl rfl (by omega) | exact y_add rfl rfl rfl) ?_
      refine l_w (w_call rfl (many_2 x ((2 + r : Nat) : Int) 52 _ rfl (by decide) (by omega) hs) rfl (fun _ w h => ?_))
      obtain ⟨rfl, hs⟩ := h
      refine l_q (by exact y_mv_tuple rfl) ?_
      refine l_q (by exact y_extract rfl rfl) ?_
      refine l_q (by exact y_extract rfl rfl) ?_
      refine l_q (by exact y_as_int rfl) ?_
      refine l_q (by exact y_as_int rfl) ?_
      refine l_end ?_
      refine e_then ?_
      refine s_seq ?_
      refine s_reg ?_
      refine l_q (by exact y_mv_int rfl) ?_
      refine l_q (by first | exact y_eql rfl rfl (decide_eq_true (by omega)) | exact y_eql rfl rfl (decide_eq_false (by omega)) | exact y_eql rfl rfl rfl) ?_
      refine l_q (by exact y_mv_bool rfl) ?_
      first | refine l_gskip rfl rfl ?_ | refine l_gskip_u rfl rfl ?_ | refine l_gdo rfl rfl (by exact y_mv_int rfl) ?_
      first | refine l_gskip rfl rfl ?_ | refine l_gskip_u rfl rfl ?_ | refine l_gdo rfl rfl (by first | exact y_eql rfl rfl (decide_eq_true (by omega)) | exact y_eql rfl rfl (decide_eq_false (by omega)) | exact y_eql rfl rfl rfl) ?_
      refine l_q (by first | exact y_pk_bt rfl rfl | exact y_pk_bf rfl rfl) ?_
      refine l_q (by exact y_mv_bool rfl) ?_
      first | refine l_gskip rfl rfl ?_ | refine l_gskip_u rfl rfl ?_ | refine l_gdo rfl rfl (by exact y_mv_int rfl) ?_
      first | refine l_gskip rfl rfl ?_ | refine l_gskip_u rfl rfl ?_ | refine l_gdo rfl rfl (by first | exact y_eql rfl rfl (decide_eq_true (by omega)) | exact y_eql rfl rfl (decide_eq_false (by omega)) | exact y_eql rfl rfl rfl) ?_
      refine l_q (by first | exact y_pk_bt rfl rfl | exact y_pk_bf rfl rfl) ?_
      refine l_q (by exact y_mv_bool rfl) ?_
      first | refine l_gskip rfl rfl ?_ | refine l_gskip_u rfl rfl ?_ | refine l_gdo rfl rfl (by exact y_mv_int rfl) ?_
      first | refine l_gskip rfl rfl ?_ | refine l_gskip_u rfl rfl ?_ | refine l_gdo rfl rfl (by first | exact y_eql rfl rfl (decide_eq_true (by omega)) | exact y_eql rfl rfl (decide_eq_false (by omega)) | exact y_eql rfl rfl rfl) ?_
      refine l_q (by first | exact y_pk_bt rfl rfl | exact y_pk_bf rfl rfl) ?_
      refine l_q (by exact y_as_bool rfl) ?_
      refine l_end ?_
      refine e_then ?_
      refine s_ret ?_
      exact ret_ [.bool _] rfl ⟨rfl, trivial⟩ ⟨rfl, hs.nil⟩
  · cases reset
    · refine s_seq ?_
      refine s_reg ?_
      refine l_q (by exact y_as_bool rfl) ?_
      refine l_end ?_
      refine e_then ?_
      refine s_seq ?_
      refine s_reg ?_
      refine l_w (w_call rfl (outward_c hs) rfl (fun _ w h => ?_))
      obtain ⟨b20, rfl, hs⟩ := h
      refine l_w (w_call rfl (new_c ruleO ruleO_fits (by decide) hs) rfl (fun _ w h => ?_))
      obtain ⟨x, rfl, hx, hs⟩ := h
      refine l_q (by exact y_mv_tuple rfl) ?_
      refine l_q (by exact y_extract rfl rfl) ?_
      refine l_q (by exact y_extract rfl rfl) ?_
      refine l_q (by exact y_as_ptr rfl) ?_
      refine l_q (by exact y_as_int rfl) ?_
      refine l_end ?_
      refine e_then ?_
      refine s_seq ?_
      refine s_seq ?_
      refine s_reg ?_
      refine l_w (w_call rfl (fact_c hs) rfl (fun _ w h => ?_))
      obtain ⟨rfl, hs⟩ := h
      refine l_q (by first | exact y_not_t rfl | exact y_not_f rfl | exact y_notd rfl) ?_
      refine l_q (by exact y_mv_bool rfl) ?_
      first | refine l_gskip rfl rfl ?_ | refine l_gskip_u rfl rfl ?_ | refine l_gdo rfl rfl (by exact y_mv_int rfl) ?_
      first | refine l_gskip rfl rfl ?_ | refine l_gskip_u rfl rfl ?_ | refine l_gdo rfl rfl (by first | exact y_neq rfl rfl (decide_eq_true (by omega)) | exact y_neq rfl rfl (decide_eq_false (by omega)) | exact y_neq rfl rfl rfl) ?_
      refine l_q (by first | exact y_pk_bt rfl rfl | exact y_pk_bf rfl rfl) ?_
      refine l_q (by exact y_mv_bool rfl) ?_
      first | refine l_gskip rfl rfl ?_ | refine l_gskip_u rfl rfl ?_ | refine l_gdo rfl rfl (by exact y_mv_ptr rfl) ?_
      first | refine l_gskip rfl rfl ?_ | refine l_gskip_u rfl rfl ?_ | refine l_gdo rfl rfl (by first | exact y_ptr_nn rfl rfl | exact y_ptr_eql rfl rfl rfl) ?_
      refine l_q (by first | exact y_pk_bt rfl rfl | exact y_pk_bf rfl rfl) ?_
      refine l_end ?_
      refine e_then ?_
      refine cond_f rfl ?_
      refine s_skip ?_
      refine e_then ?_
      refine s_seq ?_
      refine s_reg ?_
      refine l_q (by exact y_mv_int rfl) ?_
      refine l_w (w_call rfl (inside_c n0 hs) rfl (fun _ w h => ?_))
      obtain ⟨⟨sa, sp, rfl, i1, i2, i3, i4⟩, hs⟩ := h
      refine l_q (by exact y_mv_int rfl) ?_
      refine l_w (w_call rfl (outer_c n1 hs) rfl (fun _ w h => ?_))
      obtain ⟨⟨da, dp, rfl, o1, o2, o3, o4⟩, hs⟩ := h
      refine l_w (w_alloc (cs := [_, _]) hs rfl (fun b13 w hs hb13 => ?_))
      refine l_w (w_alloc (cs := [_, _]) hs rfl (fun b14 w hs hb14 => ?_))
      refine l_w (w_storeA (vs := [U32 sa, I64 sp]) hs rfl rfl rfl rfl rfl (fun w hs => ?_))
      refine l_w (w_storeA (vs := [U32 da, I64 dp]) hs rfl rfl rfl rfl rfl (fun w hs => ?_))
      have hs : St W w (x.w0 0 [(b14, .cells [U32 da, I64 dp] 41), (b13, .cells [U32 sa, I64 sp] 41)]) := St.sink22 hs
      refine l_end ?_
      refine e_then ?_
      refine s_seq ?_
      refine s_reg ?_
      refine l_q (by exact y_as_int rfl) ?_
      refine l_end ?_
      refine e_then ?_
      refine s_seq ?_
      refine s_reg ?_
      refine l_q (by exact y_mv_ptr rfl) ?_
      refine l_q (by exact y_ldA (vs := [_, _]) hs rfl rfl rfl) ?_
      refine l_q (by exact y_ldA (vs := [_, _]) hs rfl rfl rfl) ?_
      refine l_w (w_call rfl (flagged_c sa sp da dp 2 (by omega) (by omega) (by omega) (by omega) rfl (by decide) hs) rfl (fun _ w h => ?_))
      obtain ⟨p1, rfl, hI1, hs⟩ := h
      refine l_w (w_call rfl (jA (now := 0) false hx hI1 (by decide) (by omega) (.inr rfl) hs) rfl (fun _ w h => ?_))
      obtain ⟨rfl, eb, cap, esp, hs⟩ := h
      refine l_end ?_
      refine e_then ?_
      refine s_seq ?_
      refine s_reg ?_
      refine l_q (by exact y_mv_ptr rfl) ?_
      refine l_q (by exact y_ldA (vs := [_, _]) hs rfl rfl rfl) ?_
      refine l_q (by exact y_ldA (vs := [_, _]) hs rfl rfl rfl) ?_
      refine l_w (w_call rfl (flagged_c sa sp da dp 17 (by omega) (by omega) (by omega) (by omega) rfl (by decide) hs) rfl (fun _ w h => ?_))
      obtain ⟨p2, rfl, hI2, hs⟩ := h
      refine l_w (w_call rfl (jC0 (now := 1) hx hI2 (by decide) (by decide) hs) rfl (fun _ w h => ?_))
      obtain ⟨rfl, hs⟩ := h; have hs : St W w (x.w1 1 eb cap esp ⟨6, sa, sp, da, dp, false, true, false, 501⟩ [(b14, .cells [U32 da, I64 dp] 41), (b13, .cells [U32 sa, I64 sp] 41)]) := hs
      refine l_end ?_
      refine e_then ?_
      refine s_seq ?_
      refine s_seq ?_
      refine s_reg ?_
      refine l_q (by exact y_mv_bool rfl) ?_
      refine l_end ?_
      refine e_then ?_
      refine cond_t rfl ?_
      refine s_seq ?_
      refine s_reg ?_
      refine l_q (by exact y_mv_ptr rfl) ?_
      refine l_q (by exact y_ldA (vs := [_, _]) hs rfl rfl rfl) ?_
      refine l_q (by exact y_ldA (vs := [_, _]) hs rfl rfl rfl) ?_
      refine l_w (w_call rfl (flagged_c da dp sa sp 17 (by omega) (by omega) (by omega) (by omega) rfl (by decide) hs) rfl (fun _ w h => ?_))
      obtain ⟨p3, rfl, hI3, hs⟩ := h
      refine l_w (w_call rfl (jC1 (now := 2) hx hI3 (by decide) (by decide) (by omega) hs) rfl (fun _ w h => ?_))
      obtain ⟨rfl, hs⟩ := h; have hs : St W w (x.w1 2 eb cap esp ⟨6, sa, sp, da, dp, false, true, true, 52⟩ [(b14, .cells [U32 da, I64 dp] 41), (b13, .cells [U32 sa, I64 sp] 41)]) := hs
      refine l_end ?_
      refine e_then ?_
      refine s_reg ?_
      refine l_q (by exact y_as_int rfl) ?_
      refine l_end ?_
      refine e_then ?_
      refine s_seq ?_
      refine s_seq ?_
      refine s_reg ?_
      refine l_q (by exact y_mv_bool rfl) ?_
      refine l_end ?_
      refine e_then ?_
      refine cond_f rfl ?_
      refine s_skip ?_
      refine e_then ?_
      refine s_seq ?_
      refine s_seq ?_
      refine s_reg ?_
      refine l_q (by exact y_mv_bool rfl) ?_
      refine l_q (by first | exact y_not_t rfl | exact y_not_f rfl | exact y_notd rfl) ?_
      refine l_q (by exact y_mv_bool rfl) ?_
      first | refine l_gskip rfl rfl ?_ | refine l_gskip_u rfl rfl ?_ | refine l_gdo rfl rfl (by exact y_mv_bool rfl) ?_
      first | refine l_gskip rfl rfl ?_ | refine l_gskip_u rfl rfl ?_ | refine l_gdo rfl rfl (by first | exact y_not_t rfl | exact y_not_f rfl | exact y_notd rfl) ?_
      refine l_q (by first | exact y_pk_bt rfl rfl | exact y_pk_bf rfl rfl) ?_
      refine l_end ?_
      refine e_then ?_
      refine cond_f rfl ?_
      refine s_skip ?_
      refine e_then ?_
      refine s_seq ?_
      refine s_reg ?_
      refine l_q (by exact y_mv_ptr rfl) ?_
      refine l_q (by exact y_mv_int rfl) ?_
      refine l_q (by exact y_mv_int rfl) ?_
      refine l_w (w_call rfl (rest_c n4 50 (by decide) (by decide) w) rfl (fun _ w h => ?_))
      obtain ⟨⟨r, rfl, hr⟩, rfl⟩ := h
      refine l_q (by exact y_toInt (b := ((2 + r : Nat) : Int)) (y_addn rfl rfl (by omega)) (by omega)) ?_
      refine l_w (w_call rfl (many_1 x 2 ((2 + r : Nat) : Int) _ (decide_eq_false (show ¬ ((52 : Int) ≤ _) by omega)) (by omega) (by omega) hs) rfl (fun _ w h => ?_))
      obtain ⟨rfl, hs⟩ := h
      refine l_q (by exact y_mv_tuple rfl) ?_
      refine l_q (by exact y_extract rfl rfl) ?_
      refine l_q (by exact y_extract rfl rfl) ?_
      refine l_q (by exact y_as_int rfl) ?_
      refine l_q (by exact y_as_int rfl) ?_
      refine l_end ?_
      refine e_then ?_
      refine s_seq ?_
      refine s_reg ?_
      refine l_q (by exact y_mv_ptr rfl) ?_
      refine l_q (by exact y_mv_int rfl) ?_
      refine l_q (by first | exact y_addn rfl rfl (by omega) | exact y_add rfl rfl rfl) ?_
      refine l_w (w_call rfl (many_2 x ((2 + r : Nat) : Int) 52 _ rfl (by decide) (by omega) hs) rfl (fun _ w h => ?_))
      obtain ⟨rfl, hs⟩ := h
      refine l_q (by exact y_mv_tuple rfl) ?_
      refine l_q (by exact y_extract rfl rfl) ?_
      refine l_q (by exact y_extract rfl rfl) ?_
      refine l_q (by exact y_as_int rfl) ?_
      refine l_q (by exact y_as_int rfl) ?_
      refine l_end ?_
      refine e_then ?_
      refine s_seq ?_
      refine s_reg ?_
      refine l_q (by exact y_mv_int rfl) ?_
      refine l_q (by first | exact y_eql rfl rfl (decide_eq_true (by omega)) | exact y_eql rfl rfl (decide_eq_false (by omega)) | exact y_eql rfl rfl rfl) ?_
      refine l_q (by exact y_mv_bool rfl) ?_
      first | refine l_gskip rfl rfl ?_ | refine l_gskip_u rfl rfl ?_ | refine l_gdo rfl rfl (by exact y_mv_int rfl) ?_
      first | refine l_gskip rfl rfl ?_ | refine l_gskip_u rfl rfl ?_ | refine l_gdo rfl rfl (by first | exact y_eql rfl rfl (decide_eq_true (by omega)) | exact y_eql rfl rfl (decide_eq_false (by omega)) | exact y_eql rfl rfl rfl) ?_
      refine l_q (by first | exact y_pk_bt rfl rfl | exact y_pk_bf rfl rfl) ?_
      refine l_q (by exact y_mv_bool rfl) ?_
      first | refine l_gskip rfl rfl ?_ | refine l_gskip_u rfl rfl ?_ | refine l_gdo rfl rfl (by exact y_mv_int rfl) ?_
      first | refine l_gskip rfl rfl ?_ | refine l_gskip_u rfl rfl ?_ | refine l_gdo rfl rfl (by first | exact y_eql rfl rfl (decide_eq_true (by omega)) | exact y_eql rfl rfl (decide_eq_false (by omega)) | exact y_eql rfl rfl rfl) ?_
      refine l_q (by first | exact y_pk_bt rfl rfl | exact y_pk_bf rfl rfl) ?_
      refine l_q (by exact y_mv_bool rfl) ?_
      first | refine l_gskip rfl rfl ?_ | refine l_gskip_u rfl rfl ?_ | refine l_gdo rfl rfl (by exact y_mv_int rfl) ?_
      first | refine l_gskip rfl rfl ?_ | refine l_gskip_u rfl rfl ?_ | refine l_gdo rfl rfl (by first | exact y_eql rfl rfl (decide_eq_true (by omega)) | exact y_eql rfl rfl (decide_eq_false (by omega)) | exact y_eql rfl rfl rfl) ?_
      refine l_q (by first | exact y_pk_bt rfl rfl | exact y_pk_bf rfl rfl) ?_
      refine l_q (by exact y_as_bool rfl) ?_
      refine l_end ?_
      refine e_then ?_
      refine s_ret ?_
      exact ret_ [.bool _] rfl ⟨rfl, trivial⟩ ⟨rfl, hs.nil⟩
    · refine s_seq ?_
      refine s_reg ?_
      refine l_q (by exact y_as_bool rfl) ?_
      refine l_end ?_
      refine e_then ?_
      refine s_seq ?_
      refine s_reg ?_
      refine l_w (w_call rfl (outward_c hs) rfl (fun _ w h => ?_))
      obtain ⟨b20, rfl, hs⟩ := h
      refine l_w (w_call rfl (new_c ruleO ruleO_fits (by decide) hs) rfl (fun _ w h => ?_))
      obtain ⟨x, rfl, hx, hs⟩ := h
      refine l_q (by exact y_mv_tuple rfl) ?_
      refine l_q (by exact y_extract rfl rfl) ?_
      refine l_q (by exact y_extract rfl rfl) ?_
      refine l_q (by exact y_as_ptr rfl) ?_
      refine l_q (by exact y_as_int rfl) ?_
      refine l_end ?_
      refine e_then ?_
      refine s_seq ?_
      refine s_seq ?_
      refine s_reg ?_
      refine l_w (w_call rfl (fact_c hs) rfl (fun _ w h => ?_))
      obtain ⟨rfl, hs⟩ := h
      refine l_q (by first | exact y_not_t rfl | exact y_not_f rfl | exact y_notd rfl) ?_
      refine l_q (by exact y_mv_bool rfl) ?_
      first | refine l_gskip rfl rfl ?_ | refine l_gskip_u rfl rfl ?_ | refine l_gdo rfl rfl (by exact y_mv_int rfl) ?_
      first | refine l_gskip rfl rfl ?_ | refine l_gskip_u rfl rfl ?_ | refine l_gdo rfl rfl (by first | exact y_neq rfl rfl (decide_eq_true (by omega)) | exact y_neq rfl rfl (decide_eq_false (by omega)) | exact y_neq rfl rfl rfl) ?_
      refine l_q (by first | exact y_pk_bt rfl rfl | exact y_pk_bf rfl rfl) ?_
      refine l_q (by exact y_mv_bool rfl) ?_
      first | refine l_gskip rfl rfl ?_ | refine l_gskip_u rfl rfl ?_ | refine l_gdo rfl rfl (by exact y_mv_ptr rfl) ?_
      first | refine l_gskip rfl rfl ?_ | refine l_gskip_u rfl rfl ?_ | refine l_gdo rfl rfl (by first | exact y_ptr_nn rfl rfl | exact y_ptr_eql rfl rfl rfl) ?_
      refine l_q (by first | exact y_pk_bt rfl rfl | exact y_pk_bf rfl rfl) ?_
      refine l_end ?_
      refine e_then ?_
      refine cond_f rfl ?_
      refine s_skip ?_
      refine e_then ?_
      refine s_seq ?_
      refine s_reg ?_
      refine l_q (by exact y_mv_int rfl) ?_
      refine l_w (w_call rfl (inside_c n0 hs) rfl (fun _ w h => ?_))
      obtain ⟨⟨sa, sp, rfl, i1, i2, i3, i4⟩, hs⟩ := h
      refine l_q (by exact y_mv_int rfl) ?_
      refine l_w (w_call rfl (outer_c n1 hs) rfl (fun _ w h => ?_))
      obtain ⟨⟨da, dp, rfl, o1, o2, o3, o4⟩, hs⟩ := h
      refine l_w (w_alloc (cs := [_, _]) hs rfl (fun b13 w hs hb13 => ?_))
      refine l_w (w_alloc (cs := [_, _]) hs rfl (fun b14 w hs hb14 => ?_))
      refine l_w (w_storeA (vs := [U32 sa, I64 sp]) hs rfl rfl rfl rfl rfl (fun w hs => ?_))
      refine l_w (w_storeA (vs := [U32 da, I64 dp]) hs rfl rfl rfl rfl rfl (fun w hs => ?_))
      have hs : St W w (x.w0 0 [(b14, .cells [U32 da, I64 dp] 41), (b13, .cells [U32 sa, I64 sp] 41)]) := St.sink22 hs
      refine l_end ?_
      refine e_then ?_
      refine s_seq ?_
      refine s_reg ?_
      refine l_q (by exact y_as_int rfl) ?_
      refine l_end ?_
      refine e_then ?_
      refine s_seq ?_
      refine s_reg ?_
      refine l_q (by exact y_mv_ptr rfl) ?_
      refine l_q (by exact y_ldA (vs := [_, _]) hs rfl rfl rfl) ?_
      refine l_q (by exact y_ldA (vs := [_, _]) hs rfl rfl rfl) ?_
      refine l_w (w_call rfl (flagged_c sa sp da dp 2 (by omega) (by omega) (by omega) (by omega) rfl (by decide) hs) rfl (fun _ w h => ?_))
      obtain ⟨p1, rfl, hI1, hs⟩ := h
      refine l_w (w_call rfl (jA (now := 0) false hx hI1 (by decide) (by omega) (.inr rfl) hs) rfl (fun _ w h => ?_))
      obtain ⟨rfl, eb, cap, esp, hs⟩ := h
      refine l_end ?_
      refine e_then ?_
      refine s_seq ?_
      refine s_reg ?_
      refine l_q (by exact y_mv_ptr rfl) ?_
      refine l_q (by exact y_ldA (vs := [_, _]) hs rfl rfl rfl) ?_
      refine l_q (by exact y_ldA (vs := [_, _]) hs rfl rfl rfl) ?_
      refine l_w (w_call rfl (flagged_c sa sp da dp 17 (by omega) (by omega) (by omega) (by omega) rfl (by decide) hs) rfl (fun _ w h => ?_))
      obtain ⟨p2, rfl, hI2, hs⟩ := h
      refine l_w (w_call rfl (jC0 (now := 1) hx hI2 (by decide) (by decide) hs) rfl (fun _ w h => ?_))
      obtain ⟨rfl, hs⟩ := h; have hs : St W w (x.w1 1 eb cap esp ⟨6, sa, sp, da, dp, false, true, false, 501⟩ [(b14, .cells [U32 da, I64 dp] 41), (b13, .cells [U32 sa, I64 sp] 41)]) := hs
      refine l_end ?_
      refine e_then ?_
      refine s_seq ?_
      refine s_seq ?_
      refine s_reg ?_
      refine l_q (by exact y_mv_bool rfl) ?_
      refine l_end ?_
      refine e_then ?_
      refine cond_t rfl ?_
      refine s_seq ?_
      refine s_reg ?_
      refine l_q (by exact y_mv_ptr rfl) ?_
      refine l_q (by exact y_ldA (vs := [_, _]) hs rfl rfl rfl) ?_
      refine l_q (by exact y_ldA (vs := [_, _]) hs rfl rfl rfl) ?_
      refine l_w (w_call rfl (flagged_c da dp sa sp 17 (by omega) (by omega) (by omega) (by omega) rfl (by decide) hs) rfl (fun _ w h => ?_))
      obtain ⟨p3, rfl, hI3, hs⟩ := h
      refine l_w (w_call rfl (jC1 (now := 2) hx hI3 (by decide) (by decide) (by omega) hs) rfl (fun _ w h => ?_))
      obtain ⟨rfl, hs⟩ := h; have hs : St W w (x.w1 2 eb cap esp ⟨6, sa, sp, da, dp, false, true, true, 52⟩ [(b14, .cells [U32 da, I64 dp] 41), (b13, .cells [U32 sa, I64 sp] 41)]) := hs
      refine l_end ?_
      refine e_then ?_
      refine s_reg ?_
      refine l_q (by exact y_as_int rfl) ?_
      refine l_end ?_
      refine e_then ?_
      refine s_seq ?_
      refine s_seq ?_
      refine s_reg ?_
      refine l_q (by exact y_mv_bool rfl) ?_
      refine l_end ?_
      refine e_then ?_
      refine cond_t rfl ?_
      refine s_seq ?_
      refine s_reg ?_
      refine l_q (by exact y_mv_ptr rfl) ?_
      refine l_q (by exact y_ldA (vs := [_, _]) hs rfl rfl rfl) ?_
      refine l_q (by exact y_ldA (vs := [_, _]) hs rfl rfl rfl) ?_
      refine l_w (w_call rfl (flagged_c sa sp da dp 4 (by omega) (by omega) (by omega) (by omega) rfl (by decide) hs) rfl (fun _ w h => ?_))
      obtain ⟨p4, rfl, hI4, hs⟩ := h
      refine l_w (w_call rfl (jC0 (now := 2) hx hI4 (by decide) (by decide) hs) rfl (fun _ w h => ?_))
      obtain ⟨rfl, hs⟩ := h
      refine l_end ?_
      refine e_then ?_
      refine s_reg ?_
      refine l_q (by exact y_as_int rfl) ?_
      refine l_end ?_
      refine e_then ?_
      refine s_seq ?_
      refine s_seq ?_
      refine s_reg ?_
      refine l_q (by exact y_mv_bool rfl) ?_
      refine l_q (by first | exact y_not_t rfl | exact y_not_f rfl | exact y_notd rfl) ?_
      refine l_q (by exact y_mv_bool rfl) ?_
      first | refine l_gskip rfl rfl ?_ | refine l_gskip_u rfl rfl ?_ | refine l_gdo rfl rfl (by exact y_mv_bool rfl) ?_
      first | refine l_gskip rfl rfl ?_ | refine l_gskip_u rfl rfl ?_ | refine l_gdo rfl rfl (by first | exact y_not_t rfl | exact y_not_f rfl | exact y_notd rfl) ?_
      refine l_q (by first | exact y_pk_bt rfl rfl | exact y_pk_bf rfl rfl) ?_
      refine l_end ?_
      refine e_then ?_
      refine cond_f rfl ?_
      refine s_skip ?_
      refine e_then ?_
      refine s_seq ?_
      refine s_reg ?_
      refine l_q (by exact y_mv_ptr rfl) ?_
      refine l_q (by exact y_mv_int rfl) ?_
      refine l_q (by exact y_mv_int rfl) ?_
      refine l_w (w_call rfl (rest_c n4 50 (by decide) (by decide) w) rfl (fun _ w h => ?_))
      obtain ⟨⟨r, rfl, hr⟩, rfl⟩ := h
      refine l_q (by exact y_toInt (b := ((2 + r : Nat) : Int)) (y_addn rfl rfl (by omega)) (by omega)) ?_
      refine l_w (w_call rfl (many_1 x 2 ((2 + r : Nat) : Int) _ (decide_eq_false (show ¬ ((52 : Int) ≤ _) by omega)) (by omega) (by omega) hs) rfl (fun _ w h => ?_))
      obtain ⟨rfl, hs⟩ := h
      refine l_q (by exact y_mv_tuple rfl) ?_
      refine l_q (by exact y_extract rfl rfl) ?_
      refine l_q (by exact y_extract rfl rfl) ?_
      refine l_q (by exact y_as_int rfl) ?_
      refine l_q (by exact y_as_int rfl) ?_
      refine l_end ?_
      refine e_then ?_
      refine s_seq ?_
      refine s_reg ?_
      refine l_q (by exact y_mv_ptr rfl) ?_
      refine l_q (by exact y_mv_int rfl) ?_
      refine l_q (by first | exact y_addn rfl rfl (by omega) | exact y_add rfl rfl rfl) ?_
      refine l_w (w_call rfl (many_2 x ((2 + r : Nat) : Int) 52 _ rfl (by decide) (by omega) hs) rfl (fun _ w h => ?_))
      obtain ⟨rfl, hs⟩ := h
      refine l_q (by exact y_mv_tuple rfl) ?_
      refine l_q (by exact y_extract rfl rfl) ?_
      refine l_q (by exact y_extract rfl rfl) ?_
      refine l_q (by exact y_as_int rfl) ?_
      refine l_q (by exact y_as_int rfl) ?_
      refine l_end ?_
      refine e_then ?_
      refine s_seq ?_
      refine s_reg ?_
      refine l_q (by exact y_mv_int rfl) ?_
      refine l_q (by first | exact y_eql rfl rfl (decide_eq_true (by omega)) | exact y_eql rfl rfl (decide_eq_false (by omega)) | exact y_eql rfl rfl rfl) ?_
      refine l_q (by exact y_mv_bool rfl) ?_
      first | refine l_gskip rfl rfl ?_ | refine l_gskip_u rfl rfl ?_ | refine l_gdo rfl rfl (by exact y_mv_int rfl) ?_
      first | refine l_gskip rfl rfl ?_ | refine l_gskip_u rfl rfl ?_ | refine l_gdo rfl rfl (by first | exact y_eql rfl rfl (decide_eq_true (by omega)) | exact y_eql rfl rfl (decide_eq_false (by omega)) | exact y_eql rfl rfl rfl) ?_
      refine l_q (by first | exact y_pk_bt rfl rfl | exact y_pk_bf rfl rfl) ?_
      refine l_q (by exact y_mv_bool rfl) ?_
      first | refine l_gskip rfl rfl ?_ | refine l_gskip_u rfl rfl ?_ | refine l_gdo rfl rfl (by exact y_mv_int rfl) ?_
      first | refine l_gskip rfl rfl ?_ | refine l_gskip_u rfl rfl ?_ | refine l_gdo rfl rfl (by first | exact y_eql rfl rfl (decide_eq_true (by omega)) | exact y_eql rfl rfl (decide_eq_false (by omega)) | exact y_eql rfl rfl rfl) ?_
      refine l_q (by first | exact y_pk_bt rfl rfl | exact y_pk_bf rfl rfl) ?_
      refine l_q (by exact y_mv_bool rfl) ?_
      first | refine l_gskip rfl rfl ?_ | refine l_gskip_u rfl rfl ?_ | refine l_gdo rfl rfl (by exact y_mv_int rfl) ?_
      first | refine l_gskip rfl rfl ?_ | refine l_gskip_u rfl rfl ?_ | refine l_gdo rfl rfl (by first | exact y_eql rfl rfl (decide_eq_true (by omega)) | exact y_eql rfl rfl (decide_eq_false (by omega)) | exact y_eql rfl rfl rfl) ?_
      refine l_q (by first | exact y_pk_bt rfl rfl | exact y_pk_bf rfl rfl) ?_
      refine l_q (by exact y_as_bool rfl) ?_
      refine l_end ?_
      refine e_then ?_
      refine s_ret ?_
      exact ret_ [.bool _] rfl ⟨rfl, trivial⟩ ⟨rfl, hs.nil⟩
end Go.Proofs.Ytagdgalnaobpeaa
