/- Facts on the functions and types of this seat that its laws are proved from: contracts under the premises that each theorem names. -/
import Derived.Test.YtagdgalnaobpeaaTp
set_option linter.unusedSimpArgs false
set_option linter.unusedVariables false
set_option linter.unnecessarySimpa false
namespace Go.Proofs.Ytagdgalnaobpeaa
open Go Go.RowKit PB
set_option linter.unusedVariables false
set_option linter.unusedSimpArgs false

theorem St.sink32 {W0 w : World} {a b c q r : Nat × MObj} {L : List (Nat × MObj)} (h : St W0 w (a :: b :: c :: q :: r :: L)) : St W0 w (q :: r :: a :: b :: c :: L) := by
  have h1 := h.perm (((St.sink2p c q r L).cons b).cons a)
  have h2 := h1.perm ((St.sink2p b q r (c :: L)).cons a)
  exact h2.perm (St.sink2p a q r (b :: c :: L))
structure Rep where
  x : Wl
  sa : Nat
  sp : Nat
  da : Nat
  dp : Nat
  ca : Nat
  cp : Nat
  b1 : Nat
  b2 : Nat
  b3 : Nat
structure Rep.ok (u : Rep) : Prop where
  i1 : 100 ≤ u.sa
  i2 : u.sa ≤ 103
  i3 : u.sp ≤ 5
  o1 : 900 ≤ u.da
  o2 : u.da ≤ 902
  o3 : u.dp ≤ 53
  c1 : 900 ≤ u.ca
  c2 : u.ca ≤ 902
  c3 : u.cp ≤ 53
  r : u.x.r = ruleO
abbrev Rep.ends (u : Rep) : List (Nat × MObj) := [(u.b3, .cells [U32 u.ca, I64 u.cp] 41), (u.b2, .cells [U32 u.da, I64 u.dp] 41), (u.b1, .cells [U32 u.sa, I64 u.sp] 41)]

theorem replies_walk (W : World) (n0 n1 n2 : Int) (stream : Bool) :
    FnC Try.prog 5 [I64 n0, I64 n1, I64 n2, .bool stream] W (fun v w' => v = .bool true ∧ St W w' []) := by
  have hs := St.start W
  refine FnC.enter Try.func5 rfl Try.ntmps5 rfl fun ρ => ?_
  refine s_seq ?_
  refine s_reg ?_
  refine l_q (by exact y_as_bool rfl) ?_
  refine l_end ?_
  refine e_then ?_
  refine s_seq ?_
  refine s_reg ?_
  refine l_w (w_call rfl (outward_c hs) rfl (fun _ w h => ?_))
  obtain ⟨b24, rfl, hs⟩ := h
  refine l_w (w_call rfl (new_c ruleO ruleO_fits (by decide) hs) rfl (fun _ w h => ?_))
  obtain ⟨x, rfl, hx, hs⟩ := h
  refine l_q (by exact y_mv_tuple rfl) ?_
  refine l_q (by exact y_extract rfl rfl) ?_
  refine l_q (by exact y_extract rfl rfl) ?_
  refine l_q (by exact y_as_ptr rfl) ?_
  refine l_q (by exact y_as_int rfl) ?_
  refine l_end ?_
  refine e_then ?_
  refine s_seq ?_
  refine s_seq ?_
  refine s_reg ?_
  refine l_w (w_call rfl (fact_c hs) rfl (fun _ w h => ?_))
  obtain ⟨rfl, hs⟩ := h
  refine l_q (by first | exact y_not_t rfl | exact y_not_f rfl | exact y_notd rfl) ?_
  refine l_q (by exact y_mv_bool rfl) ?_
  first | refine l_gskip rfl rfl ?_ | refine l_gskip_u rfl rfl ?_ | refine l_gdo rfl rfl (by exact y_mv_int rfl) ?_
  first | refine l_gskip rfl rfl ?_ | refine l_gskip_u rfl rfl ?_ | refine l_gdo rfl rfl (by first | exact y_neq rfl rfl (decide_eq_true (by omega)) | exact y_neq rfl rfl (decide_eq_false (by omega)) | exact y_neq rfl rfl rfl) ?_
  refine l_q (by first | exact y_pk_bt rfl rfl | exact y_pk_bf rfl rfl) ?_
  refine l_q (by exact y_mv_bool rfl) ?_
  first | refine l_gskip rfl rfl ?_ | refine l_gskip_u rfl rfl ?_ | refine l_gdo rfl rfl (by exact y_mv_ptr rfl) ?_
  first | refine l_gskip rfl rfl ?_ | refine l_gskip_u rfl rfl ?_ | refine l_gdo rfl rfl (by first | exact y_ptr_nn rfl rfl | exact y_ptr_eql rfl rfl rfl) ?_
  refine l_q (by first | exact y_pk_bt rfl rfl | exact y_pk_bf rfl rfl) ?_
  refine l_end ?_
  refine e_then ?_
  refine cond_f rfl ?_
  refine s_skip ?_
  refine e_then ?_
  refine cut (Y := Rep) (fun u => [(3, .bool stream), (9, u.x.ptr), (11, .pointer (some ⟨u.b1, 0, none⟩)), (12, .pointer (some ⟨u.b2, 0, none⟩)), (13, .pointer (some ⟨u.b3, 0, none⟩))]) (fun u w => u.ok ∧ St W w (u.x.w0 0 u.ends)) (fun K hK => ?_) (fun u ρ w hI => ?_)
  refine s_reg ?_
  refine l_q (by exact y_mv_int rfl) ?_
  refine l_w (w_call rfl (inside_c n0 hs) rfl (fun _ w h => ?_))
  obtain ⟨⟨sa, sp, rfl, i1, i2, i3, i4⟩, hs⟩ := h
  refine l_q (by exact y_mv_int rfl) ?_
  refine l_w (w_call rfl (outer_c n1 hs) rfl (fun _ w h => ?_))
  obtain ⟨⟨da, dp, rfl, o1, o2, o3, o4⟩, hs⟩ := h
  refine l_q (by exact y_mv_int rfl) ?_
  refine l_w (w_call rfl (outer_c n2 hs) rfl (fun _ w h => ?_))
  obtain ⟨⟨ca, cp, rfl, c1, c2, c3, c4⟩, hs⟩ := h
  refine l_w (w_alloc (cs := [_, _]) hs rfl (fun b11 w hs hb11 => ?_))
  refine l_w (w_alloc (cs := [_, _]) hs rfl (fun b12 w hs hb12 => ?_))
  refine l_w (w_alloc (cs := [_, _]) hs rfl (fun b13 w hs hb13 => ?_))
  refine l_w (w_storeA (vs := [U32 sa, I64 sp]) hs rfl rfl rfl rfl rfl (fun w hs => ?_))
  refine l_w (w_storeA (vs := [U32 da, I64 dp]) hs rfl rfl rfl rfl rfl (fun w hs => ?_))
  refine l_w (w_storeA (vs := [U32 ca, I64 cp]) hs rfl rfl rfl rfl rfl (fun w hs => ?_))
  refine l_end ?_
  refine e_then ?_
  · exact meet hK ⟨x, sa, sp, da, dp, ca, cp, b11, b12, b13⟩ ⟨rfl, rfl, rfl, rfl, rfl, trivial⟩ ⟨⟨i1, i2, i4, o1, o2, o4, c1, c2, c4, hx⟩, St.sink32 hs⟩
  · obtain ⟨ok, hs⟩ := hI
    have i1 := ok.i1
    have i2 := ok.i2
    have i3 := ok.i3
    have o1 := ok.o1
    have o2 := ok.o2
    have o3 := ok.o3
    have c1 := ok.c1
    have c2 := ok.c2
    have c3 := ok.c3
    by_cases hc : u.da = u.ca ∧ u.dp = u.cp
    · cases stream
      · skip
        refine s_seq ?_
        refine s_reg ?_
        refine l_q (by exact y_mv_ptr rfl) ?_
        refine l_q (by exact y_ldA (vs := [_, _]) hs rfl rfl rfl) ?_
        refine l_q (by exact y_ldA (vs := [_, _]) hs rfl rfl rfl) ?_
        refine l_q (by exact y_mv_bool rfl) ?_
        refine l_w (w_call rfl (packed_c u.sa u.sp u.da u.dp _ _ (by omega) (by omega) (by omega) (by omega) (by decide) hs) rfl (fun _ w h => ?_))
        obtain ⟨p1, rfl, hI1, hs⟩ := h
        refine l_w (w_call rfl (jA (now := 0) false ok.r hI1 (by decide) (by omega) (by decide) hs) rfl (fun _ w h => ?_))
        obtain ⟨rfl, eb, cap, esp, hs⟩ := h
        refine l_q (by exact y_mv_tuple rfl) ?_
        refine l_q (by exact y_extract rfl rfl) ?_
        refine l_q (by exact y_extract rfl rfl) ?_
        refine l_q (by exact y_as_bool rfl) ?_
        refine l_q (by exact y_as_int rfl) ?_
        refine l_end ?_
        refine e_then ?_
        refine s_seq ?_
        refine s_reg ?_
        refine l_q (by exact y_mv_ptr rfl) ?_
        refine l_q (by exact y_ldA (vs := [_, _]) hs rfl rfl rfl) ?_
        refine l_q (by exact y_ldA (vs := [_, _]) hs rfl rfl rfl) ?_
        refine l_q (by exact y_mv_bool rfl) ?_
        refine l_w (w_call rfl (packed_c u.da u.dp u.sa u.sp _ _ (by omega) (by omega) (by omega) (by omega) (by decide) hs) rfl (fun _ w h => ?_))
        obtain ⟨p2, rfl, hI2, hs⟩ := h
        refine l_w (w_call rfl (jC1 (now := 1) ok.r hI2 (by decide) (by decide) (by omega) hs) rfl (fun _ w h => ?_))
        obtain ⟨rfl, hs⟩ := h; have hs : St W w (u.x.w1 1 eb cap esp ⟨17, u.sa, u.sp, u.da, u.dp, false, false, false, 501⟩ u.ends) := hs
        refine l_q (by exact y_mv_tuple rfl) ?_
        refine l_q (by exact y_extract rfl rfl) ?_
        refine l_q (by exact y_extract rfl rfl) ?_
        refine l_q (by exact y_as_bool rfl) ?_
        refine l_q (by exact y_as_int rfl) ?_
        refine l_end ?_
        refine e_then ?_
        refine s_seq ?_
        refine s_reg ?_
        refine l_q (by exact y_mv_ptr rfl) ?_
        refine l_q (by exact y_ldA (vs := [_, _]) hs rfl rfl rfl) ?_
        refine l_q (by exact y_ldA (vs := [_, _]) hs rfl rfl rfl) ?_
        refine l_q (by exact y_mv_bool rfl) ?_
        refine l_w (w_call rfl (packed_c u.ca u.cp u.sa u.sp _ _ (by omega) (by omega) (by omega) (by omega) (by decide) hs) rfl (fun _ w h => ?_))
        obtain ⟨p3, rfl, hI3, hs⟩ := h
        refine l_w (w_call rfl (jC1 (now := 2) ok.r (by rw [hc.1, hc.2]; exact hI3) (by decide) (by decide) (by omega) hs) rfl (fun _ w h => ?_))
        obtain ⟨rfl, hs⟩ := h; have hs : St W w (u.x.w1 2 eb cap esp ⟨17, u.sa, u.sp, u.da, u.dp, false, false, false, 502⟩ u.ends) := hs
        refine l_q (by exact y_mv_tuple rfl) ?_
        refine l_q (by exact y_extract rfl rfl) ?_
        refine l_q (by exact y_extract rfl rfl) ?_
        refine l_q (by exact y_as_bool rfl) ?_
        refine l_q (by exact y_as_int rfl) ?_
        refine l_end ?_
        refine e_then ?_
        refine s_seq ?_
        refine s_reg ?_
        refine l_q (by exact y_mv_ptr rfl) ?_
        refine l_q (by exact y_ldA (vs := [_, _]) hs rfl rfl rfl) ?_
        refine l_q (by exact y_ldA (vs := [_, _]) hs rfl rfl rfl) ?_
        refine l_q (by exact y_mv_bool rfl) ?_
        refine l_w (w_call rfl (packed_c u.da u.dp u.sa u.sp _ _ (by omega) (by omega) (by omega) (by omega) (by decide) hs) rfl (fun _ w h => ?_))
        obtain ⟨p4, rfl, hI4, hs⟩ := h
        refine l_w (w_call rfl (jD (now := 3) false ok.r hI4 (by decide) (by decide) (by omega) (by omega) (.inr rfl) hs) rfl (fun _ w h => ?_))
        obtain ⟨rfl, hs⟩ := h
        refine l_q (by exact y_mv_tuple rfl) ?_
        refine l_q (by exact y_extract rfl rfl) ?_
        refine l_q (by exact y_extract rfl rfl) ?_
        refine l_q (by exact y_as_bool rfl) ?_
        refine l_q (by exact y_as_int rfl) ?_
        refine l_end ?_
        refine e_then ?_
        refine s_seq ?_
        refine s_reg ?_
        refine l_q (by exact y_mv_ptr rfl) ?_
        refine l_w (w_call rfl (many_1 u.x 3 3 _ rfl (by decide) (by decide) hs) rfl (fun _ w h => ?_))
        obtain ⟨rfl, hs⟩ := h
        refine l_q (by exact y_mv_tuple rfl) ?_
        refine l_q (by exact y_extract rfl rfl) ?_
        refine l_q (by exact y_extract rfl rfl) ?_
        refine l_q (by exact y_as_int rfl) ?_
        refine l_q (by exact y_as_int rfl) ?_
        refine l_end ?_
        refine e_then ?_
        refine s_seq ?_
        refine s_reg ?_
        refine l_q (by exact y_mv_int rfl) ?_
        refine l_q (by first | exact y_eql rfl rfl (decide_eq_true (by omega)) | exact y_eql rfl rfl (decide_eq_false (by omega)) | exact y_eql rfl rfl rfl) ?_
        refine l_q (by exact y_mv_bool rfl) ?_
        first | refine l_gskip rfl rfl ?_ | refine l_gskip_u rfl rfl ?_ | refine l_gdo rfl rfl (by exact y_mv_int rfl) ?_
        first | refine l_gskip rfl rfl ?_ | refine l_gskip_u rfl rfl ?_ | refine l_gdo rfl rfl (by first | exact y_eql rfl rfl (decide_eq_true (by omega)) | exact y_eql rfl rfl (decide_eq_false (by omega)) | exact y_eql rfl rfl rfl) ?_
        refine l_q (by first | exact y_pk_bt rfl rfl | exact y_pk_bf rfl rfl) ?_
        refine l_q (by exact y_mv_bool rfl) ?_
        first | refine l_gskip rfl rfl ?_ | refine l_gskip_u rfl rfl ?_ | refine l_gdo rfl rfl (by exact y_mv_int rfl) ?_
        first | refine l_gskip rfl rfl ?_ | refine l_gskip_u rfl rfl ?_ | refine l_gdo rfl rfl (by first | exact y_eql rfl rfl (decide_eq_true (by omega)) | exact y_eql rfl rfl (decide_eq_false (by omega)) | exact y_eql rfl rfl rfl) ?_
        refine l_q (by first | exact y_pk_bt rfl rfl | exact y_pk_bf rfl rfl) ?_
        refine l_q (by exact y_mv_bool rfl) ?_
        first | refine l_gskip rfl rfl ?_ | refine l_gskip_u rfl rfl ?_ | refine l_gdo rfl rfl (by exact y_mv_int rfl) ?_
        first | refine l_gskip rfl rfl ?_ | refine l_gskip_u rfl rfl ?_ | refine l_gdo rfl rfl (by first | exact y_eql rfl rfl (decide_eq_true (by omega)) | exact y_eql rfl rfl (decide_eq_false (by omega)) | exact y_eql rfl rfl rfl) ?_
        refine l_q (by first | exact y_pk_bt rfl rfl | exact y_pk_bf rfl rfl) ?_
        refine l_q (by exact y_mv_bool rfl) ?_
        first | refine l_gskip rfl rfl ?_ | refine l_gskip_u rfl rfl ?_ | refine l_gdo rfl rfl (by exact y_mv_int rfl) ?_
        first | refine l_gskip rfl rfl ?_ | refine l_gskip_u rfl rfl ?_ | refine l_gdo rfl rfl (by first | exact y_eql rfl rfl (decide_eq_true (by omega)) | exact y_eql rfl rfl (decide_eq_false (by omega)) | exact y_eql rfl rfl rfl) ?_
        refine l_q (by first | exact y_pk_bt rfl rfl | exact y_pk_bf rfl rfl) ?_
        refine l_q (by exact y_mv_bool rfl) ?_
        first | refine l_gskip rfl rfl ?_ | refine l_gskip_u rfl rfl ?_ | refine l_gdo rfl rfl (by exact y_mv_bool rfl) ?_
        refine l_q (by first | exact y_pk_bt rfl rfl | exact y_pk_bf rfl rfl) ?_
        refine l_q (by exact y_mv_bool rfl) ?_
        first | refine l_gskip rfl rfl ?_ | refine l_gskip_u rfl rfl ?_ | refine l_gdo rfl rfl (by exact y_mv_bool rfl) ?_
        refine l_q (by first | exact y_pk_bt rfl rfl | exact y_pk_bf rfl rfl) ?_
        refine l_q (by exact y_mv_bool rfl) ?_
        first | refine l_gskip rfl rfl ?_ | refine l_gskip_u rfl rfl ?_ | refine l_gdo rfl rfl (by exact y_mv_bool rfl) ?_
        first | refine l_gskip rfl rfl ?_ | refine l_gskip_u rfl rfl ?_ | refine l_gdo rfl rfl (by exact y_ldA (vs := [_, _]) hs rfl rfl rfl) ?_
        first | refine l_gskip rfl rfl ?_ | refine l_gskip_u rfl rfl ?_ | refine l_gdo rfl rfl (by exact y_ldA (vs := [_, _]) hs rfl rfl rfl) ?_
        first | refine l_gskip rfl rfl ?_ | refine l_gskip_u rfl rfl ?_ | refine l_gdo rfl rfl (by first | exact y_endT rfl rfl (by omega) | exact y_endF rfl rfl (by omega)) ?_
        first | refine l_gskip rfl rfl ?_ | refine l_gskip_u rfl rfl ?_ | refine l_gdo rfl rfl (by exact y_bool_eql rfl rfl rfl) ?_
        refine l_q (by first | exact y_pk_bt rfl rfl | exact y_pk_bf rfl rfl) ?_
        refine l_q (by exact y_mv_bool rfl) ?_
        first | refine l_gskip rfl rfl ?_ | refine l_gskip_u rfl rfl ?_ | refine l_gdo rfl rfl (by exact y_mv_bool rfl) ?_
        first | refine l_gskip rfl rfl ?_ | refine l_gskip_u rfl rfl ?_ | refine l_gdo rfl rfl (by first | exact y_not_t rfl | exact y_not_f rfl | exact y_notd rfl) ?_
        refine l_q (by first | exact y_pk_bt rfl rfl | exact y_pk_bf rfl rfl) ?_
        refine l_q (by exact y_mv_bool rfl) ?_
        first | refine l_gskip rfl rfl ?_ | refine l_gskip_u rfl rfl ?_ | refine l_gdo rfl rfl (by exact y_mv_int rfl) ?_
        first | refine l_gskip rfl rfl ?_ | refine l_gskip_u rfl rfl ?_ | refine l_gdo rfl rfl (by first | exact y_eql rfl rfl (decide_eq_true (by omega)) | exact y_eql rfl rfl (decide_eq_false (by omega)) | exact y_eql rfl rfl rfl) ?_
        refine l_q (by first | exact y_pk_bt rfl rfl | exact y_pk_bf rfl rfl) ?_
        refine l_q (by exact y_as_bool rfl) ?_
        refine l_end ?_
        refine e_then ?_
        refine s_ret ?_
        exact ret_ [.bool _] rfl ⟨rfl, trivial⟩ ⟨rfl, hs.nil⟩
      · skip
        refine s_seq ?_
        refine s_reg ?_
        refine l_q (by exact y_mv_ptr rfl) ?_
        refine l_q (by exact y_ldA (vs := [_, _]) hs rfl rfl rfl) ?_
        refine l_q (by exact y_ldA (vs := [_, _]) hs rfl rfl rfl) ?_
        refine l_q (by exact y_mv_bool rfl) ?_
        refine l_w (w_call rfl (packed_c u.sa u.sp u.da u.dp _ _ (by omega) (by omega) (by omega) (by omega) (by decide) hs) rfl (fun _ w h => ?_))
        obtain ⟨p1, rfl, hI1, hs⟩ := h
        refine l_w (w_call rfl (jA (now := 0) false ok.r hI1 (by decide) (by omega) (by decide) hs) rfl (fun _ w h => ?_))
        obtain ⟨rfl, eb, cap, esp, hs⟩ := h
        refine l_q (by exact y_mv_tuple rfl) ?_
        refine l_q (by exact y_extract rfl rfl) ?_
        refine l_q (by exact y_extract rfl rfl) ?_
        refine l_q (by exact y_as_bool rfl) ?_
        refine l_q (by exact y_as_int rfl) ?_
        refine l_end ?_
        refine e_then ?_
        refine s_seq ?_
        refine s_reg ?_
        refine l_q (by exact y_mv_ptr rfl) ?_
        refine l_q (by exact y_ldA (vs := [_, _]) hs rfl rfl rfl) ?_
        refine l_q (by exact y_ldA (vs := [_, _]) hs rfl rfl rfl) ?_
        refine l_q (by exact y_mv_bool rfl) ?_
        refine l_w (w_call rfl (packed_c u.da u.dp u.sa u.sp _ _ (by omega) (by omega) (by omega) (by omega) (by decide) hs) rfl (fun _ w h => ?_))
        obtain ⟨p2, rfl, hI2, hs⟩ := h
        refine l_w (w_call rfl (jC1 (now := 1) ok.r hI2 (by decide) (by decide) (by omega) hs) rfl (fun _ w h => ?_))
        obtain ⟨rfl, hs⟩ := h; have hs : St W w (u.x.w1 1 eb cap esp ⟨6, u.sa, u.sp, u.da, u.dp, false, false, false, 501⟩ u.ends) := hs
        refine l_q (by exact y_mv_tuple rfl) ?_
        refine l_q (by exact y_extract rfl rfl) ?_
        refine l_q (by exact y_extract rfl rfl) ?_
        refine l_q (by exact y_as_bool rfl) ?_
        refine l_q (by exact y_as_int rfl) ?_
        refine l_end ?_
        refine e_then ?_
        refine s_seq ?_
        refine s_reg ?_
        refine l_q (by exact y_mv_ptr rfl) ?_
        refine l_q (by exact y_ldA (vs := [_, _]) hs rfl rfl rfl) ?_
        refine l_q (by exact y_ldA (vs := [_, _]) hs rfl rfl rfl) ?_
        refine l_q (by exact y_mv_bool rfl) ?_
        refine l_w (w_call rfl (packed_c u.ca u.cp u.sa u.sp _ _ (by omega) (by omega) (by omega) (by omega) (by decide) hs) rfl (fun _ w h => ?_))
        obtain ⟨p3, rfl, hI3, hs⟩ := h
        refine l_w (w_call rfl (jC1 (now := 2) ok.r (by rw [hc.1, hc.2]; exact hI3) (by decide) (by decide) (by omega) hs) rfl (fun _ w h => ?_))
        obtain ⟨rfl, hs⟩ := h; have hs : St W w (u.x.w1 2 eb cap esp ⟨6, u.sa, u.sp, u.da, u.dp, false, false, false, 502⟩ u.ends) := hs
        refine l_q (by exact y_mv_tuple rfl) ?_
        refine l_q (by exact y_extract rfl rfl) ?_
        refine l_q (by exact y_extract rfl rfl) ?_
        refine l_q (by exact y_as_bool rfl) ?_
        refine l_q (by exact y_as_int rfl) ?_
        refine l_end ?_
        refine e_then ?_
        refine s_seq ?_
        refine s_reg ?_
        refine l_q (by exact y_mv_ptr rfl) ?_
        refine l_q (by exact y_ldA (vs := [_, _]) hs rfl rfl rfl) ?_
        refine l_q (by exact y_ldA (vs := [_, _]) hs rfl rfl rfl) ?_
        refine l_q (by exact y_mv_bool rfl) ?_
        refine l_w (w_call rfl (packed_c u.da u.dp u.sa u.sp _ _ (by omega) (by omega) (by omega) (by omega) (by decide) hs) rfl (fun _ w h => ?_))
        obtain ⟨p4, rfl, hI4, hs⟩ := h
        refine l_w (w_call rfl (jD (now := 3) false ok.r hI4 (by decide) (by decide) (by omega) (by omega) (.inr rfl) hs) rfl (fun _ w h => ?_))
        obtain ⟨rfl, hs⟩ := h
        refine l_q (by exact y_mv_tuple rfl) ?_
        refine l_q (by exact y_extract rfl rfl) ?_
        refine l_q (by exact y_extract rfl rfl) ?_
        refine l_q (by exact y_as_bool rfl) ?_
        refine l_q (by exact y_as_int rfl) ?_
        refine l_end ?_
        refine e_then ?_
        refine s_seq ?_
        refine s_reg ?_
        refine l_q (by exact y_mv_ptr rfl) ?_
        refine l_w (w_call rfl (many_1 u.x 3 3 _ rfl (by decide) (by decide) hs) rfl (fun _ w h => ?_))
        obtain ⟨rfl, hs⟩ := h
        refine l_q (by exact y_mv_tuple rfl) ?_
        refine l_q (by exact y_extract rfl rfl) ?_
        refine l_q (by exact y_extract rfl rfl) ?_
        refine l_q (by exact y_as_int rfl) ?_
        refine l_q (by exact y_as_int rfl) ?_
        refine l_end ?_
        refine e_then ?_
        refine s_seq ?_
        refine s_reg ?_
        refine l_q (by exact y_mv_int rfl) ?_
        refine l_q (by first | exact y_eql rfl rfl (decide_eq_true (by omega)) | exact y_eql rfl rfl (decide_eq_false (by omega)) | exact y_eql rfl rfl rfl) ?_
        refine l_q (by exact y_mv_bool rfl) ?_
        first | refine l_gskip rfl rfl ?_ | refine l_gskip_u rfl rfl ?_ | refine l_gdo rfl rfl (by exact y_mv_int rfl) ?_
        first | refine l_gskip rfl rfl ?_ | refine l_gskip_u rfl rfl ?_ | refine l_gdo rfl rfl (by first | exact y_eql rfl rfl (decide_eq_true (by omega)) | exact y_eql rfl rfl (decide_eq_false (by omega)) | exact y_eql rfl rfl rfl) ?_
        refine l_q (by first | exact y_pk_bt rfl rfl | exact y_pk_bf rfl rfl) ?_
        refine l_q (by exact y_mv_bool rfl) ?_
        first | refine l_gskip rfl rfl ?_ | refine l_gskip_u rfl rfl ?_ | refine l_gdo rfl rfl (by exact y_mv_int rfl) ?_
        first | refine l_gskip rfl rfl ?_ | refine l_gskip_u rfl rfl ?_ | refine l_gdo rfl rfl (by first | exact y_eql rfl rfl (decide_eq_true (by omega)) | exact y_eql rfl rfl (decide_eq_false (by omega)) | exact y_eql rfl rfl rfl) ?_
        refine l_q (by first | exact y_pk_bt rfl rfl | exact y_pk_bf rfl rfl) ?_
        refine l_q (by exact y_mv_bool rfl) ?_
        first | refine l_gskip rfl rfl ?_ | refine l_gskip_u rfl rfl ?_ | refine l_gdo rfl rfl (by exact y_mv_int rfl) ?_
        first | refine l_gskip rfl rfl ?_ | refine l_gskip_u rfl rfl ?_ | refine l_gdo rfl rfl (by first | exact y_eql rfl rfl (decide_eq_true (by omega)) | exact y_eql rfl rfl (decide_eq_false (by omega)) | exact y_eql rfl rfl rfl) ?_
        refine l_q (by first | exact y_pk_bt rfl rfl | exact y_pk_bf rfl rfl) ?_
        refine l_q (by exact y_mv_bool rfl) ?_
        first | refine l_gskip rfl rfl ?_ | refine l_gskip_u rfl rfl ?_ | refine l_gdo rfl rfl (by exact y_mv_int rfl) ?_
        first | refine l_gskip rfl rfl ?_ | refine l_gskip_u rfl rfl ?_ | refine l_gdo rfl rfl (by first | exact y_eql rfl rfl (decide_eq_true (by omega)) | exact y_eql rfl rfl (decide_eq_false (by omega)) | exact y_eql rfl rfl rfl) ?_
        refine l_q (by first | exact y_pk_bt rfl rfl | exact y_pk_bf rfl rfl) ?_
        refine l_q (by exact y_mv_bool rfl) ?_
        first | refine l_gskip rfl rfl ?_ | refine l_gskip_u rfl rfl ?_ | refine l_gdo rfl rfl (by exact y_mv_bool rfl) ?_
        refine l_q (by first | exact y_pk_bt rfl rfl | exact y_pk_bf rfl rfl) ?_
        refine l_q (by exact y_mv_bool rfl) ?_
        first | refine l_gskip rfl rfl ?_ | refine l_gskip_u rfl rfl ?_ | refine l_gdo rfl rfl (by exact y_mv_bool rfl) ?_
        refine l_q (by first | exact y_pk_bt rfl rfl | exact y_pk_bf rfl rfl) ?_
        refine l_q (by exact y_mv_bool rfl) ?_
        first | refine l_gskip rfl rfl ?_ | refine l_gskip_u rfl rfl ?_ | refine l_gdo rfl rfl (by exact y_mv_bool rfl) ?_
        first | refine l_gskip rfl rfl ?_ | refine l_gskip_u rfl rfl ?_ | refine l_gdo rfl rfl (by exact y_ldA (vs := [_, _]) hs rfl rfl rfl) ?_
        first | refine l_gskip rfl rfl ?_ | refine l_gskip_u rfl rfl ?_ | refine l_gdo rfl rfl (by exact y_ldA (vs := [_, _]) hs rfl rfl rfl) ?_
        first | refine l_gskip rfl rfl ?_ | refine l_gskip_u rfl rfl ?_ | refine l_gdo rfl rfl (by first | exact y_endT rfl rfl (by omega) | exact y_endF rfl rfl (by omega)) ?_
        first | refine l_gskip rfl rfl ?_ | refine l_gskip_u rfl rfl ?_ | refine l_gdo rfl rfl (by exact y_bool_eql rfl rfl rfl) ?_
        refine l_q (by first | exact y_pk_bt rfl rfl | exact y_pk_bf rfl rfl) ?_
        refine l_q (by exact y_mv_bool rfl) ?_
        first | refine l_gskip rfl rfl ?_ | refine l_gskip_u rfl rfl ?_ | refine l_gdo rfl rfl (by exact y_mv_bool rfl) ?_
        first | refine l_gskip rfl rfl ?_ | refine l_gskip_u rfl rfl ?_ | refine l_gdo rfl rfl (by first | exact y_not_t rfl | exact y_not_f rfl | exact y_notd rfl) ?_
        refine l_q (by first | exact y_pk_bt rfl rfl | exact y_pk_bf rfl rfl) ?_
        refine l_q (by exact y_mv_bool rfl) ?_
        first | refine l_gskip rfl rfl ?_ | refine l_gskip_u rfl rfl ?_ | refine l_gdo rfl rfl (by exact y_mv_int rfl) ?_
        first | refine l_gskip rfl rfl ?_ | refine l_gskip_u rfl rfl ?_ | refine l_gdo rfl rfl (by first | exact y_eql rfl rfl (decide_eq_true (by omega)) | exact y_eql rfl rfl (decide_eq_false (by omega)) | exact y_eql rfl rfl rfl) ?_
        refine l_q (by first | exact y_pk_bt rfl rfl | exact y_pk_bf rfl rfl) ?_
        refine l_q (by exact y_as_bool rfl) ?_
        refine l_end ?_
        refine e_then ?_
        refine s_ret ?_
        exact ret_ [.bool _] rfl ⟨rfl, trivial⟩ ⟨rfl, hs.nil⟩
    · cases stream
      · skip
        refine s_seq ?_
        refine s_reg ?_
        refine l_q (by exact y_mv_ptr rfl) ?_
        refine l_q (by exact y_ldA (vs := [_, _]) hs rfl rfl rfl) ?_
        refine l_q (by exact y_ldA (vs := [_, _]) hs rfl rfl rfl) ?_
        refine l_q (by exact y_mv_bool rfl) ?_
        refine l_w (w_call rfl (packed_c u.sa u.sp u.da u.dp _ _ (by omega) (by omega) (by omega) (by omega) (by decide) hs) rfl (fun _ w h => ?_))
        obtain ⟨p1, rfl, hI1, hs⟩ := h
        refine l_w (w_call rfl (jA (now := 0) false ok.r hI1 (by decide) (by omega) (by decide) hs) rfl (fun _ w h => ?_))
        obtain ⟨rfl, eb, cap, esp, hs⟩ := h
        refine l_q (by exact y_mv_tuple rfl) ?_
        refine l_q (by exact y_extract rfl rfl) ?_
        refine l_q (by exact y_extract rfl rfl) ?_
        refine l_q (by exact y_as_bool rfl) ?_
        refine l_q (by exact y_as_int rfl) ?_
        refine l_end ?_
        refine e_then ?_
        refine s_seq ?_
        refine s_reg ?_
        refine l_q (by exact y_mv_ptr rfl) ?_
        refine l_q (by exact y_ldA (vs := [_, _]) hs rfl rfl rfl) ?_
        refine l_q (by exact y_ldA (vs := [_, _]) hs rfl rfl rfl) ?_
        refine l_q (by exact y_mv_bool rfl) ?_
        refine l_w (w_call rfl (packed_c u.da u.dp u.sa u.sp _ _ (by omega) (by omega) (by omega) (by omega) (by decide) hs) rfl (fun _ w h => ?_))
        obtain ⟨p2, rfl, hI2, hs⟩ := h
        refine l_w (w_call rfl (jC1 (now := 1) ok.r hI2 (by decide) (by decide) (by omega) hs) rfl (fun _ w h => ?_))
        obtain ⟨rfl, hs⟩ := h; have hs : St W w (u.x.w1 1 eb cap esp ⟨17, u.sa, u.sp, u.da, u.dp, false, false, false, 501⟩ u.ends) := hs
        refine l_q (by exact y_mv_tuple rfl) ?_
        refine l_q (by exact y_extract rfl rfl) ?_
        refine l_q (by exact y_extract rfl rfl) ?_
        refine l_q (by exact y_as_bool rfl) ?_
        refine l_q (by exact y_as_int rfl) ?_
        refine l_end ?_
        refine e_then ?_
        refine s_seq ?_
        refine s_reg ?_
        refine l_q (by exact y_mv_ptr rfl) ?_
        refine l_q (by exact y_ldA (vs := [_, _]) hs rfl rfl rfl) ?_
        refine l_q (by exact y_ldA (vs := [_, _]) hs rfl rfl rfl) ?_
        refine l_q (by exact y_mv_bool rfl) ?_
        refine l_w (w_call rfl (packed_c u.ca u.cp u.sa u.sp _ _ (by omega) (by omega) (by omega) (by omega) (by decide) hs) rfl (fun _ w h => ?_))
        obtain ⟨p3, rfl, hI3, hs⟩ := h
        refine l_w (w_call rfl (jD (now := 2) true ok.r hI3 (by decide) (by decide) (by omega) (by omega) (.inl hc) hs) rfl (fun _ w h => ?_))
        obtain ⟨rfl, hs⟩ := h
        refine l_q (by exact y_mv_tuple rfl) ?_
        refine l_q (by exact y_extract rfl rfl) ?_
        refine l_q (by exact y_extract rfl rfl) ?_
        refine l_q (by exact y_as_bool rfl) ?_
        refine l_q (by exact y_as_int rfl) ?_
        refine l_end ?_
        refine e_then ?_
        refine s_seq ?_
        refine s_reg ?_
        refine l_q (by exact y_mv_ptr rfl) ?_
        refine l_q (by exact y_ldA (vs := [_, _]) hs rfl rfl rfl) ?_
        refine l_q (by exact y_ldA (vs := [_, _]) hs rfl rfl rfl) ?_
        refine l_q (by exact y_mv_bool rfl) ?_
        refine l_w (w_call rfl (packed_c u.da u.dp u.sa u.sp _ _ (by omega) (by omega) (by omega) (by omega) (by decide) hs) rfl (fun _ w h => ?_))
        obtain ⟨p4, rfl, hI4, hs⟩ := h
        refine l_w (w_call rfl (jD (now := 3) false ok.r hI4 (by decide) (by decide) (by omega) (by omega) (.inr rfl) hs) rfl (fun _ w h => ?_))
        obtain ⟨rfl, hs⟩ := h
        refine l_q (by exact y_mv_tuple rfl) ?_
        refine l_q (by exact y_extract rfl rfl) ?_
        refine l_q (by exact y_extract rfl rfl) ?_
        refine l_q (by exact y_as_bool rfl) ?_
        refine l_q (by exact y_as_int rfl) ?_
        refine l_end ?_
        refine e_then ?_
        refine s_seq ?_
        refine s_reg ?_
        refine l_q (by exact y_mv_ptr rfl) ?_
        refine l_w (w_call rfl (many_1 u.x 3 3 _ rfl (by decide) (by decide) hs) rfl (fun _ w h => ?_))
        obtain ⟨rfl, hs⟩ := h
        refine l_q (by exact y_mv_tuple rfl) ?_
        refine l_q (by exact y_extract rfl rfl) ?_
        refine l_q (by exact y_extract rfl rfl) ?_
        refine l_q (by exact y_as_int rfl) ?_
        refine l_q (by exact y_as_int rfl) ?_
        refine l_end ?_
        refine e_then ?_
        refine s_seq ?_
        refine s_reg ?_
        refine l_q (by exact y_mv_int rfl) ?_
        refine l_q (by first | exact y_eql rfl rfl (decide_eq_true (by omega)) | exact y_eql rfl rfl (decide_eq_false (by omega)) | exact y_eql rfl rfl rfl) ?_
        refine l_q (by exact y_mv_bool rfl) ?_
        first | refine l_gskip rfl rfl ?_ | refine l_gskip_u rfl rfl ?_ | refine l_gdo rfl rfl (by exact y_mv_int rfl) ?_
        first | refine l_gskip rfl rfl ?_ | refine l_gskip_u rfl rfl ?_ | refine l_gdo rfl rfl (by first | exact y_eql rfl rfl (decide_eq_true (by omega)) | exact y_eql rfl rfl (decide_eq_false (by omega)) | exact y_eql rfl rfl rfl) ?_
        refine l_q (by first | exact y_pk_bt rfl rfl | exact y_pk_bf rfl rfl) ?_
        refine l_q (by exact y_mv_bool rfl) ?_
        first | refine l_gskip rfl rfl ?_ | refine l_gskip_u rfl rfl ?_ | refine l_gdo rfl rfl (by exact y_mv_int rfl) ?_
        first | refine l_gskip rfl rfl ?_ | refine l_gskip_u rfl rfl ?_ | refine l_gdo rfl rfl (by first | exact y_eql rfl rfl (decide_eq_true (by omega)) | exact y_eql rfl rfl (decide_eq_false (by omega)) | exact y_eql rfl rfl rfl) ?_
        refine l_q (by first | exact y_pk_bt rfl rfl | exact y_pk_bf rfl rfl) ?_
        refine l_q (by exact y_mv_bool rfl) ?_
        first | refine l_gskip rfl rfl ?_ | refine l_gskip_u rfl rfl ?_ | refine l_gdo rfl rfl (by exact y_mv_int rfl) ?_
        first | refine l_gskip rfl rfl ?_ | refine l_gskip_u rfl rfl ?_ | refine l_gdo rfl rfl (by first | exact y_eql rfl rfl (decide_eq_true (by omega)) | exact y_eql rfl rfl (decide_eq_false (by omega)) | exact y_eql rfl rfl rfl) ?_
        refine l_q (by first | exact y_pk_bt rfl rfl | exact y_pk_bf rfl rfl) ?_
        refine l_q (by exact y_mv_bool rfl) ?_
        first | refine l_gskip rfl rfl ?_ | refine l_gskip_u rfl rfl ?_ | refine l_gdo rfl rfl (by exact y_mv_int rfl) ?_
        first | refine l_gskip rfl rfl ?_ | refine l_gskip_u rfl rfl ?_ | refine l_gdo rfl rfl (by first | exact y_eql rfl rfl (decide_eq_true (by omega)) | exact y_eql rfl rfl (decide_eq_false (by omega)) | exact y_eql rfl rfl rfl) ?_
        refine l_q (by first | exact y_pk_bt rfl rfl | exact y_pk_bf rfl rfl) ?_
        refine l_q (by exact y_mv_bool rfl) ?_
        first | refine l_gskip rfl rfl ?_ | refine l_gskip_u rfl rfl ?_ | refine l_gdo rfl rfl (by exact y_mv_bool rfl) ?_
        refine l_q (by first | exact y_pk_bt rfl rfl | exact y_pk_bf rfl rfl) ?_
        refine l_q (by exact y_mv_bool rfl) ?_
        first | refine l_gskip rfl rfl ?_ | refine l_gskip_u rfl rfl ?_ | refine l_gdo rfl rfl (by exact y_mv_bool rfl) ?_
        refine l_q (by first | exact y_pk_bt rfl rfl | exact y_pk_bf rfl rfl) ?_
        refine l_q (by exact y_mv_bool rfl) ?_
        first | refine l_gskip rfl rfl ?_ | refine l_gskip_u rfl rfl ?_ | refine l_gdo rfl rfl (by exact y_mv_bool rfl) ?_
        first | refine l_gskip rfl rfl ?_ | refine l_gskip_u rfl rfl ?_ | refine l_gdo rfl rfl (by exact y_ldA (vs := [_, _]) hs rfl rfl rfl) ?_
        first | refine l_gskip rfl rfl ?_ | refine l_gskip_u rfl rfl ?_ | refine l_gdo rfl rfl (by exact y_ldA (vs := [_, _]) hs rfl rfl rfl) ?_
        first | refine l_gskip rfl rfl ?_ | refine l_gskip_u rfl rfl ?_ | refine l_gdo rfl rfl (by first | exact y_endT rfl rfl (by omega) | exact y_endF rfl rfl (by omega)) ?_
        first | refine l_gskip rfl rfl ?_ | refine l_gskip_u rfl rfl ?_ | refine l_gdo rfl rfl (by exact y_bool_eql rfl rfl rfl) ?_
        refine l_q (by first | exact y_pk_bt rfl rfl | exact y_pk_bf rfl rfl) ?_
        refine l_q (by exact y_mv_bool rfl) ?_
        first | refine l_gskip rfl rfl ?_ | refine l_gskip_u rfl rfl ?_ | refine l_gdo rfl rfl (by exact y_mv_bool rfl) ?_
        first | refine l_gskip rfl rfl ?_ | refine l_gskip_u rfl rfl ?_ | refine l_gdo rfl rfl (by first | exact y_not_t rfl | exact y_not_f rfl | exact y_notd rfl) ?_
        refine l_q (by first | exact y_pk_bt rfl rfl | exact y_pk_bf rfl rfl) ?_
        refine l_q (by exact y_mv_bool rfl) ?_
        first | refine l_gskip rfl rfl ?_ | refine l_gskip_u rfl rfl ?_ | refine l_gdo rfl rfl (by exact y_mv_int rfl) ?_
        first | refine l_gskip rfl rfl ?_ | refine l_gskip_u rfl rfl ?_ | refine l_gdo rfl rfl (by first | exact y_eql rfl rfl (decide_eq_true (by omega)) | exact y_eql rfl rfl (decide_eq_false (by omega)) | exact y_eql rfl rfl rfl) ?_
        refine l_q (by first | exact y_pk_bt rfl rfl | exact y_pk_bf rfl rfl) ?_
        refine l_q (by exact y_as_bool rfl) ?_
        refine l_end ?_
        refine e_then ?_
        refine s_ret ?_
        exact ret_ [.bool _] rfl ⟨rfl, trivial⟩ ⟨rfl, hs.nil⟩
      · skip
        refine s_seq ?_
        refine s_reg ?_
        refine l_q (by exact y_mv_ptr rfl) ?_
        refine l_q (by exact y_ldA (vs := [_, _]) hs rfl rfl rfl) ?_
        refine l_q (by exact y_ldA (vs := [_, _]) hs rfl rfl rfl) ?_
        refine l_q (by exact y_mv_bool rfl) ?_
        refine l_w (w_call rfl (packed_c u.sa u.sp u.da u.dp _ _ (by omega) (by omega) (by omega) (by omega) (by decide) hs) rfl (fun _ w h => ?_))
        obtain ⟨p1, rfl, hI1, hs⟩ := h
        refine l_w (w_call rfl (jA (now := 0) false ok.r hI1 (by decide) (by omega) (by decide) hs) rfl (fun _ w h => ?_))
        obtain ⟨rfl, eb, cap, esp, hs⟩ := h
        refine l_q (by exact y_mv_tuple rfl) ?_
        refine l_q (by exact y_extract rfl rfl) ?_
        refine l_q (by exact y_extract rfl rfl) ?_
        refine l_q (by exact y_as_bool rfl) ?_
        refine l_q (by exact y_as_int rfl) ?_
        refine l_end ?_
        refine e_then ?_
        refine s_seq ?_
        refine s_reg ?_
        refine l_q (by exact y_mv_ptr rfl) ?_
        refine l_q (by exact y_ldA (vs := [_, _]) hs rfl rfl rfl) ?_
        refine l_q (by exact y_ldA (vs := [_, _]) hs rfl rfl rfl) ?_
        refine l_q (by exact y_mv_bool rfl) ?_
        refine l_w (w_call rfl (packed_c u.da u.dp u.sa u.sp _ _ (by omega) (by omega) (by omega) (by omega) (by decide) hs) rfl (fun _ w h => ?_))
        obtain ⟨p2, rfl, hI2, hs⟩ := h
        refine l_w (w_call rfl (jC1 (now := 1) ok.r hI2 (by decide) (by decide) (by omega) hs) rfl (fun _ w h => ?_))
        obtain ⟨rfl, hs⟩ := h; have hs : St W w (u.x.w1 1 eb cap esp ⟨6, u.sa, u.sp, u.da, u.dp, false, false, false, 501⟩ u.ends) := hs
        refine l_q (by exact y_mv_tuple rfl) ?_
        refine l_q (by exact y_extract rfl rfl) ?_
        refine l_q (by exact y_extract rfl rfl) ?_
        refine l_q (by exact y_as_bool rfl) ?_
        refine l_q (by exact y_as_int rfl) ?_
        refine l_end ?_
        refine e_then ?_
        refine s_seq ?_
        refine s_reg ?_
        refine l_q (by exact y_mv_ptr rfl) ?_
        refine l_q (by exact y_ldA (vs := [_, _]) hs rfl rfl rfl) ?_
        refine l_q (by exact y_ldA (vs := [_, _]) hs rfl rfl rfl) ?_
        refine l_q (by exact y_mv_bool rfl) ?_
        refine l_w (w_call rfl (packed_c u.ca u.cp u.sa u.sp _ _ (by omega) (by omega) (by omega) (by omega) (by decide) hs) rfl (fun _ w h => ?_))
        obtain ⟨p3, rfl, hI3, hs⟩ := h
        refine l_w (w_call rfl (jD (now := 2) true ok.r hI3 (by decide) (by decide) (by omega) (by omega) (.inl hc) hs) rfl (fun _ w h => ?_))
        obtain ⟨rfl, hs⟩ := h
        refine l_q (by exact y_mv_tuple rfl) ?_
        refine l_q (by exact y_extract rfl rfl) ?_
        refine l_q (by exact y_extract rfl rfl) ?_
        refine l_q (by exact y_as_bool rfl) ?_
        refine l_q (by exact y_as_int rfl) ?_
        refine l_end ?_
        refine e_then ?_
        refine s_seq ?_
        refine s_reg ?_
        refine l_q (by exact y_mv_ptr rfl) ?_
        refine l_q (by exact y_ldA (vs := [_, _]) hs rfl rfl rfl) ?_
        refine l_q (by exact y_ldA (vs := [_, _]) hs rfl rfl rfl) ?_
        refine l_q (by exact y_mv_bool rfl) ?_
        refine l_w (w_call rfl (packed_c u.da u.dp u.sa u.sp _ _ (by omega) (by omega) (by omega) (by omega) (by decide) hs) rfl (fun _ w h => ?_))
        obtain ⟨p4, rfl, hI4, hs⟩ := h
        refine l_w (w_call rfl (jD (now := 3) false ok.r hI4 (by decide) (by decide) (by omega) (by omega) (.inr rfl) hs) rfl (fun _ w h => ?_))
        obtain ⟨rfl, hs⟩ := h
        refine l_q (by exact y_mv_tuple rfl) ?_
        refine l_q (by exact y_extract rfl rfl) ?_
        refine l_q (by exact y_extract rfl rfl) ?_
        refine l_q (by exact y_as_bool rfl) ?_
        refine l_q (by exact y_as_int rfl) ?_
        refine l_end ?_
        refine e_then ?_
        refine s_seq ?_
        refine s_reg ?_
        refine l_q (by exact y_mv_ptr rfl) ?_
        refine l_w (w_call rfl (many_1 u.x 3 3 _ rfl (by decide) (by decide) hs) rfl (fun _ w h => ?_))
        obtain ⟨rfl, hs⟩ := h
        refine l_q (by exact y_mv_tuple rfl) ?_
        refine l_q (by exact y_extract rfl rfl) ?_
        refine l_q (by exact y_extract rfl rfl) ?_
        refine l_q (by exact y_as_int rfl) ?_
        refine l_q (by exact y_as_int rfl) ?_
        refine l_end ?_
        refine e_then ?_
        refine s_seq ?_
        refine s_reg ?_
        refine l_q (by exact y_mv_int rfl) ?_
        refine l_q (by first | exact y_eql rfl rfl (decide_eq_true (by omega)) | exact y_eql rfl rfl (decide_eq_false (by omega)) | exact y_eql rfl rfl rfl) ?_
        refine l_q (by exact y_mv_bool rfl) ?_
        first | refine l_gskip rfl rfl ?_ | refine l_gskip_u rfl rfl ?_ | refine l_gdo rfl rfl (by exact y_mv_int rfl) ?_
        first | refine l_gskip rfl rfl ?_ | refine l_gskip_u rfl rfl ?_ | refine l_gdo rfl rfl (by first | exact y_eql rfl rfl (decide_eq_true (by omega)) | exact y_eql rfl rfl (decide_eq_false (by omega)) | exact y_eql rfl rfl rfl) ?_
        refine l_q (by first | exact y_pk_bt rfl rfl | exact y_pk_bf rfl rfl) ?_
        refine l_q (by exact y_mv_bool rfl) ?_
        first | refine l_gskip rfl rfl ?_ | refine l_gskip_u rfl rfl ?_ | refine l_gdo rfl rfl (by exact y_mv_int rfl) ?_
        first | refine l_gskip rfl rfl ?_ | refine l_gskip_u rfl rfl ?_ | refine l_gdo rfl rfl (by first | exact y_eql rfl rfl (decide_eq_true (by omega)) | exact y_eql rfl rfl (decide_eq_false (by omega)) | exact y_eql rfl rfl rfl) ?_
        refine l_q (by first | exact y_pk_bt rfl rfl | exact y_pk_bf rfl rfl) ?_
        refine l_q (by exact y_mv_bool rfl) ?_
        first | refine l_gskip rfl rfl ?_ | refine l_gskip_u rfl rfl ?_ | refine l_gdo rfl rfl (by exact y_mv_int rfl) ?_
        first | refine l_gskip rfl rfl ?_ | refine l_gskip_u rfl rfl ?_ | refine l_gdo rfl rfl (by first | exact y_eql rfl rfl (decide_eq_true (by omega)) | exact y_eql rfl rfl (decide_eq_false (by omega)) | exact y_eql rfl rfl rfl) ?_
        refine l_q (by first | exact y_pk_bt rfl rfl | exact y_pk_bf rfl rfl) ?_
        refine l_q (by exact y_mv_bool rfl) ?_
        first | refine l_gskip rfl rfl ?_ | refine l_gskip_u rfl rfl ?_ | refine l_gdo rfl rfl (by exact y_mv_int rfl) ?_
        first | refine l_gskip rfl rfl ?_ | refine l_gskip_u rfl rfl ?_ | refine l_gdo rfl rfl (by first | exact y_eql rfl rfl (decide_eq_true (by omega)) | exact y_eql rfl rfl (decide_eq_false (by omega)) | exact y_eql rfl rfl rfl) ?_
        refine l_q (by first | exact y_pk_bt rfl rfl | exact y_pk_bf rfl rfl) ?_
        refine l_q (by exact y_mv_bool rfl) ?_
        first | refine l_gskip rfl rfl ?_ | refine l_gskip_u rfl rfl ?_ | refine l_gdo rfl rfl (by exact y_mv_bool rfl) ?_
        refine l_q (by first | exact y_pk_bt rfl rfl | exact y_pk_bf rfl rfl) ?_
        refine l_q (by exact y_mv_bool rfl) ?_
        first | refine l_gskip rfl rfl ?_ | refine l_gskip_u rfl rfl ?_ | refine l_gdo rfl rfl (by exact y_mv_bool rfl) ?_
        refine l_q (by first | exact y_pk_bt rfl rfl | exact y_pk_bf rfl rfl) ?_
        refine l_q (by exact y_mv_bool rfl) ?_
        first | refine l_gskip rfl rfl ?_ | refine l_gskip_u rfl rfl ?_ | refine l_gdo rfl rfl (by exact y_mv_bool rfl) ?_
        first | refine l_gskip rfl rfl ?_ | refine l_gskip_u rfl rfl ?_ | refine l_gdo rfl rfl (by exact y_ldA (vs := [_, _]) hs rfl rfl rfl) ?_
        first | refine l_gskip rfl rfl ?_ | refine l_gskip_u rfl rfl ?_ | refine l_gdo rfl rfl (by exact y_ldA (vs := [_, _]) hs rfl rfl rfl) ?_
        first | refine l_gskip rfl rfl ?_ | refine l_gskip_u rfl rfl ?_ | refine l_gdo rfl rfl (by first | exact y_endT rfl rfl (by omega) | exact y_endF rfl rfl (by omega)) ?_
        first | refine l_gskip rfl rfl ?_ | refine l_gskip_u rfl rfl ?_ | refine l_gdo rfl rfl (by exact y_bool_eql rfl rfl rfl) ?_
        refine l_q (by first | exact y_pk_bt rfl rfl | exact y_pk_bf rfl rfl) ?_
        refine l_q (by exact y_mv_bool rfl) ?_
        first | refine l_gskip rfl rfl ?_ | refine l_gskip_u rfl rfl ?_ | refine l_gdo rfl rfl (by exact y_mv_bool rfl) ?_
        first | refine l_gskip rfl rfl ?_ | refine l_gskip_u rfl rfl ?_ | refine l_gdo rfl rfl (by first | exact y_not_t rfl | exact y_not_f rfl | exact y_notd rfl) ?_
        refine l_q (by first | exact y_pk_bt rfl rfl | exact y_pk_bf rfl rfl) ?_
        refine l_q (by exact y_mv_bool rfl) ?_
        first | refine l_gskip rfl rfl ?_ | refine l_gskip_u rfl rfl ?_ | refine l_gdo rfl rfl (by exact y_mv_int rfl) ?_
        first | refine l_gskip rfl rfl ?_ | refine l_gskip_u rfl rfl ?_ | refine l_gdo rfl rfl (by first | exact y_eql rfl rfl (decide_eq_true (by omega)) | exact y_eql rfl rfl (decide_eq_false (by omega)) | exact y_eql rfl rfl rfl) ?_
        refine l_q (by first | exact y_pk_bt rfl rfl | exact y_pk_bf rfl rfl) ?_
        refine l_q (by exact y_as_bool rfl) ?_
        refine l_end ?_
        refine e_then ?_
        refine s_ret ?_
        exact ret_ [.bool _] rfl ⟨rfl, trivial⟩ ⟨rfl, hs.nil⟩
end Go.Proofs.Ytagdgalnaobpeaa
