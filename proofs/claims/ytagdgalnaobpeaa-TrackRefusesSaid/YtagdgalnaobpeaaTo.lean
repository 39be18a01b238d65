/- Facts on the functions and types of this seat that its laws are proved from: contracts under the premises that each theorem names. -/
import Derived.Test.YtagdgalnaobpeaaTn
set_option linter.unusedSimpArgs false
set_option linter.unusedVariables false
set_option linter.unnecessarySimpa false
namespace Go.Proofs.Ytagdgalnaobpeaa
open Go Go.RowKit PB
set_option linter.unusedVariables false
set_option linter.unusedSimpArgs false

theorem portA_le (p : PktV) : portA p ≤ 65535 := by
  unfold portA; split
  · have := byteF_lt p.body 0; have := byteF_lt p.body 1; omega
  · omega
theorem portB_le (p : PktV) : portB p ≤ 65535 := by
  unfold portB; split
  · have := byteF_lt p.body 2; have := byteF_lt p.body 3; omega
  · omega
theorem has00 {x : Nat} (h : x < 4294967296) : hasP 0 0 x := ⟨by decide, by
  show x / 4294967296 = 0 / 4294967296
  omega⟩
theorem match_E (p : PktV) (hf : p.fits) : matchP (ruleE true) p := by
  refine ⟨.inl rfl, has00 hf.s, has00 hf.d, ?_⟩
  by_cases h : hasPorts p
  · have h1 := portA_le p
    have h2 := portB_le p
    exact .inl ⟨h, ⟨⟨Int.natCast_nonneg _, Int.ofNat_le.2 h1⟩, Int.natCast_nonneg _, Int.ofNat_le.2 h2⟩⟩
  · exact .inr ⟨h, rfl, rfl, rfl, rfl⟩
theorem match_O (p : PktV) (hf : p.fits) (h : hasPorts p) (h2 : 96 ≤ p.src ∧ p.src ≤ 111) : matchP ruleO p := by
  have h1 := portA_le p
  have h2 := portB_le p
  refine ⟨.inl rfl, ⟨by decide, ?_⟩, has00 hf.d, .inl ⟨h, ⟨⟨Int.natCast_nonneg _, Int.ofNat_le.2 h1⟩, Int.natCast_nonneg _, Int.ofNat_le.2 h2⟩⟩⟩
  show p.src / 16 = 96 / 16
  omega
theorem nomatch_O (p : PktV) (h2 : 900 ≤ p.src) : ¬ matchP ruleO p := by
  rintro ⟨_, ⟨_, h⟩, _⟩
  have h : p.src / 16 = 96 / 16 := h
  omega
theorem ruleO_fits : ruleO.fits := ⟨by decide, by decide⟩
theorem asksO {x : Wl} {p : PktV} {sa sp da dp fl : Nat} {pr old now : Int} (hx : x.r = ruleO) (hI : IsP p sa sp da dp pr fl) (h : 0 ≤ now ∧ now ≤ 1000 ∧ old ≤ now) : Asks x p old now :=
  ⟨h.1, by omega, h.2.2, hI.chk, hI.fits, by rw [hx]; exact ruleO_fits, by rw [hx]; decide, by rw [hx]; rfl⟩
theorem asksE {x : Wl} {p : PktV} {old now : Int} (hx : x.r = ruleE true) (hc : pChk p = 0) (hf : p.fits) (h : 0 ≤ now ∧ now ≤ 1000 ∧ old ≤ now) : Asks x p old now :=
  ⟨h.1, by omega, h.2.2, hc, hf, by rw [hx]; exact ruleE_fits true, by rw [hx]; decide, by rw [hx]; rfl⟩

/-! ### trackFact -/
def factP : PktV := ⟨0, 0, 1, 1, 0, 0, false, false, ByteArray.mk #[]⟩
theorem factP_fits : factP.fits := ⟨by decide, by decide, by decide⟩
theorem fact_c {W0 w : World} {L : List (Nat × MObj)} (hs : St W0 w L) : FnC Try.prog 9 [] w (fun v w' => v = .bool true ∧ St W0 w' L) := by
  refine FnC.enter Try.func9 rfl Try.ntmps9 rfl fun ρ => ?_
  refine s_seq ?_
  refine s_reg ?_
  refine l_q (by exact y_as_bool rfl) ?_
  refine l_end ?_
  refine e_then ?_
  refine s_seq ?_
  refine s_reg ?_
  refine l_w (w_call rfl (everything_c true hs) rfl (fun _ w h => ?_))
  obtain ⟨rfl, hs⟩ := h
  refine l_w (w_buildSliceV (pv := [.agg (ruleE true).cells.toArray]) (cs := flatR [ruleE true]) hs rfl rfl rfl rfl rfl rfl (fun b6 w hs hb6 => ?_))
  refine l_w (w_call rfl (new_c (ruleE true) (ruleE_fits true) (by decide) hs) rfl (fun _ w h => ?_))
  obtain ⟨x, rfl, hx, hs⟩ := h
  refine l_q (by exact y_mv_tuple rfl) ?_
  refine l_q (by exact y_extract rfl rfl) ?_
  refine l_q (by exact y_extract rfl rfl) ?_
  refine l_q (by exact y_as_ptr rfl) ?_
  refine l_q (by exact y_as_int rfl) ?_
  refine l_end ?_
  refine e_then ?_
  refine s_seq ?_
  refine s_seq ?_
  refine s_reg ?_
  refine l_q (by exact y_mv_int rfl) ?_
  refine l_q (by first | exact y_neq rfl rfl (decide_eq_true (by omega)) | exact y_neq rfl rfl (decide_eq_false (by omega)) | exact y_neq rfl rfl rfl) ?_
  refine l_q (by exact y_mv_bool rfl) ?_
  first | refine l_gskip rfl rfl ?_ | refine l_gskip_u rfl rfl ?_ | refine l_gdo rfl rfl (by exact y_mv_ptr rfl) ?_
  first | refine l_gskip rfl rfl ?_ | refine l_gskip_u rfl rfl ?_ | refine l_gdo rfl rfl (by first | exact y_ptr_nn rfl rfl | exact y_ptr_eql rfl rfl rfl) ?_
  refine l_q (by first | exact y_pk_bt rfl rfl | exact y_pk_bf rfl rfl) ?_
  refine l_end ?_
  refine e_then ?_
  refine cond_f rfl ?_
  refine s_skip ?_
  refine e_then ?_
  refine s_seq ?_
  refine s_reg ?_
  refine l_q (by exact y_mv_ptr rfl) ?_
  refine l_q (by exact y_build (pv := [(2, .int .i64 _), (3, .int .i64 _)]) (vs := [_, _, _, _, _, _, _, _, _]) rfl rfl) ?_
  refine l_w (w_call rfl (judge_P x factP true 0 0 false (by decide) (asksE hx (by decide) factP_fits (by decide)) (by rw [hx]; exact match_E _ factP_fits) _ rfl rfl hs) rfl (fun _ w h => ?_))
  obtain ⟨rfl, hs⟩ := h
  refine l_q (by exact y_mv_tuple rfl) ?_
  refine l_q (by exact y_extract rfl rfl) ?_
  refine l_q (by exact y_extract rfl rfl) ?_
  refine l_q (by exact y_as_bool rfl) ?_
  refine l_q (by exact y_as_int rfl) ?_
  refine l_end ?_
  refine e_then ?_
  refine s_seq ?_
  refine s_reg ?_
  refine l_q (by exact y_mv_bool rfl) ?_
  refine l_q (by exact y_mv_bool rfl) ?_
  first | refine l_gskip rfl rfl ?_ | refine l_gskip_u rfl rfl ?_ | refine l_gdo rfl rfl (by exact y_mv_int rfl) ?_
  first | refine l_gskip rfl rfl ?_ | refine l_gskip_u rfl rfl ?_ | refine l_gdo rfl rfl (by first | exact y_eql rfl rfl (decide_eq_true (by omega)) | exact y_eql rfl rfl (decide_eq_false (by omega)) | exact y_eql rfl rfl rfl) ?_
  refine l_q (by first | exact y_pk_bt rfl rfl | exact y_pk_bf rfl rfl) ?_
  refine l_q (by exact y_as_bool rfl) ?_
  refine l_end ?_
  refine e_then ?_
  refine s_ret ?_
  exact ret_ [.bool _] rfl ⟨rfl, trivial⟩ ⟨rfl, hs.subl⟩

/-! ### TrackBegins -/
def fl8 (r : Nat) : Nat := if r / 8 % 2 = 1 then r - 8 else r
theorem fl8_ok : ∀ r : Nat, r < 32 → IntKind.i64.wrap ((BitVec.ofInt IntKind.i64.bits (r : Int) &&& ~~~ BitVec.ofInt IntKind.i64.bits 8).toNat : Int) = (fl8 r : Int) ∧ IntKind.i64.wrap ((BitVec.ofInt IntKind.i64.bits (fl8 r : Int) &&& ~~~ BitVec.ofInt IntKind.i64.bits 23).toNat : Int) = 0 ∧ fl8 r < 32 ∧ (fl8 r &&& 22 = 2 ↔ fl8 r = 2 ∨ fl8 r = 3) := by decide +kernel
theorem begins_walk (W : World) (n0 n1 n2 : Int) :
    FnC Try.prog 3 [I64 n0, I64 n1, I64 n2] W (fun v w' => v = .bool true ∧ St W w' []) := by
  have hs := St.start W
  refine FnC.enter Try.func3 rfl Try.ntmps3 rfl fun ρ => ?_
  refine s_seq ?_
  refine s_reg ?_
  refine l_q (by exact y_as_bool rfl) ?_
  refine l_end ?_
  refine e_then ?_
  refine s_seq ?_
  refine s_reg ?_
  refine l_w (w_call rfl (everything_c true hs) rfl (fun _ w h => ?_))
  obtain ⟨rfl, hs⟩ := h
  refine l_w (w_buildSliceV (pv := [.agg (ruleE true).cells.toArray]) (cs := flatR [ruleE true]) hs rfl rfl rfl rfl rfl rfl (fun b15 w hs hb15 => ?_))
  refine l_w (w_call rfl (new_c (ruleE true) (ruleE_fits true) (by decide) hs) rfl (fun _ w h => ?_))
  obtain ⟨x, rfl, hx, hs⟩ := h
  refine l_q (by exact y_mv_tuple rfl) ?_
  refine l_q (by exact y_extract rfl rfl) ?_
  refine l_q (by exact y_extract rfl rfl) ?_
  refine l_q (by exact y_as_ptr rfl) ?_
  refine l_q (by exact y_as_int rfl) ?_
  refine l_end ?_
  refine e_then ?_
  refine s_seq ?_
  refine s_seq ?_
  refine s_reg ?_
  refine l_w (w_call rfl (fact_c hs) rfl (fun _ w h => ?_))
  obtain ⟨rfl, hs⟩ := h
  refine l_q (by first | exact y_not_t rfl | exact y_not_f rfl | exact y_notd rfl) ?_
  refine l_q (by exact y_mv_bool rfl) ?_
  first | refine l_gskip rfl rfl ?_ | refine l_gskip_u rfl rfl ?_ | refine l_gdo rfl rfl (by exact y_mv_int rfl) ?_
  first | refine l_gskip rfl rfl ?_ | refine l_gskip_u rfl rfl ?_ | refine l_gdo rfl rfl (by first | exact y_neq rfl rfl (decide_eq_true (by omega)) | exact y_neq rfl rfl (decide_eq_false (by omega)) | exact y_neq rfl rfl rfl) ?_
  refine l_q (by first | exact y_pk_bt rfl rfl | exact y_pk_bf rfl rfl) ?_
  refine l_q (by exact y_mv_bool rfl) ?_
  first | refine l_gskip rfl rfl ?_ | refine l_gskip_u rfl rfl ?_ | refine l_gdo rfl rfl (by exact y_mv_ptr rfl) ?_
  first | refine l_gskip rfl rfl ?_ | refine l_gskip_u rfl rfl ?_ | refine l_gdo rfl rfl (by first | exact y_ptr_nn rfl rfl | exact y_ptr_eql rfl rfl rfl) ?_
  refine l_q (by first | exact y_pk_bt rfl rfl | exact y_pk_bf rfl rfl) ?_
  refine l_end ?_
  refine e_then ?_
  refine cond_f rfl ?_
  refine s_skip ?_
  refine e_then ?_
  refine cut (Y := Wl × Nat) (fun u => [(0, I64 n0), (1, I64 n1), (2, I64 (fl8 u.2)), (7, u.1.ptr)]) (fun u w => u.2 < 32 ∧ u.1.r = ruleE true ∧ St W w (u.1.w0 0 [])) (fun K hK => ?_) (fun u ρ w hI => ?_)
  refine s_reg ?_
  refine l_q (by exact y_mv_int rfl) ?_
  refine l_w (w_call rfl (rest_c n2 32 (by decide) (by decide) w) rfl (fun _ w h => ?_))
  obtain ⟨⟨r, rfl, hr⟩, rfl⟩ := h; obtain ⟨k1, k2, k3, k4⟩ := fl8_ok r hr
  refine l_q (by exact y_toInt (b := (fl8 r : Int)) (y_andnotk rfl rfl rfl) k1) ?_
  refine l_q (by exact y_as_int rfl) ?_
  refine l_end ?_
  refine e_then ?_
  · exact meet hK (x, r) ⟨rfl, rfl, rfl, rfl, trivial⟩ ⟨hr, hx, hs⟩
  · obtain ⟨x, r⟩ := u
    obtain ⟨hr, hx, hs⟩ := hI
    dsimp only at hr hx hs ⊢
    obtain ⟨k1, k2, k3, k4⟩ := fl8_ok r hr
    by_cases hc : fl8 r = 2 ∨ fl8 r = 3
    · have hc1 : (fl8 r = 2 ∧ fl8 r ≠ 3) ∨ (fl8 r ≠ 2 ∧ fl8 r = 3) := by omega
      rcases hc1 with hc1 | hc1
      · refine s_seq ?_
        refine s_reg ?_
        refine l_q (by exact y_mv_ptr rfl) ?_
        refine l_q (by exact y_mv_int rfl) ?_
        refine l_w (w_call rfl (inside_c n0 hs) rfl (fun _ w h => ?_))
        obtain ⟨⟨sa, sp, rfl, i1, i2, i3, i4⟩, hs⟩ := h
        refine l_q (by exact y_mv_int rfl) ?_
        refine l_w (w_call rfl (outer_c n1 hs) rfl (fun _ w h => ?_))
        obtain ⟨⟨da, dp, rfl, o1, o2, o3, o4⟩, hs⟩ := h
        refine l_q (by exact y_mv_int rfl) ?_
        refine l_w (w_call rfl (flagged_c sa sp da dp (fl8 r) (by omega) (by omega) (by omega) (by omega) k2 (by omega) hs) rfl (fun _ w h => ?_))
        obtain ⟨p, rfl, hI, hs⟩ := h
        refine l_w (w_call rfl (judge_A x p false 0 0 true (decide_eq_true hI.has) (asksE hx hI.chk hI.fits (by decide)) (by rw [hx]; exact match_E _ hI.fits) 2 (by rw [hI.fl]; exact k4.2 hc) rfl (.inr rfl) hs) rfl (fun _ w h => ?_))
        obtain ⟨rfl, eb, cap, esp, hs⟩ := h
        refine l_q (by exact y_mv_tuple rfl) ?_
        refine l_q (by exact y_extract rfl rfl) ?_
        refine l_q (by exact y_extract rfl rfl) ?_
        refine l_q (by exact y_as_bool rfl) ?_
        refine l_q (by exact y_as_int rfl) ?_
        refine l_end ?_
        refine e_then ?_
        refine s_seq ?_
        refine s_reg ?_
        refine l_q (by exact y_mv_ptr rfl) ?_
        refine l_w (w_call rfl (many_1 x 0 0 _ rfl (by decide) (by decide) hs) rfl (fun _ w h => ?_))
        obtain ⟨rfl, hs⟩ := h
        refine l_q (by exact y_mv_tuple rfl) ?_
        refine l_q (by exact y_extract rfl rfl) ?_
        refine l_q (by exact y_extract rfl rfl) ?_
        refine l_q (by exact y_as_int rfl) ?_
        refine l_q (by exact y_as_int rfl) ?_
        refine l_end ?_
        refine e_then ?_
        refine s_seq ?_
        refine s_reg ?_
        refine l_q (by exact y_as_int rfl) ?_
        refine l_end ?_
        refine e_then ?_
        refine s_seq ?_
        refine s_seq ?_
        refine s_reg ?_
        refine l_q (by exact y_mv_int rfl) ?_
        refine l_q (by first | exact y_eql rfl rfl (decide_eq_true (by omega)) | exact y_eql rfl rfl (decide_eq_false (by omega)) | exact y_eql rfl rfl rfl) ?_
        refine l_q (by exact y_mv_bool rfl) ?_
        first | refine l_gskip rfl rfl ?_ | refine l_gskip_u rfl rfl ?_ | refine l_gdo rfl rfl (by exact y_mv_int rfl) ?_
        first | refine l_gskip rfl rfl ?_ | refine l_gskip_u rfl rfl ?_ | refine l_gdo rfl rfl (by first | exact y_eql rfl rfl (decide_eq_true (by omega)) | exact y_eql rfl rfl (decide_eq_false (by omega)) | exact y_eql rfl rfl rfl) ?_
        refine l_q (by first | exact y_pk_bt rfl rfl | exact y_pk_bf rfl rfl) ?_
        refine l_end ?_
        refine e_then ?_
        refine cond_t rfl ?_
        refine s_reg ?_
        refine l_q (by exact y_as_int rfl) ?_
        refine l_end ?_
        refine e_then ?_
        refine s_seq ?_
        refine s_reg ?_
        refine l_q (by exact y_mv_bool rfl) ?_
        refine l_q (by exact y_mv_bool rfl) ?_
        first | refine l_gskip rfl rfl ?_ | refine l_gskip_u rfl rfl ?_ | refine l_gdo rfl rfl (by exact y_mv_int rfl) ?_
        first | refine l_gskip rfl rfl ?_ | refine l_gskip_u rfl rfl ?_ | refine l_gdo rfl rfl (by first | exact y_eql rfl rfl (decide_eq_true (by omega)) | exact y_eql rfl rfl (decide_eq_false (by omega)) | exact y_eql rfl rfl rfl) ?_
        refine l_q (by first | exact y_pk_bt rfl rfl | exact y_pk_bf rfl rfl) ?_
        refine l_q (by exact y_mv_bool rfl) ?_
        first | refine l_gskip rfl rfl ?_ | refine l_gskip_u rfl rfl ?_ | refine l_gdo rfl rfl (by exact y_mv_int rfl) ?_
        first | refine l_gskip rfl rfl ?_ | refine l_gskip_u rfl rfl ?_ | refine l_gdo rfl rfl (by first | exact y_eql rfl rfl (decide_eq_true (by omega)) | exact y_eql rfl rfl (decide_eq_false (by omega)) | exact y_eql rfl rfl rfl) ?_
        refine l_q (by first | exact y_pk_bt rfl rfl | exact y_pk_bf rfl rfl) ?_
        refine l_q (by exact y_mv_bool rfl) ?_
        first | refine l_gskip rfl rfl ?_ | refine l_gskip_u rfl rfl ?_ | refine l_gdo rfl rfl (by exact y_mv_int rfl) ?_
        first | refine l_gskip rfl rfl ?_ | refine l_gskip_u rfl rfl ?_ | refine l_gdo rfl rfl (by exact y_mv_int rfl) ?_
        first | refine l_gskip rfl rfl ?_ | refine l_gskip_u rfl rfl ?_ | refine l_gdo rfl rfl (by first | exact y_eql rfl rfl (decide_eq_true (by omega)) | exact y_eql rfl rfl (decide_eq_false (by omega)) | exact y_eql rfl rfl rfl) ?_
        refine l_q (by first | exact y_pk_bt rfl rfl | exact y_pk_bf rfl rfl) ?_
        refine l_q (by exact y_as_bool rfl) ?_
        refine l_end ?_
        refine e_then ?_
        refine s_ret ?_
        exact ret_ [.bool _] rfl ⟨rfl, trivial⟩ ⟨rfl, hs.nil⟩
      · refine s_seq ?_
        refine s_reg ?_
        refine l_q (by exact y_mv_ptr rfl) ?_
        refine l_q (by exact y_mv_int rfl) ?_
        refine l_w (w_call rfl (inside_c n0 hs) rfl (fun _ w h => ?_))
        obtain ⟨⟨sa, sp, rfl, i1, i2, i3, i4⟩, hs⟩ := h
        refine l_q (by exact y_mv_int rfl) ?_
        refine l_w (w_call rfl (outer_c n1 hs) rfl (fun _ w h => ?_))
        obtain ⟨⟨da, dp, rfl, o1, o2, o3, o4⟩, hs⟩ := h
        refine l_q (by exact y_mv_int rfl) ?_
        refine l_w (w_call rfl (flagged_c sa sp da dp (fl8 r) (by omega) (by omega) (by omega) (by omega) k2 (by omega) hs) rfl (fun _ w h => ?_))
        obtain ⟨p, rfl, hI, hs⟩ := h
        refine l_w (w_call rfl (judge_A x p false 0 0 true (decide_eq_true hI.has) (asksE hx hI.chk hI.fits (by decide)) (by rw [hx]; exact match_E _ hI.fits) 2 (by rw [hI.fl]; exact k4.2 hc) rfl (.inr rfl) hs) rfl (fun _ w h => ?_))
        obtain ⟨rfl, eb, cap, esp, hs⟩ := h
        refine l_q (by exact y_mv_tuple rfl) ?_
        refine l_q (by exact y_extract rfl rfl) ?_
        refine l_q (by exact y_extract rfl rfl) ?_
        refine l_q (by exact y_as_bool rfl) ?_
        refine l_q (by exact y_as_int rfl) ?_
        refine l_end ?_
        refine e_then ?_
        refine s_seq ?_
        refine s_reg ?_
        refine l_q (by exact y_mv_ptr rfl) ?_
        refine l_w (w_call rfl (many_1 x 0 0 _ rfl (by decide) (by decide) hs) rfl (fun _ w h => ?_))
        obtain ⟨rfl, hs⟩ := h
        refine l_q (by exact y_mv_tuple rfl) ?_
        refine l_q (by exact y_extract rfl rfl) ?_
        refine l_q (by exact y_extract rfl rfl) ?_
        refine l_q (by exact y_as_int rfl) ?_
        refine l_q (by exact y_as_int rfl) ?_
        refine l_end ?_
        refine e_then ?_
        refine s_seq ?_
        refine s_reg ?_
        refine l_q (by exact y_as_int rfl) ?_
        refine l_end ?_
        refine e_then ?_
        refine s_seq ?_
        refine s_seq ?_
        refine s_reg ?_
        refine l_q (by exact y_mv_int rfl) ?_
        refine l_q (by first | exact y_eql rfl rfl (decide_eq_true (by omega)) | exact y_eql rfl rfl (decide_eq_false (by omega)) | exact y_eql rfl rfl rfl) ?_
        refine l_q (by exact y_mv_bool rfl) ?_
        first | refine l_gskip rfl rfl ?_ | refine l_gskip_u rfl rfl ?_ | refine l_gdo rfl rfl (by exact y_mv_int rfl) ?_
        first | refine l_gskip rfl rfl ?_ | refine l_gskip_u rfl rfl ?_ | refine l_gdo rfl rfl (by first | exact y_eql rfl rfl (decide_eq_true (by omega)) | exact y_eql rfl rfl (decide_eq_false (by omega)) | exact y_eql rfl rfl rfl) ?_
        refine l_q (by first | exact y_pk_bt rfl rfl | exact y_pk_bf rfl rfl) ?_
        refine l_end ?_
        refine e_then ?_
        refine cond_t rfl ?_
        refine s_reg ?_
        refine l_q (by exact y_as_int rfl) ?_
        refine l_end ?_
        refine e_then ?_
        refine s_seq ?_
        refine s_reg ?_
        refine l_q (by exact y_mv_bool rfl) ?_
        refine l_q (by exact y_mv_bool rfl) ?_
        first | refine l_gskip rfl rfl ?_ | refine l_gskip_u rfl rfl ?_ | refine l_gdo rfl rfl (by exact y_mv_int rfl) ?_
        first | refine l_gskip rfl rfl ?_ | refine l_gskip_u rfl rfl ?_ | refine l_gdo rfl rfl (by first | exact y_eql rfl rfl (decide_eq_true (by omega)) | exact y_eql rfl rfl (decide_eq_false (by omega)) | exact y_eql rfl rfl rfl) ?_
        refine l_q (by first | exact y_pk_bt rfl rfl | exact y_pk_bf rfl rfl) ?_
        refine l_q (by exact y_mv_bool rfl) ?_
        first | refine l_gskip rfl rfl ?_ | refine l_gskip_u rfl rfl ?_ | refine l_gdo rfl rfl (by exact y_mv_int rfl) ?_
        first | refine l_gskip rfl rfl ?_ | refine l_gskip_u rfl rfl ?_ | refine l_gdo rfl rfl (by first | exact y_eql rfl rfl (decide_eq_true (by omega)) | exact y_eql rfl rfl (decide_eq_false (by omega)) | exact y_eql rfl rfl rfl) ?_
        refine l_q (by first | exact y_pk_bt rfl rfl | exact y_pk_bf rfl rfl) ?_
        refine l_q (by exact y_mv_bool rfl) ?_
        first | refine l_gskip rfl rfl ?_ | refine l_gskip_u rfl rfl ?_ | refine l_gdo rfl rfl (by exact y_mv_int rfl) ?_
        first | refine l_gskip rfl rfl ?_ | refine l_gskip_u rfl rfl ?_ | refine l_gdo rfl rfl (by exact y_mv_int rfl) ?_
        first | refine l_gskip rfl rfl ?_ | refine l_gskip_u rfl rfl ?_ | refine l_gdo rfl rfl (by first | exact y_eql rfl rfl (decide_eq_true (by omega)) | exact y_eql rfl rfl (decide_eq_false (by omega)) | exact y_eql rfl rfl rfl) ?_
        refine l_q (by first | exact y_pk_bt rfl rfl | exact y_pk_bf rfl rfl) ?_
        refine l_q (by exact y_as_bool rfl) ?_
        refine l_end ?_
        refine e_then ?_
        refine s_ret ?_
        exact ret_ [.bool _] rfl ⟨rfl, trivial⟩ ⟨rfl, hs.nil⟩
    · refine s_seq ?_
      refine s_reg ?_
      refine l_q (by exact y_mv_ptr rfl) ?_
      refine l_q (by exact y_mv_int rfl) ?_
      refine l_w (w_call rfl (inside_c n0 hs) rfl (fun _ w h => ?_))
      obtain ⟨⟨sa, sp, rfl, i1, i2, i3, i4⟩, hs⟩ := h
      refine l_q (by exact y_mv_int rfl) ?_
      refine l_w (w_call rfl (outer_c n1 hs) rfl (fun _ w h => ?_))
      obtain ⟨⟨da, dp, rfl, o1, o2, o3, o4⟩, hs⟩ := h
      refine l_q (by exact y_mv_int rfl) ?_
      refine l_w (w_call rfl (flagged_c sa sp da dp (fl8 r) (by omega) (by omega) (by omega) (by omega) k2 (by omega) hs) rfl (fun _ w h => ?_))
      obtain ⟨p, rfl, hI, hs⟩ := h
      refine l_w (w_call rfl (judge_Q x p false 0 0 true (decide_eq_true hI.has) (asksE hx hI.chk hI.fits (by decide)) (by rw [hx]; exact match_E _ hI.fits) (flagF p &&& 22) rfl rfl hI.pr (by rw [hI.fl]; exact fun h => hc (k4.1 h)) hs) rfl (fun _ w h => ?_))
      obtain ⟨rfl, hs⟩ := h
      refine l_q (by exact y_mv_tuple rfl) ?_
      refine l_q (by exact y_extract rfl rfl) ?_
      refine l_q (by exact y_extract rfl rfl) ?_
      refine l_q (by exact y_as_bool rfl) ?_
      refine l_q (by exact y_as_int rfl) ?_
      refine l_end ?_
      refine e_then ?_
      refine s_seq ?_
      refine s_reg ?_
      refine l_q (by exact y_mv_ptr rfl) ?_
      refine l_w (w_call rfl (many_0 x 0 0 (by decide) (by decide) hs) rfl (fun _ w h => ?_))
      obtain ⟨rfl, hs⟩ := h
      refine l_q (by exact y_mv_tuple rfl) ?_
      refine l_q (by exact y_extract rfl rfl) ?_
      refine l_q (by exact y_extract rfl rfl) ?_
      refine l_q (by exact y_as_int rfl) ?_
      refine l_q (by exact y_as_int rfl) ?_
      refine l_end ?_
      refine e_then ?_
      refine s_seq ?_
      refine s_reg ?_
      refine l_q (by exact y_as_int rfl) ?_
      refine l_end ?_
      refine e_then ?_
      refine s_seq ?_
      refine s_seq ?_
      refine s_reg ?_
      refine l_q (by exact y_mv_int rfl) ?_
      refine l_q (by first | exact y_eql rfl rfl (decide_eq_true (by omega)) | exact y_eql rfl rfl (decide_eq_false (by omega)) | exact y_eql rfl rfl rfl) ?_
      refine l_q (by exact y_mv_bool rfl) ?_
      first | refine l_gskip rfl rfl ?_ | refine l_gskip_u rfl rfl ?_ | refine l_gdo rfl rfl (by exact y_mv_int rfl) ?_
      first | refine l_gskip rfl rfl ?_ | refine l_gskip_u rfl rfl ?_ | refine l_gdo rfl rfl (by first | exact y_eql rfl rfl (decide_eq_true (by omega)) | exact y_eql rfl rfl (decide_eq_false (by omega)) | exact y_eql rfl rfl rfl) ?_
      refine l_q (by first | exact y_pk_bt rfl rfl | exact y_pk_bf rfl rfl) ?_
      refine l_end ?_
      refine e_then ?_
      refine cond_f rfl ?_
      refine s_skip ?_
      refine e_then ?_
      refine s_seq ?_
      refine s_reg ?_
      refine l_q (by exact y_mv_bool rfl) ?_
      refine l_q (by exact y_mv_bool rfl) ?_
      first | refine l_gskip rfl rfl ?_ | refine l_gskip_u rfl rfl ?_ | refine l_gdo rfl rfl (by exact y_mv_int rfl) ?_
      first | refine l_gskip rfl rfl ?_ | refine l_gskip_u rfl rfl ?_ | refine l_gdo rfl rfl (by first | exact y_eql rfl rfl (decide_eq_true (by omega)) | exact y_eql rfl rfl (decide_eq_false (by omega)) | exact y_eql rfl rfl rfl) ?_
      refine l_q (by first | exact y_pk_bt rfl rfl | exact y_pk_bf rfl rfl) ?_
      refine l_q (by exact y_mv_bool rfl) ?_
      first | refine l_gskip rfl rfl ?_ | refine l_gskip_u rfl rfl ?_ | refine l_gdo rfl rfl (by exact y_mv_int rfl) ?_
      first | refine l_gskip rfl rfl ?_ | refine l_gskip_u rfl rfl ?_ | refine l_gdo rfl rfl (by first | exact y_eql rfl rfl (decide_eq_true (by omega)) | exact y_eql rfl rfl (decide_eq_false (by omega)) | exact y_eql rfl rfl rfl) ?_
      refine l_q (by first | exact y_pk_bt rfl rfl | exact y_pk_bf rfl rfl) ?_
      refine l_q (by exact y_mv_bool rfl) ?_
      first | refine l_gskip rfl rfl ?_ | refine l_gskip_u rfl rfl ?_ | refine l_gdo rfl rfl (by exact y_mv_int rfl) ?_
      first | refine l_gskip rfl rfl ?_ | refine l_gskip_u rfl rfl ?_ | refine l_gdo rfl rfl (by exact y_mv_int rfl) ?_
      first | refine l_gskip rfl rfl ?_ | refine l_gskip_u rfl rfl ?_ | refine l_gdo rfl rfl (by first | exact y_eql rfl rfl (decide_eq_true (by omega)) | exact y_eql rfl rfl (decide_eq_false (by omega)) | exact y_eql rfl rfl rfl) ?_
      refine l_q (by first | exact y_pk_bt rfl rfl | exact y_pk_bf rfl rfl) ?_
      refine l_q (by exact y_as_bool rfl) ?_
      refine l_end ?_
      refine e_then ?_
      refine s_ret ?_
      exact ret_ [.bool _] rfl ⟨rfl, trivial⟩ ⟨rfl, hs.nil⟩
end Go.Proofs.Ytagdgalnaobpeaa
