/- Facts on the functions and types of this seat that its laws are proved from: contracts under the premises that each theorem names. -/
import Derived.Test.YtagdgalnaobpeaaTg
set_option linter.unusedSimpArgs false
set_option linter.unusedVariables false
set_option linter.unnecessarySimpa false
namespace Go.Proofs.Ytagdgalnaobpeaa
open Go Go.RowKit PB
set_option linter.unusedVariables false
set_option linter.unusedSimpArgs false

/-- A connection. -/
structure Ent where
  pr : Int
  aa : Nat
  ap : Nat
  ba : Nat
  bp : Nat
  inw : Bool
  f0 : Bool
  f1 : Bool
  til : Int
abbrev Ent.cells (e : Ent) : List Value := [I64 e.pr, U32 e.aa, I64 e.ap, U32 e.ba, I64 e.bp, .bool e.inw, .bool e.f0, .bool e.f1, I64 e.til]

/-- Where a wall lies. -/
structure Wl where
  wb : Nat
  g : Nat
  rc : Nat
  sp : List Value
  r : RuleV
/-- A wall without connections, and with one. -/
abbrev Wl.w0 (x : Wl) (now : Int) (L : List (Nat × MObj)) : List (Nat × MObj) := (x.wb, .cells [.slice (some ⟨x.g, 0, none⟩) 1 x.rc, .slice none 0 0, I64 now] 57) :: (x.g, .cells (flatR [x.r] ++ x.sp) 30) :: L
abbrev Wl.w1 (x : Wl) (now : Int) (eb cap : Nat) (esp : List Value) (e : Ent) (L : List (Nat × MObj)) : List (Nat × MObj) := (x.wb, .cells [.slice (some ⟨x.g, 0, none⟩) 1 x.rc, .slice (some ⟨eb, 0, none⟩) 1 cap, I64 now] 57) :: (eb, .cells (e.cells ++ esp) 70) :: (x.g, .cells (flatR [x.r] ++ x.sp) 30) :: L
abbrev Wl.ptr (x : Wl) : Value := .pointer (some ⟨x.wb, 0, none⟩)

theorem new_c {W0 w : World} {L : List (Nat × MObj)} {b c : Nat} (r : RuleV) (hf : r.fits) (hc : lChk [r] = 0) (hs : St W0 w ((b, .cells (flatR [r]) 30) :: L)) :
    FnC Try.prog 7 [.slice (some ⟨b, 0, none⟩) 1 c] w (fun v w' => ∃ x : Wl, v = .tuple #[x.ptr, I64 0] ∧ x.r = r ∧ St W0 w' (x.w0 0 L)) := by
  refine FnC.enter Try.func7 rfl Try.ntmps7 rfl fun ρ => ?_
  refine s_seq ?_
  refine s_reg ?_
  refine l_q (by exact y_as_ptr rfl) ?_
  refine l_q (by exact y_as_int rfl) ?_
  refine l_end ?_
  refine e_then ?_
  refine s_seq ?_
  refine s_seq ?_
  refine s_reg ?_
  refine l_q (by exact y_mv_slice rfl) ?_
  refine l_w (w_call rfl (rcheck_v [r] c hc (rdR_mem (b := b) (sp := []) (e := 30) (by simp)) (fits1 hf) (by simp) hs) rfl (fun _ w h => ?_))
  obtain ⟨rfl, hs⟩ := h
  refine l_q (by exact y_as_int rfl) ?_
  refine l_end ?_
  refine e_then ?_
  refine s_seq ?_
  refine s_reg ?_
  refine l_q (by exact y_mv_int rfl) ?_
  refine l_q (by first | exact y_neq rfl rfl (decide_eq_true (by omega)) | exact y_neq rfl rfl (decide_eq_false (by omega)) | exact y_neq rfl rfl rfl) ?_
  refine l_end ?_
  refine e_then ?_
  refine cond_f rfl ?_
  refine s_skip ?_
  refine e_then ?_
  refine s_seq ?_
  refine s_reg ?_
  refine l_q (by exact y_mv_slice rfl) ?_
  refine l_w (w_call rfl (clone_c [r] (by simp) hs) rfl (fun _ w h => ?_))
  obtain ⟨g, rc, sp, rfl, hs⟩ := h
  refine l_q (by exact y_build (pv := [(0, .slice _ _ _)]) (vs := [_, _, _]) rfl rfl) ?_
  refine l_w (w_boxA (vs := [_, _, _]) hs rfl (fun b13 w hs hb13 => ?_))
  refine l_q (by exact y_as_ptr rfl) ?_
  refine l_q (by exact y_as_int rfl) ?_
  refine l_end ?_
  refine e_then ?_
  refine s_ret ?_
  exact ret_ [.pointer _, .int .i64 _] rfl ⟨rfl, rfl, trivial⟩ ⟨⟨b13, g, rc, sp, r⟩, rfl, rfl, hs⟩

theorem badTime_c (n : Int) (h : 0 ≤ n ∧ n ≤ 1000000000) (w : World) : FnC Try.prog 20 [I64 n] w (fun v w' => v = .bool false ∧ w' = w) := by
  refine FnC.enter Try.func20 rfl Try.ntmps20 rfl fun ρ => ?_
  refine s_seq ?_
  refine s_reg ?_
  refine l_q (by exact y_as_bool rfl) ?_
  refine l_end ?_
  refine e_then ?_
  refine s_seq ?_
  refine s_reg ?_
  refine l_q (by exact y_mv_int rfl) ?_
  refine l_q (by first | exact y_lss rfl rfl (decide_eq_true (by omega)) | exact y_lss rfl rfl (decide_eq_false (by omega)) | exact y_lss rfl rfl rfl) ?_
  refine l_q (by exact y_mv_bool rfl) ?_
  first | refine l_gskip rfl rfl ?_ | refine l_gskip_u rfl rfl ?_ | refine l_gdo rfl rfl (by exact y_mv_int rfl) ?_
  first | refine l_gskip rfl rfl ?_ | refine l_gskip_u rfl rfl ?_ | refine l_gdo rfl rfl (by first | exact y_gtr rfl rfl (decide_eq_true (by omega)) | exact y_gtr rfl rfl (decide_eq_false (by omega)) | exact y_gtr rfl rfl rfl) ?_
  refine l_q (by first | exact y_pk_bt rfl rfl | exact y_pk_bf rfl rfl) ?_
  refine l_q (by exact y_as_bool rfl) ?_
  refine l_end ?_
  refine e_then ?_
  refine s_ret ?_
  exact ret_ [.bool _] rfl ⟨rfl, trivial⟩ ⟨rfl, rfl⟩

theorem flags_c {W0 w : World} {L : List (Nat × MObj)} (p : PktV) (hf : p.fits) (hs : St W0 w L) :
    FnC Try.prog 26 [.agg p.cells.toArray] w (fun v w' => v = I64 (flagF p : Nat) ∧ St W0 w' L) := by
  have hlen := hf.len
  refine FnC.enter Try.func26 rfl Try.ntmps26 rfl fun ρ => ?_
  by_cases c : p.proto = 6
  · by_cases c2 : 12 < p.body.size
    · refine s_seq ?_
      refine s_reg ?_
      refine l_w (w_boxA (vs := [_, _, _, _, _, _, _, _, _]) hs rfl (fun b1 w hs hb1 => ?_))
      refine l_q (by exact y_as_int rfl) ?_
      refine l_end ?_
      refine e_then ?_
      refine s_seq ?_
      refine s_seq ?_
      refine s_reg ?_
      refine l_q (by exact y_field rfl) ?_
      refine l_q (by exact y_ld hs rfl rfl) ?_
      refine l_q (by first | exact y_neq rfl rfl (decide_eq_true (by omega)) | exact y_neq rfl rfl (decide_eq_false (by omega)) | exact y_neq rfl rfl rfl) ?_
      refine l_q (by exact y_mv_bool rfl) ?_
      first | refine l_gskip rfl rfl ?_ | refine l_gskip_u rfl rfl ?_ | refine l_gdo rfl rfl (by exact y_field rfl) ?_
      first | refine l_gskip rfl rfl ?_ | refine l_gskip_u rfl rfl ?_ | refine l_gdo rfl rfl (by exact y_ld hs rfl rfl) ?_
      first | refine l_gskip rfl rfl ?_ | refine l_gskip_u rfl rfl ?_ | refine l_gdo rfl rfl (by exact y_len_str rfl) ?_
      first | refine l_gskip rfl rfl ?_ | refine l_gskip_u rfl rfl ?_ | refine l_gdo rfl rfl (by first | exact y_leq rfl rfl (decide_eq_true (by omega)) | exact y_leq rfl rfl (decide_eq_false (by omega)) | exact y_leq rfl rfl rfl) ?_
      refine l_q (by first | exact y_pk_bt rfl rfl | exact y_pk_bf rfl rfl) ?_
      refine l_end ?_
      refine e_then ?_
      refine cond_f rfl ?_
      refine s_skip ?_
      refine e_then ?_
      refine s_seq ?_
      refine s_reg ?_
      refine l_q (by exact y_field rfl) ?_
      refine l_q (by exact y_ld hs rfl rfl) ?_
      refine l_q (by exact y_toInt (b := ((byteF p.body 12 : Nat) : Int)) (y_idx_str (s := p.body) (j := 12) rfl rfl (by decide) (show (12 : Int).toNat < p.body.size from (show 12 < p.body.size by omega))) (byteF_at _)) ?_
      refine l_q (by exact y_toInt (b := ((byteF p.body 12 : Nat) : Int)) (y_conv_int rfl rfl) (by rw [IntKind.wrap_i64]; have := byteF_lt p.body 12; omega)) ?_
      refine l_q (by exact y_as_int rfl) ?_
      refine l_end ?_
      refine e_then ?_
      refine s_ret ?_
      exact ret_ [.int .i64 _] rfl ⟨rfl, trivial⟩ ⟨by rw [flagF, if_pos ⟨c, c2⟩]; rfl, hs.tail⟩
    · refine s_seq ?_
      refine s_reg ?_
      refine l_w (w_boxA (vs := [_, _, _, _, _, _, _, _, _]) hs rfl (fun b1 w hs hb1 => ?_))
      refine l_q (by exact y_as_int rfl) ?_
      refine l_end ?_
      refine e_then ?_
      refine s_seq ?_
      refine s_seq ?_
      refine s_reg ?_
      refine l_q (by exact y_field rfl) ?_
      refine l_q (by exact y_ld hs rfl rfl) ?_
      refine l_q (by first | exact y_neq rfl rfl (decide_eq_true (by omega)) | exact y_neq rfl rfl (decide_eq_false (by omega)) | exact y_neq rfl rfl rfl) ?_
      refine l_q (by exact y_mv_bool rfl) ?_
      first | refine l_gskip rfl rfl ?_ | refine l_gskip_u rfl rfl ?_ | refine l_gdo rfl rfl (by exact y_field rfl) ?_
      first | refine l_gskip rfl rfl ?_ | refine l_gskip_u rfl rfl ?_ | refine l_gdo rfl rfl (by exact y_ld hs rfl rfl) ?_
      first | refine l_gskip rfl rfl ?_ | refine l_gskip_u rfl rfl ?_ | refine l_gdo rfl rfl (by exact y_len_str rfl) ?_
      first | refine l_gskip rfl rfl ?_ | refine l_gskip_u rfl rfl ?_ | refine l_gdo rfl rfl (by first | exact y_leq rfl rfl (decide_eq_true (by omega)) | exact y_leq rfl rfl (decide_eq_false (by omega)) | exact y_leq rfl rfl rfl) ?_
      refine l_q (by first | exact y_pk_bt rfl rfl | exact y_pk_bf rfl rfl) ?_
      refine l_end ?_
      refine e_then ?_
      refine cond_t rfl ?_
      refine s_seq ?_
      refine s_reg ?_
      refine l_q (by exact y_as_int rfl) ?_
      refine l_end ?_
      refine e_then ?_
      refine s_ret ?_
      refine e_then_r ?_
      exact ret_ [.int .i64 _] rfl ⟨rfl, trivial⟩ ⟨by rw [flagF, if_neg (fun h => c2 h.2)]; rfl, hs.tail⟩
  · refine s_seq ?_
    refine s_reg ?_
    refine l_w (w_boxA (vs := [_, _, _, _, _, _, _, _, _]) hs rfl (fun b1 w hs hb1 => ?_))
    refine l_q (by exact y_as_int rfl) ?_
    refine l_end ?_
    refine e_then ?_
    refine s_seq ?_
    refine s_seq ?_
    refine s_reg ?_
    refine l_q (by exact y_field rfl) ?_
    refine l_q (by exact y_ld hs rfl rfl) ?_
    refine l_q (by first | exact y_neq rfl rfl (decide_eq_true (by omega)) | exact y_neq rfl rfl (decide_eq_false (by omega)) | exact y_neq rfl rfl rfl) ?_
    refine l_q (by exact y_mv_bool rfl) ?_
    first | refine l_gskip rfl rfl ?_ | refine l_gskip_u rfl rfl ?_ | refine l_gdo rfl rfl (by exact y_field rfl) ?_
    first | refine l_gskip rfl rfl ?_ | refine l_gskip_u rfl rfl ?_ | refine l_gdo rfl rfl (by exact y_ld hs rfl rfl) ?_
    first | refine l_gskip rfl rfl ?_ | refine l_gskip_u rfl rfl ?_ | refine l_gdo rfl rfl (by exact y_len_str rfl) ?_
    first | refine l_gskip rfl rfl ?_ | refine l_gskip_u rfl rfl ?_ | refine l_gdo rfl rfl (by first | exact y_leq rfl rfl (decide_eq_true (by omega)) | exact y_leq rfl rfl (decide_eq_false (by omega)) | exact y_leq rfl rfl rfl) ?_
    refine l_q (by first | exact y_pk_bt rfl rfl | exact y_pk_bf rfl rfl) ?_
    refine l_end ?_
    refine e_then ?_
    refine cond_t rfl ?_
    refine s_seq ?_
    refine s_reg ?_
    refine l_q (by exact y_as_int rfl) ?_
    refine l_end ?_
    refine e_then ?_
    refine s_ret ?_
    refine e_then_r ?_
    exact ret_ [.int .i64 _] rfl ⟨rfl, trivial⟩ ⟨by rw [flagF, if_neg (fun h => c h.1)]; rfl, hs.tail⟩

/-! ### pass -/
theorem over_c {W0 w : World} {L : List (Nat × MObj)} {tb : Nat} (e : Ent) (now : Int) (ov : Bool) (ho : decide (e.til ≤ now) = ov) [hi : InL tb (.cells [I64 now] 3) L] (hs : St W0 w L) :
    FnC Try.prog 34 [.agg e.cells.toArray, .pointer (some ⟨tb, 0, none⟩)] w (fun v w' => v = .bool ov ∧ St W0 w' L) := by
  subst ho
  refine FnC.enter Try.func34 rfl Try.ntmps34 rfl fun ρ => ?_
  by_cases c : e.til ≤ now
  · refine s_seq ?_
    refine s_reg ?_
    refine l_w (w_boxA (vs := e.cells) hs rfl (fun b2 w hs hb2 => ?_))
    refine l_q (by exact y_as_bool rfl) ?_
    refine l_end ?_
    refine e_then ?_
    refine s_seq ?_
    refine s_reg ?_
    refine l_q (by exact y_field rfl) ?_
    refine l_q (by exact y_ld hs rfl rfl) ?_
    refine l_q (by exact y_ld hs rfl rfl) ?_
    refine l_q (by first | exact y_leq rfl rfl (decide_eq_true (by omega)) | exact y_leq rfl rfl (decide_eq_false (by omega)) | exact y_leq rfl rfl rfl) ?_
    refine l_q (by exact y_as_bool rfl) ?_
    refine l_end ?_
    refine e_then ?_
    refine s_ret ?_
    exact ret_ [.bool _] rfl ⟨rfl, trivial⟩ ⟨by rw [decide_eq_true c]; rfl, hs.tail⟩
  · refine s_seq ?_
    refine s_reg ?_
    refine l_w (w_boxA (vs := e.cells) hs rfl (fun b2 w hs hb2 => ?_))
    refine l_q (by exact y_as_bool rfl) ?_
    refine l_end ?_
    refine e_then ?_
    refine s_seq ?_
    refine s_reg ?_
    refine l_q (by exact y_field rfl) ?_
    refine l_q (by exact y_ld hs rfl rfl) ?_
    refine l_q (by exact y_ld hs rfl rfl) ?_
    refine l_q (by first | exact y_leq rfl rfl (decide_eq_true (by omega)) | exact y_leq rfl rfl (decide_eq_false (by omega)) | exact y_leq rfl rfl rfl) ?_
    refine l_q (by exact y_as_bool rfl) ?_
    refine l_end ?_
    refine e_then ?_
    refine s_ret ?_
    exact ret_ [.bool _] rfl ⟨rfl, trivial⟩ ⟨by rw [decide_eq_false c]; rfl, hs.tail⟩
end Go.Proofs.Ytagdgalnaobpeaa
