/- Facts on the functions and types of this seat that its laws are proved from: contracts under the premises that each theorem names. -/
import Derived.Test.YtagdgalnaobpeaaTb
set_option linter.unusedSimpArgs false
set_option linter.unusedVariables false
set_option linter.unnecessarySimpa false
namespace Go.Proofs.Ytagdgalnaobpeaa
open Go Go.RowKit PB
set_option linter.unusedVariables false
set_option linter.unusedSimpArgs false

theorem segin_c (n : Nat) (h : n ≤ 65535) (w : World) : FnC Try.prog 45 [I64 n, I64 0, I64 65535] w (fun v w' => v = .bool true ∧ w' = w) := by
  refine FnC.enter Try.func45 rfl Try.ntmps45 rfl fun ρ => ?_
  refine s_seq ?_
  refine s_reg ?_
  refine l_q (by exact y_as_bool rfl) ?_
  refine l_end ?_
  refine e_then ?_
  refine s_seq ?_
  refine s_reg ?_
  refine l_q (by exact y_mv_int rfl) ?_
  refine l_q (by exact y_mv_int rfl) ?_
  refine l_q (by first | exact y_geq rfl rfl (decide_eq_true (by omega)) | exact y_geq rfl rfl (decide_eq_false (by omega)) | exact y_geq rfl rfl rfl) ?_
  refine l_q (by exact y_mv_bool rfl) ?_
  first | refine l_gskip rfl rfl ?_ | refine l_gskip_u rfl rfl ?_ | refine l_gdo rfl rfl (by exact y_mv_int rfl) ?_
  first | refine l_gskip rfl rfl ?_ | refine l_gskip_u rfl rfl ?_ | refine l_gdo rfl rfl (by exact y_mv_int rfl) ?_
  first | refine l_gskip rfl rfl ?_ | refine l_gskip_u rfl rfl ?_ | refine l_gdo rfl rfl (by first | exact y_leq rfl rfl (decide_eq_true (by omega)) | exact y_leq rfl rfl (decide_eq_false (by omega)) | exact y_leq rfl rfl rfl) ?_
  refine l_q (by first | exact y_pk_bt rfl rfl | exact y_pk_bf rfl rfl) ?_
  refine l_q (by exact y_as_bool rfl) ?_
  refine l_end ?_
  refine e_then ?_
  refine s_ret ?_
  exact ret_ [.bool _] rfl ⟨rfl, trivial⟩ ⟨rfl, rfl⟩

/-- Flags that a segment can have. -/
def FlagOk (f : Nat) : Prop := IntKind.i64.wrap ((BitVec.ofInt IntKind.i64.bits (f : Int) &&& ~~~ BitVec.ofInt IntKind.i64.bits 23).toNat : Int) = 0
abbrev segV (src dst flags : Nat) (body : ByteArray) : List Value := [I64 src, I64 dst, U32 0, U32 0, I64 flags, I64 0, .slice none 0 0, .string body]

theorem segcheck_c {W0 w : World} {L : List (Nat × MObj)} (src dst flags : Nat) (body : ByteArray) (h1 : src ≤ 65535) (h2 : dst ≤ 65535) (h3 : FlagOk flags) (h4 : body.size ≤ 1024) (hs : St W0 w L) :
    FnC Try.prog 36 [.agg (segV src dst flags body).toArray] w (fun v w' => v = I64 0 ∧ St W0 w' L) := by
  refine FnC.enter Try.func36 rfl Try.ntmps36 rfl fun ρ => ?_
  refine s_seq ?_
  refine s_reg ?_
  refine l_w (w_boxA (vs := [_, _, _, _, _, _, _, _]) hs rfl (fun b1 w hs hb1 => ?_))
  refine l_q (by exact y_as_int rfl) ?_
  refine l_end ?_
  refine e_then ?_
  refine s_seq ?_
  refine s_seq ?_
  refine s_reg ?_
  refine l_q (by exact y_field rfl) ?_
  refine l_q (by exact y_ld hs rfl rfl) ?_
  refine l_w (w_call rfl (segin_c src h1 w) rfl (fun _ w h => ?_))
  obtain ⟨rfl, rfl⟩ := h
  refine l_q (by first | exact y_not_t rfl | exact y_not_f rfl | exact y_notd rfl) ?_
  refine l_q (by exact y_mv_bool rfl) ?_
  first | refine l_gskip rfl rfl ?_ | refine l_gskip_u rfl rfl ?_ | refine l_gdo rfl rfl (by exact y_field rfl) ?_
  first | refine l_gskip rfl rfl ?_ | refine l_gskip_u rfl rfl ?_ | refine l_gdo rfl rfl (by exact y_ld hs rfl rfl) ?_
  first | refine l_gskip rfl rfl ?_ | refine l_gskip_u rfl rfl ?_ | (refine l_gw rfl rfl (w_call rfl (segin_c dst h2 w) rfl (fun _ w h => ?_)); obtain ⟨rfl, rfl⟩ := h)
  first | refine l_gskip rfl rfl ?_ | refine l_gskip_u rfl rfl ?_ | refine l_gdo rfl rfl (by first | exact y_not_t rfl | exact y_not_f rfl | exact y_notd rfl) ?_
  refine l_q (by first | exact y_pk_bt rfl rfl | exact y_pk_bf rfl rfl) ?_
  refine l_q (by exact y_mv_bool rfl) ?_
  first | refine l_gskip rfl rfl ?_ | refine l_gskip_u rfl rfl ?_ | refine l_gdo rfl rfl (by exact y_field rfl) ?_
  first | refine l_gskip rfl rfl ?_ | refine l_gskip_u rfl rfl ?_ | refine l_gdo rfl rfl (by exact y_ld hs rfl rfl) ?_
  first | refine l_gskip rfl rfl ?_ | refine l_gskip_u rfl rfl ?_ | refine l_gdo rfl rfl (by exact y_toInt (b := 0) (y_andnotk rfl rfl rfl) h3) ?_
  first | refine l_gskip rfl rfl ?_ | refine l_gskip_u rfl rfl ?_ | refine l_gdo rfl rfl (by first | exact y_neq rfl rfl (decide_eq_true (by omega)) | exact y_neq rfl rfl (decide_eq_false (by omega)) | exact y_neq rfl rfl rfl) ?_
  refine l_q (by first | exact y_pk_bt rfl rfl | exact y_pk_bf rfl rfl) ?_
  refine l_q (by exact y_mv_bool rfl) ?_
  first | refine l_gskip rfl rfl ?_ | refine l_gskip_u rfl rfl ?_ | refine l_gdo rfl rfl (by exact y_field rfl) ?_
  first | refine l_gskip rfl rfl ?_ | refine l_gskip_u rfl rfl ?_ | refine l_gdo rfl rfl (by exact y_ld hs rfl rfl) ?_
  first | refine l_gskip rfl rfl ?_ | refine l_gskip_u rfl rfl ?_ | (refine l_gw rfl rfl (w_call rfl (segin_c 0 (by decide) w) rfl (fun _ w h => ?_)); obtain ⟨rfl, rfl⟩ := h)
  first | refine l_gskip rfl rfl ?_ | refine l_gskip_u rfl rfl ?_ | refine l_gdo rfl rfl (by first | exact y_not_t rfl | exact y_not_f rfl | exact y_notd rfl) ?_
  refine l_q (by first | exact y_pk_bt rfl rfl | exact y_pk_bf rfl rfl) ?_
  refine l_end ?_
  refine e_then ?_
  refine cond_f rfl ?_
  refine s_skip ?_
  refine e_then ?_
  refine s_seq ?_
  refine s_seq ?_
  refine s_reg ?_
  refine l_q (by exact y_field rfl) ?_
  refine l_q (by exact y_ld hs rfl rfl) ?_
  refine l_q (by exact y_len_slice rfl) ?_
  refine l_q (by first | exact y_gtr rfl rfl (decide_eq_true (by omega)) | exact y_gtr rfl rfl (decide_eq_false (by omega)) | exact y_gtr rfl rfl rfl) ?_
  refine l_q (by exact y_mv_bool rfl) ?_
  first | refine l_gskip rfl rfl ?_ | refine l_gskip_u rfl rfl ?_ | refine l_gdo rfl rfl (by exact y_field rfl) ?_
  first | refine l_gskip rfl rfl ?_ | refine l_gskip_u rfl rfl ?_ | refine l_gdo rfl rfl (by exact y_ld hs rfl rfl) ?_
  first | refine l_gskip rfl rfl ?_ | refine l_gskip_u rfl rfl ?_ | refine l_gdo rfl rfl (by exact y_len_str rfl) ?_
  first | refine l_gskip rfl rfl ?_ | refine l_gskip_u rfl rfl ?_ | refine l_gdo rfl rfl (by first | exact y_gtr rfl rfl (decide_eq_true (by omega)) | exact y_gtr rfl rfl (decide_eq_false (by omega)) | exact y_gtr rfl rfl rfl) ?_
  refine l_q (by first | exact y_pk_bt rfl rfl | exact y_pk_bf rfl rfl) ?_
  refine l_end ?_
  refine e_then ?_
  refine cond_f rfl ?_
  refine s_skip ?_
  refine e_then ?_
  refine s_seq ?_
  refine s_seq ?_
  refine s_reg ?_
  refine l_q (by exact y_field rfl) ?_
  refine l_q (by exact y_ld hs rfl rfl) ?_
  refine l_q (by exact y_len_slice rfl) ?_
  refine l_q (by exact y_mv_int rfl) ?_
  refine l_end ?_
  refine e_then ?_
  refine s_block ?_
  refine loop_st (X := Unit) (fun _ => [(39, I64 0), (40, I64 0)]) (fun _ w' => w' = w) (fun _ => 0) () ⟨rfl, rfl, trivial⟩ rfl ?_
  rintro _ ρ w' rfl
  refine s_seq ?_
  refine s_reg ?_
  refine l_q (by first | exact y_lss rfl rfl (decide_eq_true (by omega)) | exact y_lss rfl rfl (decide_eq_false (by omega)) | exact y_lss rfl rfl rfl) ?_
  refine l_end ?_
  refine e_then ?_
  refine s_seq ?_
  refine cond_f rfl ?_
  refine s_exit ?_
  refine e_then_x ?_
  refine e_then_x ?_
  refine e_blk_x ?_
  refine e_then ?_
  refine s_seq ?_
  refine s_reg ?_
  refine l_q (by exact y_as_int rfl) ?_
  refine l_end ?_
  refine e_then ?_
  refine s_ret ?_
  exact ret_ [.int .i64 _] rfl ⟨rfl, trivial⟩ ⟨rfl, hs.tail⟩

/-! ### bytes -/
def segB (src dst flags : Nat) (body : ByteArray) : List Nat := twoB src ++ twoB dst ++ fourB 0 ++ fourB 0 ++ [flags % 256, 0] ++ twoB 0 ++ [0, 0] ++ bytesOf body
theorem segbytes_c {W0 w : World} {L : List (Nat × MObj)} (src dst flags : Nat) (body : ByteArray) (h4 : body.size ≤ 1024) (hs : St W0 w L) :
    FnC Try.prog 37 [.agg (segV src dst flags body).toArray] w (fun v w' => ∃ g cap sp, v = .slice (some ⟨g, 0, none⟩) (18 + body.size) cap ∧ St W0 w' ((g, .cells (BL (segB src dst flags body) ++ sp) 5) :: L)) := by
  refine FnC.enter Try.func37 rfl Try.ntmps37 rfl fun ρ => ?_
  refine s_seq ?_
  refine s_reg ?_
  refine l_w (w_boxA (vs := [_, _, _, _, _, _, _, _]) hs rfl (fun b1 w hs hb1 => ?_))
  refine l_q (by exact y_as_slice rfl) ?_
  refine l_end ?_
  refine e_then ?_
  refine s_seq ?_
  refine r_draw (.q 0 (.q 1 (.q 3 (.q 4 (.w 2 (.w 5 (.w 6 (.q 7 (.nil))))))))) 7 (fun w => St W0 w ((b1, .cells (segV src dst flags body) 75) :: L)) mixed (by kernel_rfl) ?_
  have hs := hs.drew
  refine c_q rfl (by first | exact hs | exact hs.subl | exact hs.cellAt rfl | trivial) (fun _ _ _ h => h) (fun w hs => by exact y_field rfl) ?_
  refine c_q rfl (by first | exact hs | exact hs.subl | exact hs.cellAt rfl | trivial) (fun _ _ _ h => h) (fun w hs => by exact y_ld hs rfl rfl) ?_
  refine c_q rfl (by first | exact hs | exact hs.subl | exact hs.cellAt rfl | trivial) (fun _ _ _ h => h) (fun w hs => by exact y_field rfl) ?_
  refine c_q rfl (by first | exact hs | exact hs.subl | exact hs.cellAt rfl | trivial) (fun _ _ _ h => h) (fun w hs => by exact y_ld hs rfl rfl) ?_
  refine c_w rfl (w_call rfl (two_c src hs) rfl (fun _ w h => ?_))
  obtain ⟨b8, rfl, hs⟩ := h
  refine ⟨fun _ => by first | exact hs | exact hs.subl | exact hs.cellAt rfl | trivial, ?_⟩
  refine c_w rfl (w_call rfl (two_c dst hs) rfl (fun _ w h => ?_))
  obtain ⟨b11, rfl, hs⟩ := h
  refine ⟨fun _ => by first | exact hs | exact hs.subl | exact hs.cellAt rfl | trivial, ?_⟩
  refine c_w rfl (w_appB (s := ⟨some b8, 2, []⟩) (twoB src) (twoB dst) (St.blk1 hs) (ok2 _ rfl) rfl rfl rfl ⟨_, rfl⟩ (by omega) (fun s1 w ok1 hg1 hs => ?_))
  refine ⟨fun _ => by first | exact hs | exact hs.subl | exact hs.cellAt rfl | trivial, ?_⟩
  refine c_q rfl (by first | exact hs | exact hs.subl | exact hs.cellAt rfl | trivial) (fun _ _ _ h => h) (fun w hs => by exact y_as_slice rfl) ?_
  refine c_end ?_
  refine e_then ?_
  refine s_seq ?_
  refine s_reg ?_
  refine l_q (by exact y_mv_slice rfl) ?_
  refine l_q (by exact y_field rfl) ?_
  refine l_q (by exact y_ld hs rfl rfl) ?_
  refine l_w (w_call rfl (four_c 0 hs) rfl (fun _ w h => ?_))
  obtain ⟨b16, rfl, hs⟩ := h
  refine l_w (w_appB (twoB src ++ twoB dst) (fourB 0) hs ok1 rfl rfl rfl hg1 (by omega) (fun s2 w ok2 hg2 hs => ?_))
  refine l_q (by exact y_as_slice rfl) ?_
  refine l_end ?_
  refine e_then ?_
  refine s_seq ?_
  refine s_reg ?_
  refine l_q (by exact y_mv_slice rfl) ?_
  refine l_q (by exact y_field rfl) ?_
  refine l_q (by exact y_ld hs rfl rfl) ?_
  refine l_w (w_call rfl (four_c 0 hs) rfl (fun _ w h => ?_))
  obtain ⟨b21, rfl, hs⟩ := h
  refine l_w (w_appB (twoB src ++ twoB dst ++ fourB 0) (fourB 0) hs ok2 rfl rfl rfl hg2 (by omega) (fun s3 w ok3 hg3 hs => ?_))
  refine l_q (by exact y_as_slice rfl) ?_
  refine l_end ?_
  refine e_then ?_
  refine s_seq ?_
  refine s_reg ?_
  refine l_q (by exact y_mv_slice rfl) ?_
  refine l_q (by exact y_field rfl) ?_
  refine l_q (by exact y_ld hs rfl rfl) ?_
  refine l_q (by exact y_toInt (b := ((flags % 256 : Nat) : Int)) (y_conv_int rfl rfl) (wrap_u8n _)) ?_
  refine l_q (by exact y_field rfl) ?_
  refine l_q (by exact y_ld hs rfl rfl) ?_
  refine l_q (by exact y_len_slice rfl) ?_
  refine l_q (by exact y_toInt (b := 0) (y_conv_int rfl rfl) rfl) ?_
  refine l_w (w_buildSlice (pv := [(0, .int .u8 _), (1, .int .u8 _)]) (vs := [_, _]) hs rfl rfl rfl rfl (fun b31 w hs hb31 => ?_))
  refine l_w (w_appB (twoB src ++ twoB dst ++ fourB 0 ++ fourB 0) [flags % 256, 0] hs ok3 rfl rfl rfl hg3 (by omega) (fun s4 w ok4 hg4 hs => ?_))
  refine l_q (by exact y_as_slice rfl) ?_
  refine l_end ?_
  refine e_then ?_
  refine s_seq ?_
  refine s_reg ?_
  refine l_q (by exact y_mv_slice rfl) ?_
  refine l_q (by exact y_field rfl) ?_
  refine l_q (by exact y_ld hs rfl rfl) ?_
  refine l_w (w_call rfl (two_c 0 hs) rfl (fun _ w h => ?_))
  obtain ⟨b36, rfl, hs⟩ := h
  refine l_w (w_appB (twoB src ++ twoB dst ++ fourB 0 ++ fourB 0 ++ [flags % 256, 0]) (twoB 0) hs ok4 rfl rfl rfl hg4 (by omega) (fun s5 w ok5 hg5 hs => ?_))
  refine l_q (by exact y_as_slice rfl) ?_
  refine l_end ?_
  refine e_then ?_
  refine s_seq ?_
  refine s_reg ?_
  refine l_q (by exact y_mv_slice rfl) ?_
  refine l_w (w_buildSlice (pv := [(0, .int .u8 _), (1, .int .u8 _)]) (vs := [_, _]) hs rfl rfl rfl rfl (fun b39 w hs hb39 => ?_))
  refine l_w (w_appB (twoB src ++ twoB dst ++ fourB 0 ++ fourB 0 ++ [flags % 256, 0] ++ twoB 0) [0, 0] hs ok5 rfl rfl rfl hg5 (by omega) (fun s6 w ok6 hg6 hs => ?_))
  refine l_q (by exact y_as_slice rfl) ?_
  refine l_end ?_
  refine e_then ?_
  refine s_seq ?_
  refine s_seq ?_
  refine s_reg ?_
  refine l_q (by exact y_field rfl) ?_
  refine l_q (by exact y_ld hs rfl rfl) ?_
  refine l_q (by exact y_len_slice rfl) ?_
  refine l_q (by exact y_mv_int rfl) ?_
  refine l_end ?_
  refine e_then ?_
  refine s_block ?_
  refine loop_st (X := Unit) (fun _ => [(1, .pointer (some ⟨b1, 0, none⟩)), (3, .slice s6.ad 18 s6.cap), (43, I64 0), (44, I64 0)]) (fun _ w' => w' = w) (fun _ => 0) () ⟨rfl, rfl, rfl, rfl, trivial⟩ rfl ?_
  rintro _ ρ w' rfl
  refine s_seq ?_
  refine s_reg ?_
  refine l_q (by first | exact y_lss rfl rfl (decide_eq_true (by omega)) | exact y_lss rfl rfl (decide_eq_false (by omega)) | exact y_lss rfl rfl rfl) ?_
  refine l_end ?_
  refine e_then ?_
  refine s_seq ?_
  refine cond_f rfl ?_
  refine s_exit ?_
  refine e_then_x ?_
  refine e_then_x ?_
  refine e_blk_x ?_
  refine e_then ?_
  refine s_seq ?_
  refine s_reg ?_
  refine l_q (by exact y_mv_slice rfl) ?_
  refine l_q (by exact y_field rfl) ?_
  refine l_q (by exact y_ld hs rfl rfl) ?_
  refine l_w (w_appT (twoB src ++ twoB dst ++ fourB 0 ++ fourB 0 ++ [flags % 256, 0] ++ twoB 0 ++ [0, 0]) body hs ok6 rfl rfl hg6 (by omega) (fun s7 w ok7 hg7 hs => ?_))
  refine l_q (by exact y_as_slice rfl) ?_
  refine l_end ?_
  refine e_then ?_
  refine s_ret ?_
  exact ret_ [.slice _ _ _] rfl ⟨rfl, trivial⟩ (by
    obtain ⟨g, hg⟩ := hg7
    have hs := hs.sub (List.Sublist.append_left (List.sublist_cons_self ..) _)
    simp only [OS.blk, hg, List.singleton_append] at hs
    exact ⟨g, s7.cap, s7.sp, os_ev hg, hs⟩)
end Go.Proofs.Ytagdgalnaobpeaa
