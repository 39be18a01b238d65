/- Facts on the functions and types of this seat that its laws are proved from: contracts under the premises that each theorem names. -/
import Derived.Test.YtagdgalnaobpeaaTd
set_option linter.unusedSimpArgs false
set_option linter.unusedVariables false
set_option linter.unnecessarySimpa false
namespace Go.Proofs.Ytagdgalnaobpeaa
open Go Go.RowKit PB
set_option linter.unusedVariables false
set_option linter.unusedSimpArgs false

theorem dtwo_c {W0 w : World} {L : List (Nat × MObj)} (n : Nat) (hs : St W0 w L) :
    FnC Try.prog 40 [I64 n] w (fun v w' => v = .string (strB (twoB n)) ∧ St W0 w' L) := by
  refine FnC.enter Try.func40 rfl Try.ntmps40 rfl fun ρ => ?_
  refine s_seq ?_
  refine s_reg ?_
  refine l_q (by exact y_as_str rfl) ?_
  refine l_end ?_
  refine e_then ?_
  refine s_seq ?_
  refine s_reg ?_
  refine l_q (by exact y_mv_int rfl) ?_
  refine l_q (by exact y_toInt (b := ((n / 2 ^ 8 : Nat) : Int)) (y_shr rfl rfl (by decide) rfl) (shr64 n 8 (by decide))) ?_
  refine l_q (by exact y_toInt (b := ((n / 2 ^ 8 % 256 : Nat) : Int)) (y_conv_int rfl rfl) (wrap_u8n _)) ?_
  refine l_q (by exact y_mv_int rfl) ?_
  refine l_q (by exact y_toInt (b := ((n % 256 : Nat) : Int)) (y_conv_int rfl rfl) (wrap_u8n _)) ?_
  refine l_w (w_buildSlice (pv := [(0, .int .u8 _), (1, .int .u8 _)]) (vs := [_, _]) hs rfl rfl rfl rfl (fun b8 w hs hb8 => ?_))
  refine l_q (by exact y_b2s (l := twoB n) hs rfl rfl rfl rfl) ?_
  refine l_q (by exact y_as_str rfl) ?_
  refine l_end ?_
  refine e_then ?_
  refine s_ret ?_
  exact ret_ [.string _] rfl ⟨rfl, trivial⟩ ⟨rfl, hs.tail⟩

theorem dfour_c {W0 w : World} {L : List (Nat × MObj)} (n : Nat) (hn : n < 4294967296) (hs : St W0 w L) :
    FnC Try.prog 51 [U32 n] w (fun v w' => (∃ s, v = .string s ∧ s.size = 4) ∧ St W0 w' L) := by
  refine FnC.enter Try.func51 rfl Try.ntmps51 rfl fun ρ => ?_
  refine s_seq ?_
  refine s_reg ?_
  refine l_q (by exact y_as_str rfl) ?_
  refine l_end ?_
  refine e_then ?_
  refine s_seq ?_
  refine s_reg ?_
  refine l_q (by exact y_mv_int rfl) ?_
  refine l_q (by exact y_toInt (b := ((n / 2 ^ 16 : Nat) : Int)) (y_shr rfl rfl (by decide) rfl) (shr32 n 16 (by decide))) ?_
  refine l_q (by exact y_toInt (b := ((n / 2 ^ 16 : Nat) : Int)) (y_conv_int rfl rfl) (by rw [IntKind.wrap_i64]; omega)) ?_
  refine l_w (w_call rfl (dtwo_c _ hs) rfl (fun _ w h => ?_))
  obtain ⟨rfl, hs⟩ := h
  refine l_q (by exact y_mv_int rfl) ?_
  refine l_q (by exact y_and32 (b := 65535) rfl rfl hn (by decide)) ?_
  refine l_q (by exact y_toInt (b := ((n &&& 65535 : Nat) : Int)) (y_conv_int rfl rfl) (by have : n &&& 65535 ≤ 65535 := Nat.and_le_right; rw [IntKind.wrap_i64]; omega)) ?_
  refine l_w (w_call rfl (dtwo_c _ hs) rfl (fun _ w h => ?_))
  obtain ⟨rfl, hs⟩ := h
  refine l_q (by exact y_str_add rfl rfl (by rw [strB_size, strB_size]; show 2 + 2 ≤ _; decide)) ?_
  refine l_q (by exact y_as_str rfl) ?_
  refine l_end ?_
  refine e_then ?_
  refine s_ret ?_
  exact ret_ [.string _] rfl ⟨rfl, trivial⟩ ⟨⟨_, rfl, by rw [ByteArray.size_append, strB_size, strB_size]; rfl⟩, hs⟩

theorem dbad_c (n : Nat) (h : n ≤ 65535) (w : World) : FnC Try.prog 50 [I64 n] w (fun v w' => v = .bool false ∧ w' = w) := by
  refine FnC.enter Try.func50 rfl Try.ntmps50 rfl fun ρ => ?_
  refine s_seq ?_
  refine s_reg ?_
  refine l_q (by exact y_as_bool rfl) ?_
  refine l_end ?_
  refine e_then ?_
  refine s_seq ?_
  refine s_reg ?_
  refine l_q (by exact y_mv_int rfl) ?_
  refine l_q (by first | exact y_lss rfl rfl (decide_eq_true (by omega)) | exact y_lss rfl rfl (decide_eq_false (by omega)) | exact y_lss rfl rfl rfl) ?_
  refine l_q (by exact y_mv_bool rfl) ?_
  first | refine l_gskip rfl rfl ?_ | refine l_gskip_u rfl rfl ?_ | refine l_gdo rfl rfl (by exact y_mv_int rfl) ?_
  first | refine l_gskip rfl rfl ?_ | refine l_gskip_u rfl rfl ?_ | refine l_gdo rfl rfl (by first | exact y_gtr rfl rfl (decide_eq_true (by omega)) | exact y_gtr rfl rfl (decide_eq_false (by omega)) | exact y_gtr rfl rfl rfl) ?_
  refine l_q (by first | exact y_pk_bt rfl rfl | exact y_pk_bf rfl rfl) ?_
  refine l_q (by exact y_as_bool rfl) ?_
  refine l_end ?_
  refine e_then ?_
  refine s_ret ?_
  exact ret_ [.bool _] rfl ⟨rfl, trivial⟩ ⟨rfl, rfl⟩

abbrev dgV (src dst : Nat) (body : ByteArray) : List Value := [I64 src, I64 dst, .string body]
theorem dcheck_c {W0 w : World} {L : List (Nat × MObj)} (src dst : Nat) (body : ByteArray) (h1 : src ≤ 65535) (h2 : dst ≤ 65535) (h4 : body.size ≤ 1024) (hs : St W0 w L) :
    FnC Try.prog 39 [.agg (dgV src dst body).toArray] w (fun v w' => v = I64 0 ∧ St W0 w' L) := by
  refine FnC.enter Try.func39 rfl Try.ntmps39 rfl fun ρ => ?_
  refine s_seq ?_
  refine s_reg ?_
  refine l_w (w_boxA (vs := [_, _, _]) hs rfl (fun b1 w hs hb1 => ?_))
  refine l_q (by exact y_as_int rfl) ?_
  refine l_end ?_
  refine e_then ?_
  refine s_seq ?_
  refine s_block ?_
  refine s_seq ?_
  refine s_reg ?_
  refine l_q (by exact y_field rfl) ?_
  refine l_q (by exact y_ld hs rfl rfl) ?_
  refine l_w (w_call rfl (dbad_c src h1 w) rfl (fun _ w h => ?_))
  obtain ⟨rfl, rfl⟩ := h
  refine l_q (by exact y_mv_bool rfl) ?_
  first | refine l_gskip rfl rfl ?_ | refine l_gskip_u rfl rfl ?_ | refine l_gdo rfl rfl (by exact y_field rfl) ?_
  first | refine l_gskip rfl rfl ?_ | refine l_gskip_u rfl rfl ?_ | refine l_gdo rfl rfl (by exact y_ld hs rfl rfl) ?_
  first | refine l_gskip rfl rfl ?_ | refine l_gskip_u rfl rfl ?_ | (refine l_gw rfl rfl (w_call rfl (dbad_c dst h2 w) rfl (fun _ w h => ?_)); obtain ⟨rfl, rfl⟩ := h)
  refine l_q (by first | exact y_pk_bt rfl rfl | exact y_pk_bf rfl rfl) ?_
  refine l_q (by exact y_as_bool rfl) ?_
  refine l_end ?_
  refine e_then ?_
  refine cond_f rfl ?_
  refine s_seq ?_
  refine s_reg ?_
  refine l_q (by exact y_field rfl) ?_
  refine l_q (by exact y_ld hs rfl rfl) ?_
  refine l_q (by exact y_len_str rfl) ?_
  refine l_q (by first | exact y_gtr rfl rfl (decide_eq_true (by omega)) | exact y_gtr rfl rfl (decide_eq_false (by omega)) | exact y_gtr rfl rfl rfl) ?_
  refine l_q (by exact y_as_bool rfl) ?_
  refine l_end ?_
  refine e_then ?_
  refine cond_f rfl ?_
  refine s_skip ?_
  refine e_blk ?_
  refine e_then ?_
  refine s_seq ?_
  refine s_reg ?_
  refine l_q (by exact y_as_int rfl) ?_
  refine l_end ?_
  refine e_then ?_
  refine s_ret ?_
  exact ret_ [.int .i64 _] rfl ⟨rfl, trivial⟩ ⟨rfl, hs.tail⟩

theorem size2 (n : Nat) : (strB (twoB n)).size = 2 := by rw [strB_size]; rfl
theorem dsum_c {W0 w : World} {L : List (Nat × MObj)} (a b : Nat) (p l d : ByteArray) (ha : a < 4294967296) (hb : b < 4294967296) (hp : p.size ≤ 10000) (hl : l.size ≤ 10000) (hd : d.size ≤ 10000) (hs : St W0 w L) :
    FnC Try.prog 41 [U32 a, U32 b, .string p, .string l, .string d] w (fun v w' => (∃ n : Nat, v = I64 n ∧ n ≤ 65535) ∧ St W0 w' L) := by
  refine FnC.enter Try.func41 rfl Try.ntmps41 rfl fun ρ => ?_
  refine s_seq ?_
  refine s_reg ?_
  refine l_q (by exact y_as_int rfl) ?_
  refine l_end ?_
  refine e_then ?_
  refine s_seq ?_
  refine s_reg ?_
  refine l_q (by exact y_mv_int rfl) ?_
  refine l_w (w_call rfl (dfour_c a ha hs) rfl (fun _ w h => ?_))
  obtain ⟨⟨s1, rfl, z1⟩, hs⟩ := h
  refine l_q (by exact y_mv_int rfl) ?_
  refine l_w (w_call rfl (dfour_c b hb hs) rfl (fun _ w h => ?_))
  obtain ⟨⟨s2, rfl, z2⟩, hs⟩ := h
  refine l_q (by exact y_str_add rfl rfl (by omega)) ?_
  refine l_w (w_call rfl (dtwo_c 17 hs) rfl (fun _ w h => ?_))
  obtain ⟨rfl, hs⟩ := h
  refine l_q (by exact y_str_add rfl rfl (by simp only [ByteArray.size_append, size2]; omega)) ?_
  refine l_q (by exact y_mv_str rfl) ?_
  refine l_q (by exact y_str_add rfl rfl (by simp only [ByteArray.size_append, size2]; omega)) ?_
  refine l_q (by exact y_mv_str rfl) ?_
  refine l_q (by exact y_str_add rfl rfl (by simp only [ByteArray.size_append, size2]; omega)) ?_
  refine l_q (by exact y_mv_str rfl) ?_
  refine l_q (by exact y_str_add rfl rfl (by simp only [ByteArray.size_append, size2]; omega)) ?_
  refine l_w (w_call rfl (dtwo_c 0 hs) rfl (fun _ w h => ?_))
  obtain ⟨rfl, hs⟩ := h
  refine l_q (by exact y_str_add rfl rfl (by simp only [ByteArray.size_append, size2]; omega)) ?_
  refine l_q (by exact y_mv_str rfl) ?_
  refine l_q (by exact y_str_add rfl rfl (by simp only [ByteArray.size_append, size2]; omega)) ?_
  refine l_w (w_call rfl (sum_c _ (by simp only [ByteArray.size_append, size2]; omega) w) rfl (fun _ w h => ?_))
  obtain ⟨⟨n, rfl, hn⟩, rfl⟩ := h
  refine l_q (by exact y_as_int rfl) ?_
  refine l_end ?_
  refine e_then ?_
  refine s_seq ?_
  refine s_seq ?_
  refine s_reg ?_
  refine l_q (by exact y_mv_int rfl) ?_
  refine l_q (by first | exact y_eql rfl rfl (decide_eq_true (by omega)) | exact y_eql rfl rfl (decide_eq_false (by omega)) | exact y_eql rfl rfl rfl) ?_
  refine l_end ?_
  refine e_then ?_
  refine cond_d rfl (fun h => ?_) (fun h => ?_)
  · refine s_seq ?_
    refine s_reg ?_
    refine l_q (by exact y_as_int rfl) ?_
    refine l_end ?_
    refine e_then ?_
    refine s_ret ?_
    refine e_then_r ?_
    exact ret_ [.int .i64 _] rfl ⟨rfl, trivial⟩ ⟨⟨65535, rfl, by decide⟩, hs⟩
  · refine s_skip ?_
    refine e_then ?_
    refine s_seq ?_
    refine s_reg ?_
    refine l_q (by exact y_mv_int rfl) ?_
    refine l_q (by exact y_as_int rfl) ?_
    refine l_end ?_
    refine e_then ?_
    refine s_ret ?_
    exact ret_ [.int .i64 _] rfl ⟨rfl, trivial⟩ ⟨⟨n, rfl, hn⟩, hs⟩

def dgE (src dst n : Nat) (body : ByteArray) : List Nat := twoB src ++ twoB dst ++ twoB (8 + body.size) ++ twoB n ++ bytesOf body
theorem dgE_str (src dst n : Nat) (body : ByteArray) : strB (twoB src) ++ strB (twoB dst) ++ strB (twoB (8 + body.size)) ++ strB (twoB n) ++ body = strB (dgE src dst n body) := by
  conv => lhs; rw [← strB_bytesOf body]
  rw [strB_app, strB_app, strB_app, strB_app]
  simp only [bytesOf_len, strB_bytesOf]
  rfl
theorem dgenc_c {W0 w : World} {L : List (Nat × MObj)} (a b src dst : Nat) (body : ByteArray) (ha : a < 4294967296) (hb : b < 4294967296) (h1 : src ≤ 65535) (h2 : dst ≤ 65535) (h4 : body.size ≤ 1024) (hs : St W0 w L) :
    FnC Try.prog 29 [U32 a, U32 b, .agg (dgV src dst body).toArray] w (fun v w' => ∃ n, v = .tuple #[.string (strB (dgE src dst n body)), I64 0] ∧ St W0 w' L) := by
  refine FnC.enter Try.func29 rfl Try.ntmps29 rfl fun ρ => ?_
  refine s_seq ?_
  refine s_reg ?_
  refine l_w (w_boxA (vs := [_, _, _]) hs rfl (fun b5 w hs hb5 => ?_))
  refine l_q (by exact y_as_str rfl) ?_
  refine l_q (by exact y_as_int rfl) ?_
  refine l_end ?_
  refine e_then ?_
  refine s_seq ?_
  refine s_seq ?_
  refine s_reg ?_
  refine l_q (by exact y_ldA (vs := [_, _, _]) hs rfl rfl rfl) ?_
  refine l_w (w_call rfl (dcheck_c src dst body h1 h2 h4 hs) rfl (fun _ w h => ?_))
  obtain ⟨rfl, hs⟩ := h
  refine l_q (by exact y_as_int rfl) ?_
  refine l_end ?_
  refine e_then ?_
  refine s_seq ?_
  refine s_reg ?_
  refine l_q (by exact y_mv_int rfl) ?_
  refine l_q (by first | exact y_neq rfl rfl (decide_eq_true (by omega)) | exact y_neq rfl rfl (decide_eq_false (by omega)) | exact y_neq rfl rfl rfl) ?_
  refine l_end ?_
  refine e_then ?_
  refine cond_f rfl ?_
  refine s_skip ?_
  refine e_then ?_
  refine s_seq ?_
  refine r_dr (.q 0 (.q 1 (.q 3 (.q 4 (.q 7 (.q 8 (.q 9 (.q 10 (.w 2 (.w 5 (.q 6 (.w 11 (.q 12 (.q 13 (.nil))))))))))))))) 13 hs mixed (by kernel_rfl) (fun hs => ?_)
  refine c_q rfl (by first | exact hs | exact hs.subl | exact hs.cellAt rfl | trivial) (fun _ _ _ h => h) (fun w hs => by exact y_field rfl) ?_
  refine c_q rfl (by first | exact hs | exact hs.subl | exact hs.cellAt rfl | trivial) (fun _ _ _ h => h) (fun w hs => by exact y_ld hs rfl rfl) ?_
  refine c_q rfl (by first | exact hs | exact hs.subl | exact hs.cellAt rfl | trivial) (fun _ _ _ h => h) (fun w hs => by exact y_field rfl) ?_
  refine c_q rfl (by first | exact hs | exact hs.subl | exact hs.cellAt rfl | trivial) (fun _ _ _ h => h) (fun w hs => by exact y_ld hs rfl rfl) ?_
  refine c_q rfl (by first | exact hs | exact hs.subl | exact hs.cellAt rfl | trivial) (fun _ _ _ h => h) (fun w hs => by exact y_field rfl) ?_
  refine c_q rfl (by first | exact hs | exact hs.subl | exact hs.cellAt rfl | trivial) (fun _ _ _ h => h) (fun w hs => by exact y_ld hs rfl rfl) ?_
  refine c_q rfl (by first | exact hs | exact hs.subl | exact hs.cellAt rfl | trivial) (fun _ _ _ h => h) (fun w hs => by exact y_len_str rfl) ?_
  refine c_q rfl (by first | exact hs | exact hs.subl | exact hs.cellAt rfl | trivial) (fun _ _ _ h => h) (fun w hs => by exact y_toInt (b := ((8 + body.size : Nat) : Int)) (y_addn rfl rfl (by omega)) rfl) ?_
  refine c_w rfl (w_call rfl (dtwo_c src hs) rfl (fun _ w h => ?_))
  obtain ⟨rfl, hs⟩ := h
  refine ⟨fun _ => by first | exact hs | exact hs.subl | exact hs.cellAt rfl | trivial, ?_⟩
  refine c_w rfl (w_call rfl (dtwo_c dst hs) rfl (fun _ w h => ?_))
  obtain ⟨rfl, hs⟩ := h
  refine ⟨fun _ => by first | exact hs | exact hs.subl | exact hs.cellAt rfl | trivial, ?_⟩
  refine c_q rfl (by first | exact hs | exact hs.subl | exact hs.cellAt rfl | trivial) (fun _ _ _ h => h) (fun w hs => by exact y_str_add rfl rfl (by simp only [ByteArray.size_append, size2]; omega)) ?_
  refine c_w rfl (w_call rfl (dtwo_c (8 + body.size) hs) rfl (fun _ w h => ?_))
  obtain ⟨rfl, hs⟩ := h
  refine ⟨fun _ => by first | exact hs | exact hs.subl | exact hs.cellAt rfl | trivial, ?_⟩
  refine c_q rfl (by first | exact hs | exact hs.subl | exact hs.cellAt rfl | trivial) (fun _ _ _ h => h) (fun w hs => by exact y_as_str rfl) ?_
  refine c_q rfl (by first | exact hs | exact hs.subl | exact hs.cellAt rfl | trivial) (fun _ _ _ h => h) (fun w hs => by exact y_as_str rfl) ?_
  refine c_end ?_
  refine e_then ?_
  refine s_seq ?_
  refine r_dr (.q 0 (.q 1 (.q 2 (.q 3 (.q 4 (.q 5 (.q 6 (.q 7 (.q 8 (.q 12 (.q 13 (.w 9 (.w 10 (.q 11 (.q 14 (.q 15 (.q 16 (.nil)))))))))))))))))) 16 hs mixed (by kernel_rfl) (fun hs => ?_)
  refine c_q rfl (by first | exact hs | exact hs.subl | exact hs.cellAt rfl | trivial) (fun _ _ _ h => h) (fun w hs => by exact y_mv_str rfl) ?_
  refine c_q rfl (by first | exact hs | exact hs.subl | exact hs.cellAt rfl | trivial) (fun _ _ _ h => h) (fun w hs => by exact y_mv_str rfl) ?_
  refine c_q rfl (by first | exact hs | exact hs.subl | exact hs.cellAt rfl | trivial) (fun _ _ _ h => h) (fun w hs => by exact y_str_add rfl rfl (by simp only [ByteArray.size_append, size2]; omega)) ?_
  refine c_q rfl (by first | exact hs | exact hs.subl | exact hs.cellAt rfl | trivial) (fun _ _ _ h => h) (fun w hs => by exact y_mv_int rfl) ?_
  refine c_q rfl (by first | exact hs | exact hs.subl | exact hs.cellAt rfl | trivial) (fun _ _ _ h => h) (fun w hs => by exact y_mv_int rfl) ?_
  refine c_q rfl (by first | exact hs | exact hs.subl | exact hs.cellAt rfl | trivial) (fun _ _ _ h => h) (fun w hs => by exact y_mv_str rfl) ?_
  refine c_q rfl (by first | exact hs | exact hs.subl | exact hs.cellAt rfl | trivial) (fun _ _ _ h => h) (fun w hs => by exact y_mv_str rfl) ?_
  refine c_q rfl (by first | exact hs | exact hs.subl | exact hs.cellAt rfl | trivial) (fun _ _ _ h => h) (fun w hs => by exact y_field rfl) ?_
  refine c_q rfl (by first | exact hs | exact hs.subl | exact hs.cellAt rfl | trivial) (fun _ _ _ h => h) (fun w hs => by exact y_ld hs rfl rfl) ?_
  refine c_q rfl (by first | exact hs | exact hs.subl | exact hs.cellAt rfl | trivial) (fun _ _ _ h => h) (fun w hs => by exact y_field rfl) ?_
  refine c_q rfl (by first | exact hs | exact hs.subl | exact hs.cellAt rfl | trivial) (fun _ _ _ h => h) (fun w hs => by exact y_ld hs rfl rfl) ?_
  refine c_w rfl (w_call rfl (dsum_c a b _ _ body ha hb (by simp only [ByteArray.size_append, size2]; decide) (by rw [size2]; decide) (by omega) hs) rfl (fun _ w h => ?_))
  obtain ⟨⟨n, rfl, hn⟩, hs⟩ := h
  refine ⟨fun _ => by first | exact hs | exact hs.subl | exact hs.cellAt rfl | trivial, ?_⟩
  refine c_w rfl (w_call rfl (dtwo_c n hs) rfl (fun _ w h => ?_))
  obtain ⟨rfl, hs⟩ := h
  refine ⟨fun _ => by first | exact hs | exact hs.subl | exact hs.cellAt rfl | trivial, ?_⟩
  refine c_q rfl (by first | exact hs | exact hs.subl | exact hs.cellAt rfl | trivial) (fun _ _ _ h => h) (fun w hs => by exact y_str_add rfl rfl (by simp only [ByteArray.size_append, size2]; omega)) ?_
  refine c_q rfl (by first | exact hs | exact hs.subl | exact hs.cellAt rfl | trivial) (fun _ _ _ h => h) (fun w hs => by exact y_str_add rfl rfl (by simp only [ByteArray.size_append, size2]; omega)) ?_
  refine c_q rfl (by first | exact hs | exact hs.subl | exact hs.cellAt rfl | trivial) (fun _ _ _ h => h) (fun w hs => by exact y_as_str rfl) ?_
  refine c_q rfl (by first | exact hs | exact hs.subl | exact hs.cellAt rfl | trivial) (fun _ _ _ h => h) (fun w hs => by exact y_as_int rfl) ?_
  refine c_end ?_
  refine e_then ?_
  refine s_ret ?_
  exact ret_ [.string _, .int .i64 _] rfl ⟨rfl, rfl, trivial⟩ ⟨n, by rw [← dgE_str]; rfl, hs.tail⟩
end Go.Proofs.Ytagdgalnaobpeaa
