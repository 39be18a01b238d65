/- Facts on the functions and types of this seat that its laws are proved from: contracts under the premises that each theorem names. -/
import Derived.Test.YtagdgalnaobpeaaTc
set_option linter.unusedSimpArgs false
set_option linter.unusedVariables false
set_option linter.unnecessarySimpa false
namespace Go.Proofs.Ytagdgalnaobpeaa
open Go Go.RowKit PB
set_option linter.unusedVariables false
set_option linter.unusedSimpArgs false

/-- The bytes with the checksum laid in. -/
def segE (src dst flags n : Nat) (body : ByteArray) : List Nat := twoB src ++ twoB dst ++ fourB 0 ++ fourB 0 ++ [flags % 256, 0] ++ twoB 0 ++ [n / 2 ^ 8 % 256, n % 256] ++ bytesOf body
abbrev segEa (src dst flags n : Nat) (body : ByteArray) : List Nat := twoB src ++ twoB dst ++ fourB 0 ++ fourB 0 ++ [flags % 256, 0] ++ twoB 0 ++ [n / 2 ^ 8 % 256, 0] ++ bytesOf body
theorem set16 (src dst flags n : Nat) (body : ByteArray) (sp : List Value) : (BL (segB src dst flags body) ++ sp).set 16 (U8 (n / 2 ^ 8 % 256)) = BL (segEa src dst flags n body) ++ sp := rfl
theorem set17 (src dst flags n : Nat) (body : ByteArray) (sp : List Value) : (BL (segEa src dst flags n body) ++ sp).set 17 (U8 (n % 256)) = BL (segE src dst flags n body) ++ sp := rfl

theorem segB_len (src dst flags : Nat) (body : ByteArray) : (segB src dst flags body).length = 18 + body.size := by
  rw [← bytesOf_len body]; simp [segB, twoB, fourB]; omega
theorem segE_len (src dst flags n : Nat) (body : ByteArray) : (segE src dst flags n body).length = 18 + body.size := by
  rw [← bytesOf_len body]; simp [segE, twoB, fourB]; omega
theorem segenc_c {W0 w : World} {L : List (Nat × MObj)} (a b src dst flags : Nat) (body : ByteArray) (h1 : src ≤ 65535) (h2 : dst ≤ 65535) (h3 : FlagOk flags) (h4 : body.size ≤ 1024) (hs : St W0 w L) :
    FnC Try.prog 28 [U32 a, U32 b, .agg (segV src dst flags body).toArray] w (fun v w' => ∃ n, v = .tuple #[.string (strB (segE src dst flags n body)), I64 0] ∧ St W0 w' L) := by
  refine FnC.enter Try.func28 rfl Try.ntmps28 rfl fun ρ => ?_
  refine s_seq ?_
  refine s_reg ?_
  refine l_w (w_boxA (vs := [_, _, _, _, _, _, _, _]) hs rfl (fun b5 w hs hb5 => ?_))
  refine l_q (by exact y_as_str rfl) ?_
  refine l_q (by exact y_as_int rfl) ?_
  refine l_end ?_
  refine e_then ?_
  refine s_seq ?_
  refine s_seq ?_
  refine s_reg ?_
  refine l_q (by exact y_ldA (vs := [_, _, _, _, _, _, _, _]) hs rfl rfl rfl) ?_
  refine l_w (w_call rfl (segcheck_c src dst flags body h1 h2 h3 h4 hs) rfl (fun _ w h => ?_))
  obtain ⟨rfl, hs⟩ := h
  refine l_q (by exact y_as_int rfl) ?_
  refine l_end ?_
  refine e_then ?_
  refine s_seq ?_
  refine s_reg ?_
  refine l_q (by exact y_mv_int rfl) ?_
  refine l_q (by first | exact y_neq rfl rfl (decide_eq_true (by omega)) | exact y_neq rfl rfl (decide_eq_false (by omega)) | exact y_neq rfl rfl rfl) ?_
  refine l_end ?_
  refine e_then ?_
  refine cond_f rfl ?_
  refine s_skip ?_
  refine e_then ?_
  refine s_seq ?_
  refine s_reg ?_
  refine l_q (by exact y_ldA (vs := [_, _, _, _, _, _, _, _]) hs rfl rfl rfl) ?_
  refine l_w (w_call rfl (segbytes_c src dst flags body h4 hs) rfl (fun _ w h => ?_))
  obtain ⟨g, cap, sp, rfl, hs⟩ := h
  refine l_q (by exact y_as_slice rfl) ?_
  refine l_end ?_
  refine e_then ?_
  refine s_seq ?_
  refine s_reg ?_
  refine l_q (by exact y_mv_int rfl) ?_
  refine l_q (by exact y_mv_int rfl) ?_
  refine l_q (by exact y_mv_slice rfl) ?_
  refine l_q (by exact y_b2s (b := g) (l := segB src dst flags body) hs rfl (segB_len ..) (List.take_left' (by rw [BL_len, segB_len])) rfl) ?_
  refine l_w (w_call rfl (sealed_c a b _ (by rw [strB_size, segB_len]; omega) hs) rfl (fun _ w h => ?_))
  obtain ⟨⟨n, rfl, hn⟩, hs⟩ := h
  refine l_q (by exact y_as_int rfl) ?_
  refine l_end ?_
  refine e_then ?_
  refine s_seq ?_
  refine s_reg ?_
  refine l_q (by exact y_mv_slice rfl) ?_
  refine l_q (by exact y_mv_slice rfl) ?_
  refine l_q (by exact y_mv_int rfl) ?_
  refine l_q (by exact y_toInt (b := ((n / 2 ^ 8 : Nat) : Int)) (y_shr rfl rfl (by decide) rfl) (shr64 n 8 (by decide))) ?_
  refine l_q (by exact y_toInt (b := ((n / 2 ^ 8 % 256 : Nat) : Int)) (y_conv_int rfl rfl) (wrap_u8n _)) ?_
  refine l_q (by exact y_mv_int rfl) ?_
  refine l_q (by exact y_toInt (b := ((n % 256 : Nat) : Int)) (y_conv_int rfl rfl) (wrap_u8n _)) ?_
  refine l_q (by exact y_index rfl rfl (by omega) (by omega)) ?_
  refine l_w (w_store (v := .int .u8 _) hs rfl rfl rfl rfl (fun w hs => ?_))
  refine l_q (by exact y_index rfl rfl (by omega) (by omega)) ?_
  refine l_w (w_store (v := .int .u8 _) hs rfl rfl rfl rfl (fun w hs => ?_))
  refine l_end ?_
  refine e_then ?_
  refine s_seq ?_
  refine s_reg ?_
  refine l_q (by exact y_mv_slice rfl) ?_
  refine l_q (by exact y_b2s (b := g) (l := segE src dst flags n body) hs rfl (segE_len ..) (List.take_left' (by rw [BL_len, segE_len])) rfl) ?_
  refine l_q (by exact y_as_str rfl) ?_
  refine l_q (by exact y_as_int rfl) ?_
  refine l_end ?_
  refine e_then ?_
  refine s_ret ?_
  exact ret_ [.string _, .int .i64 _] rfl ⟨rfl, rfl, trivial⟩ ⟨n, rfl, hs.subl⟩
end Go.Proofs.Ytagdgalnaobpeaa
