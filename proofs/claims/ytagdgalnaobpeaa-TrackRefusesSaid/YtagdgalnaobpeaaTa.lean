/- Facts on the functions and types of this seat that its laws are proved from: contracts under the premises that each theorem names. -/
import Derived.Test.YtagdgalnaobpeaaRd
import Derived.Test.YtagdgalnaobpeaaEnh
set_option linter.unusedSimpArgs false
set_option linter.unusedVariables false
set_option linter.unnecessarySimpa false
namespace Go.Proofs.Ytagdgalnaobpeaa
open Go Go.RowKit PB
set_option linter.unusedVariables false
set_option linter.unusedSimpArgs false

theorem shr64 (a m : Nat) (hm : m ≤ 63) : ((a : Nat) : Int).fdiv (2 ^ (min (m : Int).toNat IntKind.i64.bits)) = ((a / 2 ^ m : Nat) : Int) := by
  have h1 : min (m : Int).toNat IntKind.i64.bits = m := by show min (m : Int).toNat 64 = m; simp; omega
  rw [h1, Int.fdiv_eq_ediv_of_nonneg _ (Int.pow_nonneg (by decide))]
  have e : (2 : Int) ^ m = ((2 ^ m : Nat) : Int) := by rw [Int.natCast_pow]; rfl
  rw [e, Int.natCast_ediv]
theorem shr32 (a m : Nat) (hm : m ≤ 31) : ((a : Nat) : Int).fdiv (2 ^ (min (m : Int).toNat IntKind.u32.bits)) = ((a / 2 ^ m : Nat) : Int) := by
  have h1 : min (m : Int).toNat IntKind.u32.bits = m := by show min (m : Int).toNat 32 = m; simp; omega
  rw [h1, Int.fdiv_eq_ediv_of_nonneg _ (Int.pow_nonneg (by decide))]
  have e : (2 : Int) ^ m = ((2 ^ m : Nat) : Int) := by rw [Int.natCast_pow]; rfl
  rw [e, Int.natCast_ediv]
theorem wrap_u8n (a : Nat) : IntKind.u8.wrap (a : Int) = ((a % 256 : Nat) : Int) := by rw [IntKind.wrap_u8]; omega

theorem two_c {W0 w : World} {L : List (Nat × MObj)} (n : Nat) (hs : St W0 w L) :
    FnC Try.prog 47 [I64 n] w (fun v w' => ∃ b, v = .slice (some ⟨b, 0, none⟩) 2 2 ∧ St W0 w' ((b, .cells [U8 (n / 2 ^ 8 % 256), U8 (n % 256)] 5) :: L)) := by
  refine FnC.enter Try.func47 rfl Try.ntmps47 rfl fun ρ => ?_
  refine s_seq ?_
  refine s_reg ?_
  refine l_q (by exact y_as_slice rfl) ?_
  refine l_end ?_
  refine e_then ?_
  refine s_seq ?_
  refine s_reg ?_
  refine l_q (by exact y_mv_int rfl) ?_
  refine l_q (by exact y_toInt (b := ((n / 2 ^ 8 : Nat) : Int)) (y_shr rfl rfl (by decide) rfl) (shr64 n 8 (by decide))) ?_
  refine l_q (by exact y_toInt (b := ((n / 2 ^ 8 % 256 : Nat) : Int)) (y_conv_int rfl rfl) (wrap_u8n _)) ?_
  refine l_q (by exact y_mv_int rfl) ?_
  refine l_q (by exact y_toInt (b := ((n % 256 : Nat) : Int)) (y_conv_int rfl rfl) (wrap_u8n _)) ?_
  refine l_w (w_buildSlice (pv := [(0, .int .u8 _), (1, .int .u8 _)]) (vs := [_, _]) hs rfl rfl rfl rfl (fun b8 w hs hb8 => ?_))
  refine l_q (by exact y_as_slice rfl) ?_
  refine l_end ?_
  refine e_then ?_
  refine s_ret ?_
  exact ret_ [.slice _ _ _] rfl ⟨rfl, trivial⟩ ⟨b8, rfl, hs⟩

abbrev fourB (n : Nat) : List Nat := [n / 2 ^ 24 % 256, n / 2 ^ 16 % 256, n / 2 ^ 8 % 256, n % 256]
theorem four_c {W0 w : World} {L : List (Nat × MObj)} (n : Nat) (hs : St W0 w L) :
    FnC Try.prog 48 [U32 n] w (fun v w' => ∃ b, v = .slice (some ⟨b, 0, none⟩) 4 4 ∧ St W0 w' ((b, .cells [U8 (n / 2 ^ 24 % 256), U8 (n / 2 ^ 16 % 256), U8 (n / 2 ^ 8 % 256), U8 (n % 256)] 5) :: L)) := by
  refine FnC.enter Try.func48 rfl Try.ntmps48 rfl fun ρ => ?_
  refine s_seq ?_
  refine s_reg ?_
  refine l_q (by exact y_as_slice rfl) ?_
  refine l_end ?_
  refine e_then ?_
  refine s_seq ?_
  refine s_reg ?_
  refine l_q (by exact y_mv_int rfl) ?_
  refine l_q (by exact y_toInt (b := ((n / 2 ^ 24 : Nat) : Int)) (y_shr rfl rfl (by decide) rfl) (shr32 n 24 (by decide))) ?_
  refine l_q (by exact y_toInt (b := ((n / 2 ^ 24 % 256 : Nat) : Int)) (y_conv_int rfl rfl) (wrap_u8n _)) ?_
  refine l_q (by exact y_mv_int rfl) ?_
  refine l_q (by exact y_toInt (b := ((n / 2 ^ 16 : Nat) : Int)) (y_shr rfl rfl (by decide) rfl) (shr32 n 16 (by decide))) ?_
  refine l_q (by exact y_toInt (b := ((n / 2 ^ 16 % 256 : Nat) : Int)) (y_conv_int rfl rfl) (wrap_u8n _)) ?_
  refine l_q (by exact y_mv_int rfl) ?_
  refine l_q (by exact y_toInt (b := ((n / 2 ^ 8 : Nat) : Int)) (y_shr rfl rfl (by decide) rfl) (shr32 n 8 (by decide))) ?_
  refine l_q (by exact y_toInt (b := ((n / 2 ^ 8 % 256 : Nat) : Int)) (y_conv_int rfl rfl) (wrap_u8n _)) ?_
  refine l_q (by exact y_mv_int rfl) ?_
  refine l_q (by exact y_toInt (b := ((n % 256 : Nat) : Int)) (y_conv_int rfl rfl) (wrap_u8n _)) ?_
  refine l_w (w_buildSlice (pv := [(0, .int .u8 _), (1, .int .u8 _), (2, .int .u8 _), (3, .int .u8 _)]) (vs := [_, _, _, _]) hs rfl rfl rfl rfl (fun b14 w hs hb14 => ?_))
  refine l_q (by exact y_as_slice rfl) ?_
  refine l_end ?_
  refine e_then ?_
  refine s_ret ?_
  exact ret_ [.slice _ _ _] rfl ⟨rfl, trivial⟩ ⟨b14, rfl, hs⟩

/-! ### Sum -/
theorem sum_c (s : ByteArray) (hsz : s.size ≤ 100000) (w : World) : FnC Try.prog 49 [.string s] w (fun v w' => (∃ n : Nat, v = I64 n ∧ n ≤ 65535) ∧ w' = w) := by
  refine FnC.enter Try.func49 rfl Try.ntmps49 rfl fun ρ => ?_
  refine s_seq ?_
  refine s_reg ?_
  refine l_q (by exact y_as_int rfl) ?_
  refine l_end ?_
  refine e_then ?_
  refine s_seq ?_
  refine s_reg ?_
  refine l_q (by exact y_as_int rfl) ?_
  refine l_end ?_
  refine e_then ?_
  refine s_seq ?_
  refine s_seq ?_
  refine s_reg ?_
  refine l_q (by exact y_as_int rfl) ?_
  refine l_end ?_
  refine e_then ?_
  refine s_block ?_
  refine loop_st (X := Nat × Nat) (fun y => [(0, .string s), (3, I64 y.2), (4, I64 y.1)]) (fun y w' => w' = w ∧ y.1 ≤ s.size ∧ y.2 ≤ 65536 * y.1) (fun y => s.size - y.1) (0, 0) ⟨rfl, rfl, rfl, trivial⟩ ⟨rfl, by dsimp only; omega, by dsimp only; omega⟩ ?_
  rintro ⟨i, k⟩ ρ w' ⟨rfl, i1, k1⟩
  dsimp only at *
  by_cases c : i < s.size
  · have hb := byteF_lt s i
    by_cases c2 : i % 2 = 0
    · refine s_seq ?_
      refine s_seq ?_
      refine s_reg ?_
      refine l_q (by exact y_mv_int rfl) ?_
      refine l_q (by exact y_mv_str rfl) ?_
      refine l_q (by exact y_len_str rfl) ?_
      refine l_q (by first | exact y_lss rfl rfl (decide_eq_true (by omega)) | exact y_lss rfl rfl (decide_eq_false (by omega)) | exact y_lss rfl rfl rfl) ?_
      refine l_end ?_
      refine e_then ?_
      refine cond_t rfl ?_
      refine s_skip ?_
      refine e_then ?_
      refine s_seq ?_
      refine s_block ?_
      refine s_seq ?_
      refine s_reg ?_
      refine l_q (by exact y_mv_int rfl) ?_
      refine l_q (by first | exact y_remn rfl rfl (by omega) | exact y_rem rfl rfl (by first | decide | omega) rfl) ?_
      refine l_q (by first | exact y_eql rfl rfl (decide_eq_true (by omega)) | exact y_eql rfl rfl (decide_eq_false (by omega)) | exact y_eql rfl rfl rfl) ?_
      refine l_end ?_
      refine e_then ?_
      refine cond_t rfl ?_
      refine s_reg ?_
      refine l_q (by exact y_mv_int rfl) ?_
      refine l_q (by exact y_mv_str rfl) ?_
      refine l_q (by exact y_mv_int rfl) ?_
      refine l_q (by exact y_toInt (b := ((byteF s i : Nat) : Int)) (y_idx_str (s := s) (j := (i : Int)) rfl rfl (by omega) (show (i : Int).toNat < s.size from c)) (byteF_at c)) ?_
      refine l_q (by exact y_toInt (b := ((byteF s i : Nat) : Int)) (y_conv_int rfl rfl) (by rw [IntKind.wrap_i64]; have := byteF_lt s i; omega)) ?_
      refine l_q (by exact y_toInt (b := ((byteF s i * 256 : Nat) : Int)) (y_shl rfl rfl (by decide) rfl) (shl8 (byteF_lt _ _))) ?_
      refine l_q (by first | exact y_addn rfl rfl (by omega) | exact y_add rfl rfl rfl) ?_
      refine l_q (by exact y_as_int rfl) ?_
      refine l_end ?_
      refine e_blk ?_
      refine e_then ?_
      refine s_reg ?_
      refine l_q (by exact y_mv_int rfl) ?_
      refine l_q (by first | exact y_addn rfl rfl (by omega) | exact y_add rfl rfl rfl) ?_
      refine l_q (by exact y_as_int rfl) ?_
      refine l_end ?_
      refine e_then ?_
      exact ⟨(i + 1, k + byteF s i * 256), _, nx ⟨rfl, rfl, rfl, trivial⟩, ⟨rfl, by dsimp only; omega, by dsimp only; omega⟩, by dsimp only; omega⟩
    · refine s_seq ?_
      refine s_seq ?_
      refine s_reg ?_
      refine l_q (by exact y_mv_int rfl) ?_
      refine l_q (by exact y_mv_str rfl) ?_
      refine l_q (by exact y_len_str rfl) ?_
      refine l_q (by first | exact y_lss rfl rfl (decide_eq_true (by omega)) | exact y_lss rfl rfl (decide_eq_false (by omega)) | exact y_lss rfl rfl rfl) ?_
      refine l_end ?_
      refine e_then ?_
      refine cond_t rfl ?_
      refine s_skip ?_
      refine e_then ?_
      refine s_seq ?_
      refine s_block ?_
      refine s_seq ?_
      refine s_reg ?_
      refine l_q (by exact y_mv_int rfl) ?_
      refine l_q (by first | exact y_remn rfl rfl (by omega) | exact y_rem rfl rfl (by first | decide | omega) rfl) ?_
      refine l_q (by first | exact y_eql rfl rfl (decide_eq_true (by omega)) | exact y_eql rfl rfl (decide_eq_false (by omega)) | exact y_eql rfl rfl rfl) ?_
      refine l_end ?_
      refine e_then ?_
      refine cond_f rfl ?_
      refine s_reg ?_
      refine l_q (by exact y_mv_int rfl) ?_
      refine l_q (by exact y_mv_str rfl) ?_
      refine l_q (by exact y_mv_int rfl) ?_
      refine l_q (by exact y_toInt (b := ((byteF s i : Nat) : Int)) (y_idx_str (s := s) (j := (i : Int)) rfl rfl (by omega) (show (i : Int).toNat < s.size from c)) (byteF_at c)) ?_
      refine l_q (by exact y_toInt (b := ((byteF s i : Nat) : Int)) (y_conv_int rfl rfl) (by rw [IntKind.wrap_i64]; have := byteF_lt s i; omega)) ?_
      refine l_q (by first | exact y_addn rfl rfl (by omega) | exact y_add rfl rfl rfl) ?_
      refine l_q (by exact y_as_int rfl) ?_
      refine l_end ?_
      refine e_blk ?_
      refine e_then ?_
      refine s_reg ?_
      refine l_q (by exact y_mv_int rfl) ?_
      refine l_q (by first | exact y_addn rfl rfl (by omega) | exact y_add rfl rfl rfl) ?_
      refine l_q (by exact y_as_int rfl) ?_
      refine l_end ?_
      refine e_then ?_
      exact ⟨(i + 1, k + byteF s i), _, nx ⟨rfl, rfl, rfl, trivial⟩, ⟨rfl, by dsimp only; omega, by dsimp only; omega⟩, by dsimp only; omega⟩
  · refine s_seq ?_
    refine s_seq ?_
    refine s_reg ?_
    refine l_q (by exact y_mv_int rfl) ?_
    refine l_q (by exact y_mv_str rfl) ?_
    refine l_q (by exact y_len_str rfl) ?_
    refine l_q (by first | exact y_lss rfl rfl (decide_eq_true (by omega)) | exact y_lss rfl rfl (decide_eq_false (by omega)) | exact y_lss rfl rfl rfl) ?_
    refine l_end ?_
    refine e_then ?_
    refine cond_f rfl ?_
    refine s_exit ?_
    refine e_then_x ?_
    refine e_then_x ?_
    refine e_blk_x ?_
    refine e_then ?_
    refine s_seq ?_
    refine s_block ?_
    refine loop_st (X := Nat) (fun k => [(3, I64 k)]) (fun k w'' => w'' = w' ∧ k ≤ 65536 * 100000) (fun k => k) k ⟨rfl, trivial⟩ ⟨rfl, by omega⟩ ?_
    clear k1
    clear k
    rintro k ρ w'' ⟨rfl, k1⟩
    by_cases c3 : 65535 < k
    · have h16 : k / 2 ^ 16 = k / 65536 := rfl
      refine s_seq ?_
      refine s_seq ?_
      refine s_reg ?_
      refine l_q (by exact y_mv_int rfl) ?_
      refine l_q (by first | exact y_gtr rfl rfl (decide_eq_true (by omega)) | exact y_gtr rfl rfl (decide_eq_false (by omega)) | exact y_gtr rfl rfl rfl) ?_
      refine l_end ?_
      refine e_then ?_
      refine cond_t rfl ?_
      refine s_skip ?_
      refine e_then ?_
      refine s_block ?_
      refine s_reg ?_
      refine l_q (by exact y_mv_int rfl) ?_
      refine l_q (by exact y_toInt (b := ((k % 65536 : Nat) : Int)) (y_and64 rfl rfl (by omega) (by decide)) (congrArg (fun z : Nat => (z : Int)) (Nat.and_two_pow_sub_one_eq_mod k 16))) ?_
      refine l_q (by exact y_mv_int rfl) ?_
      refine l_q (by exact y_toInt (b := ((k / 2 ^ 16 : Nat) : Int)) (y_shr rfl rfl (by decide) rfl) (shr64 k 16 (by decide))) ?_
      refine l_q (by first | exact y_addn rfl rfl (by omega) | exact y_add rfl rfl rfl) ?_
      refine l_q (by exact y_as_int rfl) ?_
      refine l_end ?_
      refine e_blk ?_
      refine e_then ?_
      exact ⟨k % 65536 + k / 2 ^ 16, _, nx ⟨rfl, trivial⟩, ⟨rfl, by omega⟩, by omega⟩
    · refine s_seq ?_
      refine s_seq ?_
      refine s_reg ?_
      refine l_q (by exact y_mv_int rfl) ?_
      refine l_q (by first | exact y_gtr rfl rfl (decide_eq_true (by omega)) | exact y_gtr rfl rfl (decide_eq_false (by omega)) | exact y_gtr rfl rfl rfl) ?_
      refine l_end ?_
      refine e_then ?_
      refine cond_f rfl ?_
      refine s_exit ?_
      refine e_then_x ?_
      refine e_then_x ?_
      refine e_blk_x ?_
      refine e_then ?_
      refine s_seq ?_
      refine s_reg ?_
      refine l_q (by exact y_mv_int rfl) ?_
      refine l_q (by first | exact y_subn rfl rfl (by omega) | exact y_sub rfl rfl rfl) ?_
      refine l_q (by exact y_as_int rfl) ?_
      refine l_end ?_
      refine e_then ?_
      refine s_ret ?_
      exact ret_ [.int .i64 _] rfl ⟨rfl, trivial⟩ ⟨⟨65535 - k, by show Value.int _ _ = Value.int _ _; congr 1; omega, by omega⟩, rfl⟩
end Go.Proofs.Ytagdgalnaobpeaa
