/- Facts on the functions and types of this seat that its laws are proved from: contracts under the premises that each theorem names. -/
import Derived.Test.YtfjniocobcoepaaFa
set_option linter.unusedSimpArgs false
set_option linter.unusedVariables false
set_option linter.unnecessarySimpa false
namespace Go.Proofs.Ytfjniocobcoepaa
open Go Go.RowKit PB
set_option linter.unusedVariables false
set_option linter.unusedSimpArgs false

abbrev U32 (n : Int) : Value := .int .u32 n

/-! ### in, badRange -/
theorem in_c (n lo hi : Int) (w : World) : FnC Try.prog 47 [I64 n, I64 lo, I64 hi] w (fun v w' => v = .bool (decide (lo ≤ n ∧ n ≤ hi)) ∧ w' = w) := by
  refine FnC.enter Try.func47 rfl Try.ntmps47 rfl fun ρ => ?_
  by_cases c : lo ≤ n
  · by_cases c2 : n ≤ hi
    · rw [decide_eq_true (show lo ≤ n ∧ n ≤ hi from ⟨c, c2⟩)]
      refine s_seq ?_
      refine s_reg ?_
      refine l_q (by exact y_as_bool rfl) ?_
      refine l_end ?_
      refine e_then ?_
      refine s_seq ?_
      refine s_reg ?_
      refine l_q (by exact y_mv_int rfl) ?_
      refine l_q (by exact y_mv_int rfl) ?_
      refine l_q (by first | exact y_geq rfl rfl (decide_eq_true (by omega)) | exact y_geq rfl rfl (decide_eq_false (by omega)) | exact y_geq rfl rfl rfl) ?_
      refine l_q (by exact y_mv_bool rfl) ?_
      first | refine l_gskip rfl rfl ?_ | refine l_gskip_u rfl rfl ?_ | refine l_gdo rfl rfl (by exact y_mv_int rfl) ?_
      first | refine l_gskip rfl rfl ?_ | refine l_gskip_u rfl rfl ?_ | refine l_gdo rfl rfl (by exact y_mv_int rfl) ?_
      first | refine l_gskip rfl rfl ?_ | refine l_gskip_u rfl rfl ?_ | refine l_gdo rfl rfl (by first | exact y_leq rfl rfl (decide_eq_true (by omega)) | exact y_leq rfl rfl (decide_eq_false (by omega)) | exact y_leq rfl rfl rfl) ?_
      refine l_q (by first | exact y_pk_bt rfl rfl | exact y_pk_bf rfl rfl) ?_
      refine l_q (by exact y_as_bool rfl) ?_
      refine l_end ?_
      refine e_then ?_
      refine s_ret ?_
      exact ret_ [.bool _] rfl ⟨rfl, trivial⟩ ⟨rfl, rfl⟩
    · rw [decide_eq_false (show ¬ (lo ≤ n ∧ n ≤ hi) from fun h => c2 h.2)]
      refine s_seq ?_
      refine s_reg ?_
      refine l_q (by exact y_as_bool rfl) ?_
      refine l_end ?_
      refine e_then ?_
      refine s_seq ?_
      refine s_reg ?_
      refine l_q (by exact y_mv_int rfl) ?_
      refine l_q (by exact y_mv_int rfl) ?_
      refine l_q (by first | exact y_geq rfl rfl (decide_eq_true (by omega)) | exact y_geq rfl rfl (decide_eq_false (by omega)) | exact y_geq rfl rfl rfl) ?_
      refine l_q (by exact y_mv_bool rfl) ?_
      first | refine l_gskip rfl rfl ?_ | refine l_gskip_u rfl rfl ?_ | refine l_gdo rfl rfl (by exact y_mv_int rfl) ?_
      first | refine l_gskip rfl rfl ?_ | refine l_gskip_u rfl rfl ?_ | refine l_gdo rfl rfl (by exact y_mv_int rfl) ?_
      first | refine l_gskip rfl rfl ?_ | refine l_gskip_u rfl rfl ?_ | refine l_gdo rfl rfl (by first | exact y_leq rfl rfl (decide_eq_true (by omega)) | exact y_leq rfl rfl (decide_eq_false (by omega)) | exact y_leq rfl rfl rfl) ?_
      refine l_q (by first | exact y_pk_bt rfl rfl | exact y_pk_bf rfl rfl) ?_
      refine l_q (by exact y_as_bool rfl) ?_
      refine l_end ?_
      refine e_then ?_
      refine s_ret ?_
      exact ret_ [.bool _] rfl ⟨rfl, trivial⟩ ⟨rfl, rfl⟩
  · rw [decide_eq_false (show ¬ (lo ≤ n ∧ n ≤ hi) from fun h => c h.1)]
    refine s_seq ?_
    refine s_reg ?_
    refine l_q (by exact y_as_bool rfl) ?_
    refine l_end ?_
    refine e_then ?_
    refine s_seq ?_
    refine s_reg ?_
    refine l_q (by exact y_mv_int rfl) ?_
    refine l_q (by exact y_mv_int rfl) ?_
    refine l_q (by first | exact y_geq rfl rfl (decide_eq_true (by omega)) | exact y_geq rfl rfl (decide_eq_false (by omega)) | exact y_geq rfl rfl rfl) ?_
    refine l_q (by exact y_mv_bool rfl) ?_
    first | refine l_gskip rfl rfl ?_ | refine l_gskip_u rfl rfl ?_ | refine l_gdo rfl rfl (by exact y_mv_int rfl) ?_
    first | refine l_gskip rfl rfl ?_ | refine l_gskip_u rfl rfl ?_ | refine l_gdo rfl rfl (by exact y_mv_int rfl) ?_
    first | refine l_gskip rfl rfl ?_ | refine l_gskip_u rfl rfl ?_ | refine l_gdo rfl rfl (by first | exact y_leq rfl rfl (decide_eq_true (by omega)) | exact y_leq rfl rfl (decide_eq_false (by omega)) | exact y_leq rfl rfl rfl) ?_
    refine l_q (by first | exact y_pk_bt rfl rfl | exact y_pk_bf rfl rfl) ?_
    refine l_q (by exact y_as_bool rfl) ?_
    refine l_end ?_
    refine e_then ?_
    refine s_ret ?_
    exact ret_ [.bool _] rfl ⟨rfl, trivial⟩ ⟨rfl, rfl⟩

def badR (a b : Int) : Prop := a < 0 ∨ b < a ∨ 65535 < b
instance (a b : Int) : Decidable (badR a b) := by unfold badR; infer_instance
theorem bad_c (a b : Int) (w : World) : FnC Try.prog 48 [I64 a, I64 b] w (fun v w' => v = .bool (decide (badR a b)) ∧ w' = w) := by
  refine FnC.enter Try.func48 rfl Try.ntmps48 rfl fun ρ => ?_
  by_cases c1 : a < 0
  · rw [decide_eq_true (show badR a b from .inl c1)]
    refine s_seq ?_
    refine s_reg ?_
    refine l_q (by exact y_as_bool rfl) ?_
    refine l_end ?_
    refine e_then ?_
    refine s_seq ?_
    refine s_reg ?_
    refine l_q (by exact y_mv_int rfl) ?_
    refine l_q (by first | exact y_lss rfl rfl (decide_eq_true (by omega)) | exact y_lss rfl rfl (decide_eq_false (by omega)) | exact y_lss rfl rfl rfl) ?_
    refine l_q (by exact y_mv_bool rfl) ?_
    first | refine l_gskip rfl rfl ?_ | refine l_gskip_u rfl rfl ?_ | refine l_gdo rfl rfl (by exact y_mv_int rfl) ?_
    first | refine l_gskip rfl rfl ?_ | refine l_gskip_u rfl rfl ?_ | refine l_gdo rfl rfl (by exact y_mv_int rfl) ?_
    first | refine l_gskip rfl rfl ?_ | refine l_gskip_u rfl rfl ?_ | refine l_gdo rfl rfl (by first | exact y_gtr rfl rfl (decide_eq_true (by omega)) | exact y_gtr rfl rfl (decide_eq_false (by omega)) | exact y_gtr rfl rfl rfl) ?_
    refine l_q (by first | exact y_pk_bt rfl rfl | exact y_pk_bf rfl rfl) ?_
    refine l_q (by exact y_mv_bool rfl) ?_
    first | refine l_gskip rfl rfl ?_ | refine l_gskip_u rfl rfl ?_ | refine l_gdo rfl rfl (by exact y_mv_int rfl) ?_
    first | refine l_gskip rfl rfl ?_ | refine l_gskip_u rfl rfl ?_ | refine l_gdo rfl rfl (by first | exact y_gtr rfl rfl (decide_eq_true (by omega)) | exact y_gtr rfl rfl (decide_eq_false (by omega)) | exact y_gtr rfl rfl rfl) ?_
    refine l_q (by first | exact y_pk_bt rfl rfl | exact y_pk_bf rfl rfl) ?_
    refine l_q (by exact y_as_bool rfl) ?_
    refine l_end ?_
    refine e_then ?_
    refine s_ret ?_
    exact ret_ [.bool _] rfl ⟨rfl, trivial⟩ ⟨rfl, rfl⟩
  · by_cases c2 : b < a
    · rw [decide_eq_true (show badR a b from .inr (.inl c2))]
      refine s_seq ?_
      refine s_reg ?_
      refine l_q (by exact y_as_bool rfl) ?_
      refine l_end ?_
      refine e_then ?_
      refine s_seq ?_
      refine s_reg ?_
      refine l_q (by exact y_mv_int rfl) ?_
      refine l_q (by first | exact y_lss rfl rfl (decide_eq_true (by omega)) | exact y_lss rfl rfl (decide_eq_false (by omega)) | exact y_lss rfl rfl rfl) ?_
      refine l_q (by exact y_mv_bool rfl) ?_
      first | refine l_gskip rfl rfl ?_ | refine l_gskip_u rfl rfl ?_ | refine l_gdo rfl rfl (by exact y_mv_int rfl) ?_
      first | refine l_gskip rfl rfl ?_ | refine l_gskip_u rfl rfl ?_ | refine l_gdo rfl rfl (by exact y_mv_int rfl) ?_
      first | refine l_gskip rfl rfl ?_ | refine l_gskip_u rfl rfl ?_ | refine l_gdo rfl rfl (by first | exact y_gtr rfl rfl (decide_eq_true (by omega)) | exact y_gtr rfl rfl (decide_eq_false (by omega)) | exact y_gtr rfl rfl rfl) ?_
      refine l_q (by first | exact y_pk_bt rfl rfl | exact y_pk_bf rfl rfl) ?_
      refine l_q (by exact y_mv_bool rfl) ?_
      first | refine l_gskip rfl rfl ?_ | refine l_gskip_u rfl rfl ?_ | refine l_gdo rfl rfl (by exact y_mv_int rfl) ?_
      first | refine l_gskip rfl rfl ?_ | refine l_gskip_u rfl rfl ?_ | refine l_gdo rfl rfl (by first | exact y_gtr rfl rfl (decide_eq_true (by omega)) | exact y_gtr rfl rfl (decide_eq_false (by omega)) | exact y_gtr rfl rfl rfl) ?_
      refine l_q (by first | exact y_pk_bt rfl rfl | exact y_pk_bf rfl rfl) ?_
      refine l_q (by exact y_as_bool rfl) ?_
      refine l_end ?_
      refine e_then ?_
      refine s_ret ?_
      exact ret_ [.bool _] rfl ⟨rfl, trivial⟩ ⟨rfl, rfl⟩
    · by_cases c3 : 65535 < b
      · rw [decide_eq_true (show badR a b from .inr (.inr c3))]
        refine s_seq ?_
        refine s_reg ?_
        refine l_q (by exact y_as_bool rfl) ?_
        refine l_end ?_
        refine e_then ?_
        refine s_seq ?_
        refine s_reg ?_
        refine l_q (by exact y_mv_int rfl) ?_
        refine l_q (by first | exact y_lss rfl rfl (decide_eq_true (by omega)) | exact y_lss rfl rfl (decide_eq_false (by omega)) | exact y_lss rfl rfl rfl) ?_
        refine l_q (by exact y_mv_bool rfl) ?_
        first | refine l_gskip rfl rfl ?_ | refine l_gskip_u rfl rfl ?_ | refine l_gdo rfl rfl (by exact y_mv_int rfl) ?_
        first | refine l_gskip rfl rfl ?_ | refine l_gskip_u rfl rfl ?_ | refine l_gdo rfl rfl (by exact y_mv_int rfl) ?_
        first | refine l_gskip rfl rfl ?_ | refine l_gskip_u rfl rfl ?_ | refine l_gdo rfl rfl (by first | exact y_gtr rfl rfl (decide_eq_true (by omega)) | exact y_gtr rfl rfl (decide_eq_false (by omega)) | exact y_gtr rfl rfl rfl) ?_
        refine l_q (by first | exact y_pk_bt rfl rfl | exact y_pk_bf rfl rfl) ?_
        refine l_q (by exact y_mv_bool rfl) ?_
        first | refine l_gskip rfl rfl ?_ | refine l_gskip_u rfl rfl ?_ | refine l_gdo rfl rfl (by exact y_mv_int rfl) ?_
        first | refine l_gskip rfl rfl ?_ | refine l_gskip_u rfl rfl ?_ | refine l_gdo rfl rfl (by first | exact y_gtr rfl rfl (decide_eq_true (by omega)) | exact y_gtr rfl rfl (decide_eq_false (by omega)) | exact y_gtr rfl rfl rfl) ?_
        refine l_q (by first | exact y_pk_bt rfl rfl | exact y_pk_bf rfl rfl) ?_
        refine l_q (by exact y_as_bool rfl) ?_
        refine l_end ?_
        refine e_then ?_
        refine s_ret ?_
        exact ret_ [.bool _] rfl ⟨rfl, trivial⟩ ⟨rfl, rfl⟩
      · rw [decide_eq_false (show ¬ badR a b by unfold badR; omega)]
        refine s_seq ?_
        refine s_reg ?_
        refine l_q (by exact y_as_bool rfl) ?_
        refine l_end ?_
        refine e_then ?_
        refine s_seq ?_
        refine s_reg ?_
        refine l_q (by exact y_mv_int rfl) ?_
        refine l_q (by first | exact y_lss rfl rfl (decide_eq_true (by omega)) | exact y_lss rfl rfl (decide_eq_false (by omega)) | exact y_lss rfl rfl rfl) ?_
        refine l_q (by exact y_mv_bool rfl) ?_
        first | refine l_gskip rfl rfl ?_ | refine l_gskip_u rfl rfl ?_ | refine l_gdo rfl rfl (by exact y_mv_int rfl) ?_
        first | refine l_gskip rfl rfl ?_ | refine l_gskip_u rfl rfl ?_ | refine l_gdo rfl rfl (by exact y_mv_int rfl) ?_
        first | refine l_gskip rfl rfl ?_ | refine l_gskip_u rfl rfl ?_ | refine l_gdo rfl rfl (by first | exact y_gtr rfl rfl (decide_eq_true (by omega)) | exact y_gtr rfl rfl (decide_eq_false (by omega)) | exact y_gtr rfl rfl rfl) ?_
        refine l_q (by first | exact y_pk_bt rfl rfl | exact y_pk_bf rfl rfl) ?_
        refine l_q (by exact y_mv_bool rfl) ?_
        first | refine l_gskip rfl rfl ?_ | refine l_gskip_u rfl rfl ?_ | refine l_gdo rfl rfl (by exact y_mv_int rfl) ?_
        first | refine l_gskip rfl rfl ?_ | refine l_gskip_u rfl rfl ?_ | refine l_gdo rfl rfl (by first | exact y_gtr rfl rfl (decide_eq_true (by omega)) | exact y_gtr rfl rfl (decide_eq_false (by omega)) | exact y_gtr rfl rfl rfl) ?_
        refine l_q (by first | exact y_pk_bt rfl rfl | exact y_pk_bf rfl rfl) ?_
        refine l_q (by exact y_as_bool rfl) ?_
        refine l_end ?_
        refine e_then ?_
        refine s_ret ?_
        exact ret_ [.bool _] rfl ⟨rfl, trivial⟩ ⟨rfl, rfl⟩

/-! ### Mask, addr.Check, Has -/
/-- How many low bits are free. -/
def lowB (n : Int) : Nat := (32 - n).toNat
def maskF (n : Int) : Nat := if n < 0 ∨ 32 < n then 0 else 4294967296 - 2 ^ lowB n
theorem pow_le32 {k : Nat} (h : k ≤ 32) : 1 ≤ 2 ^ k ∧ 2 ^ k ≤ 4294967296 :=
  ⟨Nat.pow_pos (by decide), Nat.pow_le_pow_right (n := 2) (by decide) h⟩
theorem maskF_lt (n : Int) : maskF n < 4294967296 := by
  unfold maskF
  split
  · omega
  · have := (pow_le32 (k := lowB n) (by unfold lowB; omega)).1; omega

theorem mask_c (n : Int) (w : World) : FnC Try.prog 58 [I64 n] w (fun v w' => v = .tuple #[U32 (maskF n : Nat), I64 (if n < 0 ∨ 32 < n then 10 else 0)] ∧ w' = w) := by
  refine FnC.enter Try.func58 rfl Try.ntmps58 rfl fun ρ => ?_
  by_cases c1 : n < 0
  · have e : maskF n = 0 := by unfold maskF; rw [if_pos (.inl c1)]
    rw [e, if_pos (.inl c1)]
    refine s_seq ?_
    refine s_reg ?_
    refine l_q (by exact y_as_int rfl) ?_
    refine l_q (by exact y_as_int rfl) ?_
    refine l_end ?_
    refine e_then ?_
    refine s_seq ?_
    refine s_seq ?_
    refine s_reg ?_
    refine l_q (by exact y_mv_int rfl) ?_
    refine l_q (by first | exact y_lss rfl rfl (decide_eq_true (by omega)) | exact y_lss rfl rfl (decide_eq_false (by omega)) | exact y_lss rfl rfl rfl) ?_
    refine l_q (by exact y_mv_bool rfl) ?_
    first | refine l_gskip rfl rfl ?_ | refine l_gskip_u rfl rfl ?_ | refine l_gdo rfl rfl (by exact y_mv_int rfl) ?_
    first | refine l_gskip rfl rfl ?_ | refine l_gskip_u rfl rfl ?_ | refine l_gdo rfl rfl (by first | exact y_gtr rfl rfl (decide_eq_true (by omega)) | exact y_gtr rfl rfl (decide_eq_false (by omega)) | exact y_gtr rfl rfl rfl) ?_
    refine l_q (by first | exact y_pk_bt rfl rfl | exact y_pk_bf rfl rfl) ?_
    refine l_end ?_
    refine e_then ?_
    refine cond_t rfl ?_
    refine s_seq ?_
    refine s_reg ?_
    refine l_q (by exact y_as_int rfl) ?_
    refine l_q (by exact y_as_int rfl) ?_
    refine l_end ?_
    refine e_then ?_
    refine s_ret ?_
    refine e_then_r ?_
    exact ret_ [.int .u32 _, .int .i64 _] rfl ⟨rfl, rfl, trivial⟩ ⟨rfl, rfl⟩
  · by_cases c2 : 32 < n
    · have e : maskF n = 0 := by unfold maskF; rw [if_pos (.inr c2)]
      rw [e, if_pos (.inr c2)]
      refine s_seq ?_
      refine s_reg ?_
      refine l_q (by exact y_as_int rfl) ?_
      refine l_q (by exact y_as_int rfl) ?_
      refine l_end ?_
      refine e_then ?_
      refine s_seq ?_
      refine s_seq ?_
      refine s_reg ?_
      refine l_q (by exact y_mv_int rfl) ?_
      refine l_q (by first | exact y_lss rfl rfl (decide_eq_true (by omega)) | exact y_lss rfl rfl (decide_eq_false (by omega)) | exact y_lss rfl rfl rfl) ?_
      refine l_q (by exact y_mv_bool rfl) ?_
      first | refine l_gskip rfl rfl ?_ | refine l_gskip_u rfl rfl ?_ | refine l_gdo rfl rfl (by exact y_mv_int rfl) ?_
      first | refine l_gskip rfl rfl ?_ | refine l_gskip_u rfl rfl ?_ | refine l_gdo rfl rfl (by first | exact y_gtr rfl rfl (decide_eq_true (by omega)) | exact y_gtr rfl rfl (decide_eq_false (by omega)) | exact y_gtr rfl rfl rfl) ?_
      refine l_q (by first | exact y_pk_bt rfl rfl | exact y_pk_bf rfl rfl) ?_
      refine l_end ?_
      refine e_then ?_
      refine cond_t rfl ?_
      refine s_seq ?_
      refine s_reg ?_
      refine l_q (by exact y_as_int rfl) ?_
      refine l_q (by exact y_as_int rfl) ?_
      refine l_end ?_
      refine e_then ?_
      refine s_ret ?_
      refine e_then_r ?_
      exact ret_ [.int .u32 _, .int .i64 _] rfl ⟨rfl, rfl, trivial⟩ ⟨rfl, rfl⟩
    · have e : maskF n = 4294967296 - 2 ^ lowB n := by unfold maskF; rw [if_neg (by omega)]
      have hsh : Value.int .u32 (maskF n : Nat) = .int .u32 (IntKind.u32.wrap (4294967295 * 2 ^ (min (32 - n).toNat IntKind.u32.bits))) := by
        have h32 : min (32 - n).toNat IntKind.u32.bits = lowB n := by
          show min (32 - n).toNat 32 = lowB n
          unfold lowB; omega
        have hp := pow_le32 (k := lowB n) (by unfold lowB; omega)
        rw [h32, e]
        have e2 : (4294967295 : Int) * 2 ^ lowB n = ((4294967296 - 2 ^ lowB n : Nat) : Int) + 4294967296 * ((2 ^ lowB n - 1 : Nat) : Int) := by
          have : ((2 : Int) ^ lowB n) = ((2 ^ lowB n : Nat) : Int) := by rw [Int.natCast_pow]; rfl
          rw [this]; omega
        rw [e2, IntKind.wrap_u32]
        congr 1
        omega
      rw [if_neg (by omega)]
      refine s_seq ?_
      refine s_reg ?_
      refine l_q (by exact y_as_int rfl) ?_
      refine l_q (by exact y_as_int rfl) ?_
      refine l_end ?_
      refine e_then ?_
      refine s_seq ?_
      refine s_seq ?_
      refine s_reg ?_
      refine l_q (by exact y_mv_int rfl) ?_
      refine l_q (by first | exact y_lss rfl rfl (decide_eq_true (by omega)) | exact y_lss rfl rfl (decide_eq_false (by omega)) | exact y_lss rfl rfl rfl) ?_
      refine l_q (by exact y_mv_bool rfl) ?_
      first | refine l_gskip rfl rfl ?_ | refine l_gskip_u rfl rfl ?_ | refine l_gdo rfl rfl (by exact y_mv_int rfl) ?_
      first | refine l_gskip rfl rfl ?_ | refine l_gskip_u rfl rfl ?_ | refine l_gdo rfl rfl (by first | exact y_gtr rfl rfl (decide_eq_true (by omega)) | exact y_gtr rfl rfl (decide_eq_false (by omega)) | exact y_gtr rfl rfl rfl) ?_
      refine l_q (by first | exact y_pk_bt rfl rfl | exact y_pk_bf rfl rfl) ?_
      refine l_end ?_
      refine e_then ?_
      refine cond_f rfl ?_
      refine s_skip ?_
      refine e_then ?_
      refine s_seq ?_
      refine s_reg ?_
      refine l_q (by exact y_mv_int rfl) ?_
      refine l_q (by first | exact y_subn rfl rfl (by omega) | exact y_sub rfl rfl rfl) ?_
      refine l_q (by exact y_shl (v := .int .u32 (maskF n : Nat)) rfl rfl (by omega) hsh) ?_
      refine l_q (by exact y_as_int rfl) ?_
      refine l_q (by exact y_as_int rfl) ?_
      refine l_end ?_
      refine e_then ?_
      refine s_ret ?_
      exact ret_ [.int .u32 _, .int .i64 _] rfl ⟨rfl, rfl, trivial⟩ ⟨rfl, rfl⟩

/-- addr.Check. -/
def aChk (a : Nat) (n : Int) : Int := if n < 0 ∨ 32 < n then 10 else if a % 2 ^ lowB n ≠ 0 then 3 else 0
theorem and_eq {a : Nat} {n : Int} (h0 : ¬ (n < 0 ∨ 32 < n)) : a &&& (4294967295 - maskF n) = a % 2 ^ lowB n := by
  unfold maskF; rw [if_neg h0]
  exact and_low (by unfold lowB; omega)

theorem acheck_c {W0 w : World} {L : List (Nat × MObj)} {a : Nat} (n : Int) (ha : a < 4294967296) (hs : St W0 w L) : FnC Try.prog 46 [.agg #[U32 a, I64 n]] w (fun v w' => v = I64 (aChk a n) ∧ St W0 w' L) := by
  refine FnC.enter Try.func46 rfl Try.ntmps46 rfl fun ρ => ?_
  by_cases c1 : n < 0 ∨ 32 < n
  · have e : aChk a n = 10 := by unfold aChk; rw [if_pos c1]
    have e2 : (if n < 0 ∨ 32 < n then (10 : Int) else 0) = 10 := if_pos c1
    refine s_seq ?_
    refine s_reg ?_
    refine l_w (w_boxA (vs := [_, _]) hs rfl (fun b1 w hs hb1 => ?_))
    refine l_q (by exact y_as_int rfl) ?_
    refine l_end ?_
    refine e_then ?_
    refine s_seq ?_
    refine s_reg ?_
    refine l_q (by exact y_field rfl) ?_
    refine l_q (by exact y_ld hs rfl rfl) ?_
    refine l_w (w_call rfl (mask_c _ _) rfl (fun _ w h => ?_))
    obtain ⟨rfl, rfl⟩ := h
    refine l_q (by exact y_mv_tuple rfl) ?_
    refine l_q (by exact y_extract rfl rfl) ?_
    refine l_q (by exact y_extract rfl rfl) ?_
    refine l_q (by exact y_as_int rfl) ?_
    refine l_q (by exact y_as_int rfl) ?_
    refine l_end ?_
    refine e_then ?_
    refine s_seq ?_
    refine s_block ?_
    refine s_seq ?_
    refine s_reg ?_
    refine l_q (by exact y_mv_int rfl) ?_
    refine l_q (by first | exact y_neq rfl rfl (decide_eq_true (by omega)) | exact y_neq rfl rfl (decide_eq_false (by omega)) | exact y_neq rfl rfl rfl) ?_
    refine l_q (by exact y_as_bool rfl) ?_
    refine l_end ?_
    refine e_then ?_
    refine cond_t rfl ?_
    refine s_seq ?_
    refine s_reg ?_
    refine l_q (by exact y_mv_int rfl) ?_
    refine l_q (by exact y_as_int rfl) ?_
    refine l_end ?_
    refine e_then ?_
    refine s_ret ?_
    refine e_blk_r ?_
    refine e_then_r ?_
    exact ret_ [.int .i64 _] rfl ⟨rfl, trivial⟩ ⟨by rw [e]; show Value.int _ _ = _; rw [e2], hs.tail⟩
  · have e2 : (if n < 0 ∨ 32 < n then (10 : Int) else 0) = 0 := if_neg c1
    have he := and_eq (a := a) c1
    by_cases c2 : a % 2 ^ lowB n ≠ 0
    · have e : aChk a n = 3 := by unfold aChk; rw [if_neg c1, if_pos c2]
      refine s_seq ?_
      refine s_reg ?_
      refine l_w (w_boxA (vs := [_, _]) hs rfl (fun b1 w hs hb1 => ?_))
      refine l_q (by exact y_as_int rfl) ?_
      refine l_end ?_
      refine e_then ?_
      refine s_seq ?_
      refine s_reg ?_
      refine l_q (by exact y_field rfl) ?_
      refine l_q (by exact y_ld hs rfl rfl) ?_
      refine l_w (w_call rfl (mask_c _ _) rfl (fun _ w h => ?_))
      obtain ⟨rfl, rfl⟩ := h
      refine l_q (by exact y_mv_tuple rfl) ?_
      refine l_q (by exact y_extract rfl rfl) ?_
      refine l_q (by exact y_extract rfl rfl) ?_
      refine l_q (by exact y_as_int rfl) ?_
      refine l_q (by exact y_as_int rfl) ?_
      refine l_end ?_
      refine e_then ?_
      refine s_seq ?_
      refine s_block ?_
      refine s_seq ?_
      refine s_reg ?_
      refine l_q (by exact y_mv_int rfl) ?_
      refine l_q (by first | exact y_neq rfl rfl (decide_eq_true (by omega)) | exact y_neq rfl rfl (decide_eq_false (by omega)) | exact y_neq rfl rfl rfl) ?_
      refine l_q (by exact y_as_bool rfl) ?_
      refine l_end ?_
      refine e_then ?_
      refine cond_f rfl ?_
      refine s_seq ?_
      refine s_reg ?_
      refine l_q (by exact y_field rfl) ?_
      refine l_q (by exact y_ld hs rfl rfl) ?_
      refine l_q (by exact y_mv_int rfl) ?_
      refine l_q (by exact y_andnot32 rfl rfl ha (maskF_lt n)) ?_
      refine l_q (by first | exact y_neq rfl rfl (decide_eq_true (by omega)) | exact y_neq rfl rfl (decide_eq_false (by omega)) | exact y_neq rfl rfl rfl) ?_
      refine l_q (by exact y_as_bool rfl) ?_
      refine l_end ?_
      refine e_then ?_
      refine cond_t rfl ?_
      refine s_seq ?_
      refine s_reg ?_
      refine l_q (by exact y_as_int rfl) ?_
      refine l_end ?_
      refine e_then ?_
      refine s_ret ?_
      refine e_blk_r ?_
      refine e_then_r ?_
      exact ret_ [.int .i64 _] rfl ⟨rfl, trivial⟩ ⟨by rw [e]; rfl, hs.tail⟩
    · have e : aChk a n = 0 := by unfold aChk; rw [if_neg c1, if_neg c2]
      refine s_seq ?_
      refine s_reg ?_
      refine l_w (w_boxA (vs := [_, _]) hs rfl (fun b1 w hs hb1 => ?_))
      refine l_q (by exact y_as_int rfl) ?_
      refine l_end ?_
      refine e_then ?_
      refine s_seq ?_
      refine s_reg ?_
      refine l_q (by exact y_field rfl) ?_
      refine l_q (by exact y_ld hs rfl rfl) ?_
      refine l_w (w_call rfl (mask_c _ _) rfl (fun _ w h => ?_))
      obtain ⟨rfl, rfl⟩ := h
      refine l_q (by exact y_mv_tuple rfl) ?_
      refine l_q (by exact y_extract rfl rfl) ?_
      refine l_q (by exact y_extract rfl rfl) ?_
      refine l_q (by exact y_as_int rfl) ?_
      refine l_q (by exact y_as_int rfl) ?_
      refine l_end ?_
      refine e_then ?_
      refine s_seq ?_
      refine s_block ?_
      refine s_seq ?_
      refine s_reg ?_
      refine l_q (by exact y_mv_int rfl) ?_
      refine l_q (by first | exact y_neq rfl rfl (decide_eq_true (by omega)) | exact y_neq rfl rfl (decide_eq_false (by omega)) | exact y_neq rfl rfl rfl) ?_
      refine l_q (by exact y_as_bool rfl) ?_
      refine l_end ?_
      refine e_then ?_
      refine cond_f rfl ?_
      refine s_seq ?_
      refine s_reg ?_
      refine l_q (by exact y_field rfl) ?_
      refine l_q (by exact y_ld hs rfl rfl) ?_
      refine l_q (by exact y_mv_int rfl) ?_
      refine l_q (by exact y_andnot32 rfl rfl ha (maskF_lt n)) ?_
      refine l_q (by first | exact y_neq rfl rfl (decide_eq_true (by omega)) | exact y_neq rfl rfl (decide_eq_false (by omega)) | exact y_neq rfl rfl rfl) ?_
      refine l_q (by exact y_as_bool rfl) ?_
      refine l_end ?_
      refine e_then ?_
      refine cond_f rfl ?_
      refine s_skip ?_
      refine e_blk ?_
      refine e_then ?_
      refine s_seq ?_
      refine s_reg ?_
      refine l_q (by exact y_as_int rfl) ?_
      refine l_end ?_
      refine e_then ?_
      refine s_ret ?_
      exact ret_ [.int .i64 _] rfl ⟨rfl, trivial⟩ ⟨by rw [e]; rfl, hs.tail⟩

/-- addr.Has. -/
def hasP (a : Nat) (n : Int) (x : Nat) : Prop := aChk a n = 0 ∧ x / 2 ^ lowB n = a / 2 ^ lowB n
instance (a : Nat) (n : Int) (x : Nat) : Decidable (hasP a n x) := by unfold hasP; infer_instance
theorem aChk_0 {a : Nat} {n : Int} (h : aChk a n = 0) : 0 ≤ n ∧ n ≤ 32 ∧ a % 2 ^ lowB n = 0 := by
  unfold aChk at h
  split at h
  · cases h
  · split at h
    · cases h
    · refine ⟨by omega, by omega, by omega⟩
theorem has_c {W0 w : World} {L : List (Nat × MObj)} {a x : Nat} (n : Int) (ha : a < 4294967296) (hx : x < 4294967296) (hs : St W0 w L) : FnC Try.prog 59 [.agg #[U32 a, I64 n], U32 x] w (fun v w' => v = .bool (decide (hasP a n x)) ∧ St W0 w' L) := by
  refine FnC.enter Try.func59 rfl Try.ntmps59 rfl fun ρ => ?_
  by_cases c1 : aChk a n = 0
  · obtain ⟨n0, n1, hm⟩ := aChk_0 c1
    have hl : lowB n ≤ 32 := by unfold lowB; omega
    have e1 : x &&& maskF n = x / 2 ^ lowB n * 2 ^ lowB n := by unfold maskF; rw [if_neg (by omega)]; exact and_mask hx hl
    have ea : a / 2 ^ lowB n * 2 ^ lowB n = a := by have := Nat.div_add_mod a (2 ^ lowB n); rw [hm, Nat.mul_comm] at this; omega
    have hp : 0 < 2 ^ lowB n := Nat.pow_pos (by decide)
    by_cases c2 : x / 2 ^ lowB n = a / 2 ^ lowB n
    · have e3 : ((x &&& maskF n : Nat) : Int) = (a : Int) := by rw [e1, c2, ea]
      rw [decide_eq_true (show hasP a n x from ⟨c1, c2⟩)]
      refine s_seq ?_
      refine s_reg ?_
      refine l_w (w_boxA (vs := [_, _]) hs rfl (fun b2 w hs hb2 => ?_))
      refine l_q (by exact y_as_bool rfl) ?_
      refine l_end ?_
      refine e_then ?_
      refine s_seq ?_
      refine s_seq ?_
      refine s_reg ?_
      refine l_q (by exact y_ldA (vs := [_, _]) hs rfl rfl rfl) ?_
      refine l_w (w_call rfl (acheck_c n ha hs) rfl (fun _ w h => ?_))
      obtain ⟨rfl, hs⟩ := h
      refine l_q (by first | exact y_neq rfl rfl (decide_eq_true (by omega)) | exact y_neq rfl rfl (decide_eq_false (by omega)) | exact y_neq rfl rfl rfl) ?_
      refine l_end ?_
      refine e_then ?_
      refine cond_f rfl ?_
      refine s_skip ?_
      refine e_then ?_
      refine s_seq ?_
      refine s_reg ?_
      refine l_q (by exact y_field rfl) ?_
      refine l_q (by exact y_ld hs rfl rfl) ?_
      refine l_w (w_call rfl (mask_c _ _) rfl (fun _ w h => ?_))
      obtain ⟨rfl, rfl⟩ := h
      refine l_q (by exact y_mv_tuple rfl) ?_
      refine l_q (by exact y_extract rfl rfl) ?_
      refine l_q (by exact y_extract rfl rfl) ?_
      refine l_q (by exact y_as_int rfl) ?_
      refine l_q (by exact y_as_int rfl) ?_
      refine l_end ?_
      refine e_then ?_
      refine s_seq ?_
      refine s_reg ?_
      refine l_q (by exact y_mv_int rfl) ?_
      refine l_q (by exact y_mv_int rfl) ?_
      refine l_q (by exact y_and32 rfl rfl hx (maskF_lt n)) ?_
      refine l_q (by exact y_field rfl) ?_
      refine l_q (by exact y_ld hs rfl rfl) ?_
      refine l_q (by first | exact y_eql rfl rfl (decide_eq_true (by omega)) | exact y_eql rfl rfl (decide_eq_false (by omega)) | exact y_eql rfl rfl rfl) ?_
      refine l_q (by exact y_as_bool rfl) ?_
      refine l_end ?_
      refine e_then ?_
      refine s_ret ?_
      exact ret_ [.bool _] rfl ⟨rfl, trivial⟩ ⟨rfl, hs.tail⟩
    · have e3 : ((x &&& maskF n : Nat) : Int) ≠ (a : Int) := by
        intro h
        have h2 : x &&& maskF n = a := by exact_mod_cast h
        rw [e1] at h2
        apply c2
        rw [← h2, Nat.mul_div_cancel _ hp]
      rw [decide_eq_false (show ¬ hasP a n x from fun h => c2 h.2)]
      refine s_seq ?_
      refine s_reg ?_
      refine l_w (w_boxA (vs := [_, _]) hs rfl (fun b2 w hs hb2 => ?_))
      refine l_q (by exact y_as_bool rfl) ?_
      refine l_end ?_
      refine e_then ?_
      refine s_seq ?_
      refine s_seq ?_
      refine s_reg ?_
      refine l_q (by exact y_ldA (vs := [_, _]) hs rfl rfl rfl) ?_
      refine l_w (w_call rfl (acheck_c n ha hs) rfl (fun _ w h => ?_))
      obtain ⟨rfl, hs⟩ := h
      refine l_q (by first | exact y_neq rfl rfl (decide_eq_true (by omega)) | exact y_neq rfl rfl (decide_eq_false (by omega)) | exact y_neq rfl rfl rfl) ?_
      refine l_end ?_
      refine e_then ?_
      refine cond_f rfl ?_
      refine s_skip ?_
      refine e_then ?_
      refine s_seq ?_
      refine s_reg ?_
      refine l_q (by exact y_field rfl) ?_
      refine l_q (by exact y_ld hs rfl rfl) ?_
      refine l_w (w_call rfl (mask_c _ _) rfl (fun _ w h => ?_))
      obtain ⟨rfl, rfl⟩ := h
      refine l_q (by exact y_mv_tuple rfl) ?_
      refine l_q (by exact y_extract rfl rfl) ?_
      refine l_q (by exact y_extract rfl rfl) ?_
      refine l_q (by exact y_as_int rfl) ?_
      refine l_q (by exact y_as_int rfl) ?_
      refine l_end ?_
      refine e_then ?_
      refine s_seq ?_
      refine s_reg ?_
      refine l_q (by exact y_mv_int rfl) ?_
      refine l_q (by exact y_mv_int rfl) ?_
      refine l_q (by exact y_and32 rfl rfl hx (maskF_lt n)) ?_
      refine l_q (by exact y_field rfl) ?_
      refine l_q (by exact y_ld hs rfl rfl) ?_
      refine l_q (by first | exact y_eql rfl rfl (decide_eq_true (by omega)) | exact y_eql rfl rfl (decide_eq_false (by omega)) | exact y_eql rfl rfl rfl) ?_
      refine l_q (by exact y_as_bool rfl) ?_
      refine l_end ?_
      refine e_then ?_
      refine s_ret ?_
      exact ret_ [.bool _] rfl ⟨rfl, trivial⟩ ⟨rfl, hs.tail⟩
  · rw [decide_eq_false (show ¬ hasP a n x from fun h => c1 h.1)]
    refine s_seq ?_
    refine s_reg ?_
    refine l_w (w_boxA (vs := [_, _]) hs rfl (fun b2 w hs hb2 => ?_))
    refine l_q (by exact y_as_bool rfl) ?_
    refine l_end ?_
    refine e_then ?_
    refine s_seq ?_
    refine s_seq ?_
    refine s_reg ?_
    refine l_q (by exact y_ldA (vs := [_, _]) hs rfl rfl rfl) ?_
    refine l_w (w_call rfl (acheck_c n ha hs) rfl (fun _ w h => ?_))
    obtain ⟨rfl, hs⟩ := h
    refine l_q (by first | exact y_neq rfl rfl (decide_eq_true (by omega)) | exact y_neq rfl rfl (decide_eq_false (by omega)) | exact y_neq rfl rfl rfl) ?_
    refine l_end ?_
    refine e_then ?_
    refine cond_t rfl ?_
    refine s_seq ?_
    refine s_reg ?_
    refine l_q (by exact y_as_bool rfl) ?_
    refine l_end ?_
    refine e_then ?_
    refine s_ret ?_
    refine e_then_r ?_
    exact ret_ [.bool _] rfl ⟨rfl, trivial⟩ ⟨rfl, hs.tail⟩
end Go.Proofs.Ytfjniocobcoepaa
