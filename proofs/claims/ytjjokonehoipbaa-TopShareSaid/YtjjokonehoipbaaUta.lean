/- Facts on the functions and types of this seat that its laws are proved from: contracts under the premises that each theorem names. -/
import Derived.Test.YtjjokonehoipbaaFa
set_option linter.unusedSimpArgs false
set_option linter.unusedVariables false
set_option linter.unnecessarySimpa false
namespace Go.Proofs.Ytjjokonehoipbaa
open Go Go.RowKit PB
set_option linter.unusedVariables false

theorem nat_mod (a : Int) {n : Nat} (h : 1 ≤ n) : ∃ k : Nat, a % (n : Int) = k ∧ k < n := by
  have h1 := Int.emod_nonneg a (show (n : Int) ≠ 0 by omega)
  have h2 := Int.emod_lt_of_pos a (show (0 : Int) < n by omega)
  exact ⟨(a % n).toNat, by omega, by omega⟩

/-- aWithin. -/
def within (x n : Int) : Int := (x % 18446744073709551616) % n
theorem within_bd (x : Int) {n : Int} (h : 1 ≤ n) : 0 ≤ within x n ∧ within x n < n := ⟨Int.emod_nonneg _ (by omega), Int.emod_lt_of_pos _ (by omega)⟩

theorem within_c (x n : Int) (w : World) (h1 : 1 ≤ n) (h2 : n ≤ 1000000000) : FnC Try.prog 6 [I64 x, I64 n] w (fun v w' => v = I64 (within x n) ∧ w' = w) := by
  have hb := within_bd x h1
  have hu : ∀ a : Int, IntKind.u64.wrap a = a % 18446744073709551616 := fun a => rfl
  have hn : IntKind.u64.wrap n = n := by rw [hu]; exact Int.emod_eq_of_lt (by omega) (by omega)
  refine FnC.enter Try.func6 rfl Try.ntmps6 rfl fun ρ => ?_
  refine s_seq ?_
  refine s_reg ?_
  refine l_q (by exact y_as_int rfl) ?_
  refine l_end ?_
  refine e_then ?_
  refine s_seq ?_
  refine s_reg ?_
  refine l_q (by exact y_mv_int rfl) ?_
  refine l_q (by exact y_conv_int rfl rfl) ?_
  refine l_q (by exact y_mv_int rfl) ?_
  refine l_q (by exact y_toInt (b := n) (y_conv_int (v := .int .u64 _) rfl rfl) hn) ?_
  refine l_q (by exact y_rem rfl rfl (by first | decide | omega) rfl) ?_
  refine l_q (by exact y_conv_int rfl rfl) ?_
  refine l_q (by exact y_as_int rfl) ?_
  refine l_end ?_
  refine e_then ?_
  refine s_ret ?_
  refine ret_ [.int .i64 _] rfl ⟨rfl, trivial⟩ ⟨?_, rfl⟩
  show Value.int .i64 _ = Value.int .i64 _
  congr 1
  rw [hu]
  have ht : (x % 18446744073709551616).tmod n = within x n := Int.tmod_eq_emod_of_nonneg (Int.emod_nonneg _ (by decide))
  rw [ht, IntKind.wrap_i64]
  omega

/-- Wait. -/
def waitF (t : Nat) (d : Int) : Int := bAnd d (2 ^ (min t 10) - 1)
theorem pow_bd {m : Nat} (h : m ≤ 10) : 1 ≤ (2 : Int) ^ m ∧ (2 : Int) ^ m ≤ 1024 := by
  have h1 : (2 : Nat) ^ m ≤ 2 ^ 10 := Nat.pow_le_pow_right (by decide) h
  have h3 : (2 : Nat) ^ m ≤ 1024 := Nat.le_trans h1 (by decide)
  have h4 : 0 < (2 : Nat) ^ m := Nat.pow_pos (by decide)
  have e : (2 : Int) ^ m = ((2 ^ m : Nat) : Int) := by rw [Int.natCast_pow]; rfl
  rw [e]
  omega
theorem waitF_bd (t : Nat) (d : Int) : 0 ≤ waitF t d ∧ waitF t d ≤ 1023 := by
  have h := pow_bd (m := min t 10) (by omega)
  have := bAnd_bd d (b := 2 ^ (min t 10) - 1) (by omega) (by omega)
  unfold waitF
  omega

theorem wait_c (t : Nat) (d : Int) (w : World) (h1 : 1 ≤ t) (h2 : t ≤ 16) : FnC Try.prog 11 [I64 t, I64 d] w (fun v w' => v = .tuple #[I64 (waitF t d), I64 0] ∧ w' = w) := by
  have hp := pow_bd (m := min t 10) (by omega)
  refine FnC.enter Try.func11 rfl Try.ntmps11 rfl fun ρ => ?_
  refine s_seq ?_
  refine s_reg ?_
  refine l_q (by exact y_as_int rfl) ?_
  refine l_q (by exact y_as_int rfl) ?_
  refine l_end ?_
  refine e_then ?_
  refine s_seq ?_
  refine s_seq ?_
  refine s_reg ?_
  refine l_q (by exact y_mv_int rfl) ?_
  refine l_q (by first | exact y_lss rfl rfl (decide_eq_true (by omega)) | exact y_lss rfl rfl (decide_eq_false (by omega)) | exact y_lss rfl rfl rfl) ?_
  refine l_q (by exact y_mv_bool rfl) ?_
  first | refine l_gskip rfl rfl ?_ | refine l_gskip_u rfl rfl ?_ | refine l_gdo rfl rfl (by exact y_mv_int rfl) ?_
  first | refine l_gskip rfl rfl ?_ | refine l_gskip_u rfl rfl ?_ | refine l_gdo rfl rfl (by first | exact y_gtr rfl rfl (decide_eq_true (by omega)) | exact y_gtr rfl rfl (decide_eq_false (by omega)) | exact y_gtr rfl rfl rfl) ?_
  refine l_q (by first | exact y_pk_bt rfl rfl | exact y_pk_bf rfl rfl) ?_
  refine l_end ?_
  refine e_then ?_
  refine cond_f rfl ?_
  refine s_skip ?_
  refine e_then ?_
  refine s_seq ?_
  refine s_reg ?_
  refine l_q (by exact y_mv_int rfl) ?_
  refine l_q (by exact y_mv_int rfl) ?_
  refine l_q (by exact y_min (v := .int .i64 ((min t 10 : Nat) : Int)) rfl rfl (by congr 1; split <;> omega)) ?_
  refine l_q (by exact y_shl1 (m := min t 10) rfl rfl rfl (by omega)) ?_
  refine l_q (by first | exact y_subn rfl rfl (by omega) | exact y_sub rfl rfl rfl) ?_
  refine l_q (by exact y_and rfl rfl) ?_
  refine l_q (by exact y_as_int rfl) ?_
  refine l_q (by exact y_as_int rfl) ?_
  refine l_end ?_
  refine e_then ?_
  refine s_ret ?_
  exact ret_ [.int .i64 _, .int .i64 _] rfl ⟨rfl, rfl, trivial⟩ ⟨rfl, rfl⟩
end Go.Proofs.Ytjjokonehoipbaa
