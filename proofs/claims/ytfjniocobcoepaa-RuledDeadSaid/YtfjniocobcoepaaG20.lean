/- Facts on the functions and types of this seat that its laws are proved from: contracts under the premises that each theorem names. -/
import Derived.Test.YtfjniocobcoepaaG19
set_option linter.unusedSimpArgs false
set_option linter.unusedVariables false
set_option linter.unnecessarySimpa false
namespace Go.Proofs.Ytfjniocobcoepaa
open Go Go.RowKit PB
set_option linter.unusedVariables false
set_option linter.unusedSimpArgs false

/-! ### Numbers in bits, the first bit being the greatest -/
def numB (e : Nat → Bool) (f : Nat) : Nat → Nat
  | 0 => 0
  | n + 1 => numB e f n * 2 + (if e (f + n) then 1 else 0)
theorem numB_lt (e : Nat → Bool) (f : Nat) : ∀ n, numB e f n < 2 ^ n
  | 0 => by simp [numB]
  | n + 1 => by
    have := numB_lt e f n
    rw [numB, Nat.pow_succ]
    split <;> omega
theorem numB_add (e : Nat → Bool) (f k : Nat) : ∀ m, numB e f (k + m) = numB e f k * 2 ^ m + numB e (f + k) m
  | 0 => by simp [numB]
  | m + 1 => by
    rw [← Nat.add_assoc, numB, numB, numB_add e f k m, Nat.pow_succ, Nat.add_mul, Nat.mul_assoc, Nat.add_assoc, Nat.add_assoc]
theorem numB_congr {e e' : Nat → Bool} {f : Nat} : ∀ n, (∀ i, f ≤ i → i < f + n → e i = e' i) → numB e f n = numB e' f n
  | 0, _ => rfl
  | n + 1, h => by
    rw [numB, numB, numB_congr n (fun i h1 h2 => h i h1 (by omega)), h (f + n) (by omega) (by omega)]
theorem numB_lo {u e : Nat → Bool} {v f n : Nat} (h : f + n ≤ v) : numB (mix u v e) f n = numB u f n := numB_congr n fun i h1 h2 => mix_lt (by omega)
theorem numB_hi {u e : Nat → Bool} {v f n : Nat} (h : v ≤ f) : numB (mix u v e) f n = numB e f n := numB_congr n fun i h1 h2 => mix_ge (by omega)
theorem numB_mid {u e : Nat → Bool} {v f k m : Nat} (h : v = f + k) : numB (mix u v e) f (k + m) = numB u f k * 2 ^ m + numB e v m := by
  rw [numB_add, numB_lo (by omega), numB_hi (by omega), h]
theorem div_num {a b m : Nat} (h : b < 2 ^ m) : (a * 2 ^ m + b) / 2 ^ m = a := by
  rw [Nat.add_comm, Nat.add_mul_div_right _ _ (Nat.two_pow_pos m), Nat.div_eq_of_lt h, Nat.zero_add]
end Go.Proofs.Ytfjniocobcoepaa
