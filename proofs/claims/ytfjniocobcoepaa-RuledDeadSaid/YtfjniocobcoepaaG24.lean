/- Facts on the functions and types of this seat that its laws are proved from: contracts under the premises that each theorem names. -/
import Derived.Test.YtfjniocobcoepaaG23
set_option linter.unusedSimpArgs false
set_option linter.unusedVariables false
set_option linter.unnecessarySimpa false
namespace Go.Proofs.Ytfjniocobcoepaa
open Go Go.RowKit PB
set_option linter.unusedVariables false
set_option linter.unusedSimpArgs false

/-! ### Several boxes -/
theorem numB_inj {e e' : Nat → Bool} {f : Nat} : ∀ n, numB e f n = numB e' f n → ∀ i, i < n → e (f + i) = e' (f + i)
  | 0, _, i, hi => by omega
  | n + 1, h, i, hi => by
    rw [numB, numB] at h
    have h1 : numB e f n = numB e' f n ∧ e (f + n) = e' (f + n) := by
      cases h1 : e (f + n) <;> cases h2 : e' (f + n) <;> simp [h1, h2] at h ⊢ <;> omega
    by_cases c : i = n
    · rw [c]; exact h1.2
    · exact numB_inj n h1.1 i (by omega)
/-- The rank of a number among the ends of n ranges. -/
def rankN (lo hi : Nat → Nat) (x : Nat) : Nat → Nat
  | 0 => 0
  | n + 1 => rankN lo hi x n + ((if lo n ≤ x then 1 else 0) + (if hi n < x then 1 else 0))
theorem rankN_le (lo hi : Nat → Nat) (x : Nat) : ∀ n, rankN lo hi x n ≤ 2 * n
  | 0 => by simp [rankN]
  | n + 1 => by
    have := rankN_le lo hi x n
    rw [rankN]
    split <;> split <;> omega
theorem rankN_mono (lo hi : Nat → Nat) {x y : Nat} (h : x ≤ y) : ∀ n, rankN lo hi x n ≤ rankN lo hi y n
  | 0 => by simp [rankN]
  | n + 1 => by
    have := rankN_mono lo hi h n
    rw [rankN, rankN]
    split <;> split <;> split <;> split <;> omega
theorem rankN_same (lo hi : Nat → Nat) {x y : Nat} (h : x ≤ y) : ∀ n, rankN lo hi x n = rankN lo hi y n → ∀ k, k < n → ((lo k ≤ x ↔ lo k ≤ y) ∧ (x ≤ hi k ↔ y ≤ hi k))
  | 0, _, k, hk => by omega
  | n + 1, hr, k, hk => by
    have hm := rankN_mono lo hi h n
    rw [rankN, rankN] at hr
    have h1 : rankN lo hi x n = rankN lo hi y n ∧ (lo n ≤ x ↔ lo n ≤ y) ∧ (x ≤ hi n ↔ y ≤ hi n) := by
      split at hr <;> split at hr <;> split at hr <;> split at hr <;> omega
    by_cases c : k = n
    · rw [c]; exact h1.2
    · exact rankN_same lo hi h n h1.1 k (by omega)
theorem rankN_eq (lo hi : Nat → Nat) {x y n : Nat} (h : rankN lo hi x n = rankN lo hi y n) (k : Nat) (hk : k < n) : (lo k ≤ x ∧ x ≤ hi k) ↔ (lo k ≤ y ∧ y ≤ hi k) := by
  rcases Nat.le_total x y with c | c
  · have := rankN_same lo hi c n h k hk
    rw [this.1, this.2]
  · have := rankN_same lo hi c n h.symm k hk
    rw [this.1, this.2]

/-- n matches and what is made of them. -/
structure Bxs (n : Nat) (B : Nat → Bx) : Prop where
  ok : ∀ i, i < n → (B i).ok
  nf : ∀ i, i < n → (B i).nf = false
  nt : ∀ i, i < n → (B i).nt = false
  pm : ∀ i, i < n → (B i).pm = 0 ∨ (B i).pm = 8
/-- A result that looks at n boxes only. -/
structure Of (n : Nat) (B : Nat → Bx) (R : (Nat → Bool) → Bool) : Prop where
  of : ∀ e e', (∀ i, i < n → ((B i).on e ↔ (B i).on e')) → R e = R e'
section
variable {n : Nat} {B : Nat → Bx} {R : (Nat → Bool) → Bool} {s : DS} {v : Nat} {u u' : Nat → Bool}
theorem fresh_some (hB : Bxs n B) (hR : Of n B R) (h : Fresh s R v u) : ∃ i, i < n ∧ Tight (B i) v u := by
  obtain ⟨e, he⟩ := h.dep
  refine Classical.byContradiction fun hn => he (hR.of _ _ fun i hi => ?_)
  refine Classical.byContradiction fun hh => hn ⟨i, hi, Bx.dep (hB.ok i hi) hh⟩
/-- One box, from the parts of u that it has seen. -/
theorem on_parts (b : Bx) {v : Nat} {u u' : Nat → Bool} (e : Nat → Bool) (h8 : 8 < v → u 8 = u' 8) (hp : numB (mix u v e) 0 b.pm = numB (mix u' v e) 0 b.pm) (hf : 9 < v → (rngP b.ff b.nf 9 b.fl b.fh (mix u v e) ↔ rngP b.ff b.nf 9 b.fl b.fh (mix u' v e)))
    (ht : 25 < v → (rngP b.tf b.nt 25 b.tl b.th (mix u v e) ↔ rngP b.tf b.nt 25 b.tl b.th (mix u' v e))) (hv : v ≤ 41) : b.on (mix u v e) ↔ b.on (mix u' v e) := by
  have r : ∀ (full np : Bool) (f lo hi : Nat), 8 < f → v ≤ f → (rngP full np f lo hi (mix u v e) ↔ rngP full np f lo hi (mix u' v e)) := by
    intro full np f lo hi h1 h2
    have e8 : mix u v e 8 = mix u' v e 8 := by
      rcases Nat.lt_or_ge 8 v with c | c
      · rw [mix_lt c, mix_lt c, h8 c]
      · rw [mix_ge c, mix_ge c]
    unfold rngP
    rw [numB_hi h2, numB_hi h2, e8]
  rw [b.on_iff, b.on_iff, hp, numB_hi (f := 41) (by omega), numB_hi (f := 41) (by omega), numB_hi (f := 73) (by omega), numB_hi (f := 73) (by omega)]
  have hf' : (rngP b.ff b.nf 9 b.fl b.fh (mix u v e) ↔ rngP b.ff b.nf 9 b.fl b.fh (mix u' v e)) := by
    rcases Nat.lt_or_ge 9 v with c | c
    · exact hf c
    · exact r _ _ _ _ _ (by decide) c
  have ht' : (rngP b.tf b.nt 25 b.tl b.th (mix u v e) ↔ rngP b.tf b.nt 25 b.tl b.th (mix u' v e)) := by
    rcases Nat.lt_or_ge 25 v with c | c
    · exact ht c
    · exact r _ _ _ _ _ (by decide) c
  rw [hf', ht']
end
end Go.Proofs.Ytfjniocobcoepaa
