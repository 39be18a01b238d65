/- Facts on the functions and types of this seat that its laws are proved from: contracts under the premises that each theorem names. -/
import Derived.Test.YtfjniocobcoepaaG21
set_option linter.unusedSimpArgs false
set_option linter.unusedVariables false
set_option linter.unnecessarySimpa false
namespace Go.Proofs.Ytfjniocobcoepaa
open Go Go.RowKit PB
set_option linter.unusedVariables false
set_option linter.unusedSimpArgs false

theorem numB_set {e : Nat → Bool} {v f n : Nat} {b : Bool} (h : v < f ∨ f + n ≤ v) : numB (setb e v b) f n = numB e f n :=
  numB_congr n fun i h1 h2 => by simp only [setb]; rw [if_neg (by omega)]
theorem pfx_num' {u e : Nat → Bool} {v f m : Nat} (h1 : f ≤ v) (h2 : v < f + m) : numB (mix u v e) f m = numB u f (v - f) * 2 ^ (f + m - v) + numB e v (f + m - v) := by
  have : m = (v - f) + (f + m - v) := by omega
  conv => lhs; rw [this]
  exact numB_mid (by omega)
theorem div_lt_mul {lo p q x : Nat} (hq : 0 < q) (hx : x < q) (h : lo ≤ p * q + x) (hne : p ≠ lo / q) : lo ≤ p * q := by
  have h1 : lo / q ≤ p := by
    have : lo / q ≤ (p * q + x) / q := Nat.div_le_div_right h
    rwa [Nat.add_comm, Nat.add_mul_div_right _ _ hq, Nat.div_eq_of_lt hx, Nat.zero_add] at this
  have h2 : lo / q + 1 ≤ p := by omega
  have h3 := Nat.mul_le_mul_right q h2
  have h4 := Nat.div_add_mod lo q
  have h5 := Nat.mod_lt lo hq
  rw [Nat.add_mul, Nat.one_mul, Nat.mul_comm] at h3
  omega
theorem div_gt_mul {hi p q x : Nat} (hq : 0 < q) (h : p * q + x ≤ hi) (hne : p ≠ hi / q) : ∀ y, y < q → p * q + y ≤ hi := by
  intro y hy
  have h1 : p ≤ hi / q := by
    rw [Nat.le_div_iff_mul_le hq]; omega
  have h2 : p + 1 ≤ hi / q := by omega
  have h3 := Nat.mul_le_mul_right q h2
  have h4 := Nat.div_add_mod hi q
  rw [Nat.add_mul, Nat.one_mul, Nat.mul_comm (hi / q)] at h3
  omega
/-- L2: a range looks at a bit only where the bits so far are those of one of its ends. -/
theorem rng_dep {u e : Nat → Bool} {v f lo hi : Nat} {full np : Bool} (hf : 8 < f) (h1 : f ≤ v) (h2 : v < f + 16) (ha : ∃ a, rngP full np f lo hi (mix u v a))
    (hd : ¬ (rngP full np f lo hi (mix u v (setb e v false)) ↔ rngP full np f lo hi (mix u v (setb e v true)))) :
    full = false ∧ (np = true ∨ u 8 = true) ∧ (numB u f (v - f) = lo / 2 ^ (f + 16 - v) ∨ numB u f (v - f) = hi / 2 ^ (f + 16 - v)) := by
  obtain ⟨a, ha⟩ := ha
  cases full with
  | true => exact absurd ⟨fun _ => Or.inl rfl, fun _ => Or.inl rfl⟩ hd
  | false =>
    rcases ha with ha | ⟨hp, hl, hh⟩
    · cases ha
    rw [mix_lt (by omega)] at hp
    refine ⟨rfl, hp, ?_⟩
    refine Classical.byContradiction fun hn => hd ?_
    have n1 : numB u f (v - f) ≠ lo / 2 ^ (f + 16 - v) := fun h => hn (.inl h)
    have n2 : numB u f (v - f) ≠ hi / 2 ^ (f + 16 - v) := fun h => hn (.inr h)
    rw [pfx_num' h1 h2] at hl hh
    have hq := Nat.two_pow_pos (f + 16 - v)
    have k1 := div_lt_mul hq (numB_lt a v (f + 16 - v)) hl n1
    have k2 := div_gt_mul hq hh n2
    have all : ∀ x, rngP false np f lo hi (mix u v x) := fun x => .inr ⟨by rw [mix_lt (by omega)]; exact hp, by rw [pfx_num' h1 h2]; omega, by rw [pfx_num' h1 h2]; exact k2 _ (numB_lt x v _)⟩
    exact ⟨fun _ => all _, fun _ => all _⟩
theorem mix_8 {u e : Nat → Bool} {v : Nat} {b : Bool} (h : 8 < v) : mix u v (setb e v b) 8 = u 8 := mix_lt h
theorem rng_nodep {u e : Nat → Bool} {v f lo hi : Nat} {full np b b' : Bool} (hv : v ≠ 8) (h : v < f ∨ f + 16 ≤ v) : rngP full np f lo hi (mix u v (setb e v b)) ↔ rngP full np f lo hi (mix u v (setb e v b')) := by
  have e1 : numB (mix u v (setb e v b)) f 16 = numB (mix u v (setb e v b')) f 16 := numB_congr 16 fun i h1 h2 => by
    unfold mix setb
    split
    · rfl
    · rw [if_neg (by omega), if_neg (by omega)]
  have e2 : mix u v (setb e v b) 8 = mix u v (setb e v b') 8 := by
    unfold mix setb
    split
    · rfl
    · rw [if_neg (by omega), if_neg (by omega)]
  unfold rngP
  rw [e1, e2]
theorem pfx_nodep {u e : Nat → Bool} {v f m : Nat} {b b' : Bool} (h : v < f ∨ f + m ≤ v) : numB (mix u v (setb e v b)) f m = numB (mix u v (setb e v b')) f m := numB_congr m fun i h1 h2 => by
  unfold mix setb
  split
  · rfl
  · rw [if_neg (by omega), if_neg (by omega)]

/-- What a box looks at. -/
structure Tight (b : Bx) (v : Nat) (u : Nat → Bool) : Prop where
  live : b.alive v u
  f : 9 ≤ v → v < 25 → b.ff = false ∧ (b.nf = true ∨ u 8 = true) ∧ (numB u 9 (v - 9) = b.fl / 2 ^ (25 - v) ∨ numB u 9 (v - 9) = b.fh / 2 ^ (25 - v))
  t : 25 ≤ v → v < 41 → b.tf = false ∧ (b.nt = true ∨ u 8 = true) ∧ (numB u 25 (v - 25) = b.tl / 2 ^ (41 - v) ∨ numB u 25 (v - 25) = b.th / 2 ^ (41 - v))
  p : v < 8 → v < b.pm
  x : v = 8 → (b.ff = false ∧ b.nf = false) ∨ (b.tf = false ∧ b.nt = false)
  s : 41 ≤ v → v < 73 → v < 41 + b.sm
  d : 73 ≤ v → v < 73 + b.dm
theorem Bx.dep {b : Bx} (hb : b.ok) {v : Nat} {u e : Nat → Bool} (h : ¬ (b.on (mix u v (setb e v false)) ↔ b.on (mix u v (setb e v true)))) : Tight b v u := by
  have hp := hb.p
  have hs := hb.s
  have hd := hb.d
  have live : b.alive v u := by
    by_cases c : b.on (mix u v (setb e v false))
    · exact ⟨_, c⟩
    · by_cases d : b.on (mix u v (setb e v true))
      · exact ⟨_, d⟩
      · exact absurd ⟨fun x => absurd x c, fun x => absurd x d⟩ h
  obtain ⟨a, ha⟩ := live
  refine ⟨⟨a, ha⟩, fun h1 h2 => ?_, fun h1 h2 => ?_, fun h1 => ?_, fun h1 => ?_, fun h1 h2 => ?_, fun h1 => ?_⟩
  · refine rng_dep (e := e) (by decide) h1 h2 ⟨a, ha.f⟩ fun hh => h ?_
    rw [b.on_iff, b.on_iff, hh, pfx_nodep (f := 0) (b := false) (b' := true) (.inr (by omega)), rng_nodep (f := 25) (b := false) (b' := true) (by omega) (.inl h2), pfx_nodep (f := 41) (b := false) (b' := true) (.inl (by omega)), pfx_nodep (f := 73) (b := false) (b' := true) (.inl (by omega))]
  · refine rng_dep (e := e) (by decide) h1 h2 ⟨a, ha.t⟩ fun hh => h ?_
    rw [b.on_iff, b.on_iff, hh, pfx_nodep (f := 0) (b := false) (b' := true) (.inr (by omega)), rng_nodep (f := 9) (b := false) (b' := true) (by omega) (.inr h1), pfx_nodep (f := 41) (b := false) (b' := true) (.inl (by omega)), pfx_nodep (f := 73) (b := false) (b' := true) (.inl (by omega))]
  · refine Classical.byContradiction fun hh => h ?_
    rw [b.on_iff, b.on_iff, pfx_nodep (f := 0) (b := false) (b' := true) (.inr (by omega)), rng_nodep (f := 9) (b := false) (b' := true) (by omega) (.inl (by omega)), rng_nodep (f := 25) (b := false) (b' := true) (by omega) (.inl (by omega)), pfx_nodep (f := 41) (b := false) (b' := true) (.inl (by omega)), pfx_nodep (f := 73) (b := false) (b' := true) (.inl (by omega))]
  · subst h1
    refine Classical.byContradiction fun hh => h ?_
    have r1 : ∀ (full np : Bool) (f lo hi : Nat), 8 < f → ¬ (full = false ∧ np = false) → (rngP full np f lo hi (mix u 8 (setb e 8 false)) ↔ rngP full np f lo hi (mix u 8 (setb e 8 true))) := by
      intro full np f lo hi hf hn
      have e1 := pfx_nodep (u := u) (e := e) (v := 8) (f := f) (m := 16) (b := false) (b' := true) (.inl hf)
      unfold rngP
      rw [e1]
      cases full <;> cases np <;> simp_all
    rw [b.on_iff, b.on_iff, pfx_nodep (f := 0) (b := false) (b' := true) (.inr (by omega)), r1 b.ff b.nf 9 b.fl b.fh (by decide) (fun q => hh (.inl q)), r1 b.tf b.nt 25 b.tl b.th (by decide) (fun q => hh (.inr q)), pfx_nodep (f := 41) (b := false) (b' := true) (.inl (by omega)), pfx_nodep (f := 73) (b := false) (b' := true) (.inl (by omega))]
  · refine Classical.byContradiction fun hh => h ?_
    rw [b.on_iff, b.on_iff, pfx_nodep (f := 0) (b := false) (b' := true) (.inr (by omega)), rng_nodep (f := 9) (b := false) (b' := true) (by omega) (.inr (by omega)), rng_nodep (f := 25) (b := false) (b' := true) (by omega) (.inr (by omega)), pfx_nodep (f := 41) (b := false) (b' := true) (.inr (by omega)), pfx_nodep (f := 73) (b := false) (b' := true) (.inl (by omega))]
  · refine Classical.byContradiction fun hh => h ?_
    rw [b.on_iff, b.on_iff, pfx_nodep (f := 0) (b := false) (b' := true) (.inr (by omega)), rng_nodep (f := 9) (b := false) (b' := true) (by omega) (.inr (by omega)), rng_nodep (f := 25) (b := false) (b' := true) (by omega) (.inr (by omega)), pfx_nodep (f := 41) (b := false) (b' := true) (.inr (by omega)), pfx_nodep (f := 73) (b := false) (b' := true) (.inr (by omega))]
end Go.Proofs.Ytfjniocobcoepaa
