/- Facts on the functions and types of this seat that its laws are proved from: contracts under the premises that each theorem names. -/
import Derived.Test.YtkmkebobalfheaaHa
set_option linter.unusedSimpArgs false
set_option linter.unusedVariables false
set_option linter.unnecessarySimpa false
namespace Go.Proofs.Ytkmkebobalfheaa
open Go Go.RowKit PB
set_option linter.unusedVariables false
set_option linter.unusedSimpArgs false

theorem lErr_app : ∀ l m : List RuleV, lErr (l ++ m) = if lErr l ≠ 0 then lErr l else lErr m
  | [], m => by simp [lErr]
  | r :: l, m => by
    have ih := lErr_app l m
    simp only [List.cons_append, lErr]
    by_cases c : rChk r ≠ 0
    · simp [c]
    · simp only [c, if_false, ih]
theorem firstM_ge (p : PktV) : ∀ (l : List RuleV) (i : Nat), firstM p l i = -1 ∨ ((i : Int) ≤ firstM p l i ∧ firstM p l i < i + l.length)
  | [], i => .inl rfl
  | r :: l, i => by
    simp only [firstM]
    split
    · right; simp; omega
    · rcases firstM_ge p l (i + 1) with h | h
      · exact .inl h
      · right; simp; omega
theorem firstM_shift (p : PktV) : ∀ (l : List RuleV) (i : Nat), firstM p l i = if firstM p l 0 < 0 then -1 else firstM p l 0 + i
  | [], i => by simp [firstM]
  | r :: l, i => by
    simp only [firstM]
    by_cases c : matchP r p
    · simp [c]
    · simp only [c, if_false]
      have h1 := firstM_shift p l (i + 1)
      have h2 := firstM_shift p l 1
      have h3 := firstM_ge p l 0
      rw [h1, h2]
      split
      · simp
      · rw [if_neg (by omega)]; omega
theorem firstM_app (p : PktV) : ∀ (l m : List RuleV) (i : Nat), firstM p (l ++ m) i = if 0 ≤ firstM p l i then firstM p l i else firstM p m (i + l.length)
  | [], m, i => by simp [firstM]
  | r :: l, m, i => by
    simp only [List.cons_append, firstM]
    by_cases c : matchP r p
    · simp [c]
    · simp only [c, if_false, firstM_app p l m (i + 1), List.length_cons]
      rw [show i + 1 + l.length = i + (l.length + 1) by omega]

structure More (l m : List RuleV) (p : PktV) (i e k g j f : Int) : Prop where
  bi : -1 ≤ i ∧ i ≤ 8
  bk : -1 ≤ k ∧ k ≤ 8
  bad : e ≠ 0 ∨ g ≠ 0 → f ≠ 0 ∧ (i = 0 ∨ k = 0)
  ok : e = 0 → g = 0 → f = 0
  c1 : e = 0 → g = 0 → 0 ≤ i → j = i
  c2 : e = 0 → g = 0 → i < 0 → 0 ≤ k → j = l.length + k
  c3 : e = 0 → g = 0 → i < 0 → k < 0 → j = -1

theorem more_law (l m : List RuleV) (p : PktV) (hl : l.length ≤ 8) (hm : m.length ≤ 8) {i e k g j f : Int} (h1 : judgeF l p = (i, e)) (h2 : judgeF m p = (k, g)) (h3 : judgeF (l ++ m) p = (j, f)) : More l m p i e k g j f := by
  have a1 : lChk l = lErr l := if_neg (by omega)
  have a2 : lChk m = lErr m := if_neg (by omega)
  have a3 : lChk (l ++ m) = lErr (l ++ m) := if_neg (by simp; omega)
  unfold judgeF at h1 h2 h3
  rw [a1] at h1
  rw [a2] at h2
  rw [a3, lErr_app, firstM_app] at h3
  have b1 := firstM_ge p l 0
  have b2 := firstM_ge p m 0
  have b3 := firstM_shift p m (0 + l.length)
  rw [b3] at h3
  clear b3 a1 a2 a3
  generalize firstM p l 0 = x at *
  generalize firstM p m 0 = y at *
  generalize lErr l = u at *
  generalize lErr m = v at *
  generalize pChk p = q at *
  generalize hn : l.length = n at *
  generalize hn2 : m.length = n2 at *
  by_cases c1 : u = 0
  · by_cases c2 : v = 0
    · by_cases c3 : q = 0
      · simp [c1, c2, c3] at h1 h2 h3
        obtain ⟨rfl, rfl⟩ := h1
        obtain ⟨rfl, rfl⟩ := h2
        obtain ⟨h3, rfl⟩ := h3
        refine ⟨by omega, by omega, by simp, by simp, fun _ _ h => ?_, fun _ _ h h' => ?_, fun _ _ h h' => ?_⟩
        · rw [if_pos h] at h3; exact h3.symm
        · rw [if_neg (by omega), if_neg (by omega)] at h3; omega
        · rw [if_neg (by omega), if_pos h'] at h3; omega
      · simp [c1, c2, c3] at h1 h2 h3
        obtain ⟨rfl, rfl⟩ := h1
        obtain ⟨rfl, rfl⟩ := h2
        obtain ⟨rfl, rfl⟩ := h3
        exact ⟨by omega, by omega, fun _ => ⟨c3, .inl rfl⟩, fun h => absurd h c3, fun h => absurd h c3, fun h => absurd h c3, fun h => absurd h c3⟩
    · simp [c1, c2] at h2 h3
      obtain ⟨rfl, rfl⟩ := h2
      obtain ⟨rfl, rfl⟩ := h3
      have hi : -1 ≤ i ∧ i ≤ 8 := by
        simp [c1] at h1
        split at h1
        · simp at h1; omega
        · simp at h1; omega
      exact ⟨hi, by omega, fun _ => ⟨c2, .inr rfl⟩, fun _ h => absurd h c2, fun _ h => absurd h c2, fun _ h => absurd h c2, fun _ h => absurd h c2⟩
  · simp [c1] at h1 h3
    obtain ⟨rfl, rfl⟩ := h1
    obtain ⟨rfl, rfl⟩ := h3
    have hk : -1 ≤ k ∧ k ≤ 8 := by
      split at h2
      · simp at h2; omega
      · split at h2
        · simp at h2; omega
        · simp at h2; omega
    exact ⟨by omega, hk, fun _ => ⟨c1, .inl rfl⟩, fun h => absurd h c1, fun h => absurd h c1, fun h => absurd h c1, fun h => absurd h c1⟩
end Go.Proofs.Ytkmkebobalfheaa
