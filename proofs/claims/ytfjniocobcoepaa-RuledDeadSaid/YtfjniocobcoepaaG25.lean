/- Facts on the functions and types of this seat that its laws are proved from: contracts under the premises that each theorem names. -/
import Derived.Test.YtfjniocobcoepaaG24
set_option linter.unusedSimpArgs false
set_option linter.unusedVariables false
set_option linter.unnecessarySimpa false
namespace Go.Proofs.Ytfjniocobcoepaa
open Go Go.RowKit PB
set_option linter.unusedVariables false
set_option linter.unusedSimpArgs false

/-! ### The new nodes of a result over several boxes -/
/-- The first match whose protocol agrees with the bits so far. -/
def ctxB (n : Nat) (B : Nat → Bx) (v : Nat) (u : Nat → Bool) : Nat :=
  ((List.range n).find? fun k => decide ((B k).pm ≠ 0 ∧ numB u 0 (min v 8) = (B k).pv / 2 ^ (8 - min v 8))).getD n
section
variable {n : Nat} {B : Nat → Bx} {R : (Nat → Bool) → Bool} {s : DS} {v : Nat} {u u' : Nat → Bool}
theorem ctx_cases (n : Nat) (B : Nat → Bx) (v : Nat) (u : Nat → Bool) : (ctxB n B v u < n ∧ (B (ctxB n B v u)).pm ≠ 0 ∧ numB u 0 (min v 8) = (B (ctxB n B v u)).pv / 2 ^ (8 - min v 8)) ∨ (ctxB n B v u = n ∧ ∀ k, k < n → (B k).pm ≠ 0 → numB u 0 (min v 8) ≠ (B k).pv / 2 ^ (8 - min v 8)) := by
  unfold ctxB
  cases h : (List.range n).find? fun k => decide ((B k).pm ≠ 0 ∧ numB u 0 (min v 8) = (B k).pv / 2 ^ (8 - min v 8)) with
  | none =>
    right
    refine ⟨rfl, fun k hk hp he => ?_⟩
    have := List.find?_eq_none.1 h k (List.mem_range.2 hk)
    simp [hp, he] at this
  | some k =>
    left
    have h1 := List.find?_some h
    have h2 := List.mem_range.1 (List.mem_of_find?_eq_some h)
    have h1 := of_decide_eq_true h1
    exact ⟨h2, h1.1, h1.2⟩
theorem num8_same (h : numB u 0 (min v 8) = numB u' 0 (min v 8)) (e : Nat → Bool) : numB (mix u v e) 0 8 = numB (mix u' v e) 0 8 := by
  rcases Nat.lt_or_ge v 8 with c | c
  · rw [Nat.min_eq_left (by omega)] at h
    rw [pfx_num' (Nat.zero_le _) (by omega), pfx_num' (Nat.zero_le _) (by omega)]
    simp only [Nat.sub_zero]
    rw [h]
  · rw [Nat.min_eq_right (by omega)] at h
    rw [numB_lo (by omega), numB_lo (by omega), h]
theorem proto_same (hB : Bxs n B) (h : ctxB n B v u = ctxB n B v u') (k : Nat) (hk : k < n) (e : Nat → Bool) :
    numB (mix u v e) 0 (B k).pm = numB (mix u' v e) 0 (B k).pm ∨ (¬ (B k).on (mix u v e) ∧ ¬ (B k).on (mix u' v e)) := by
  rcases hB.pm k hk with p0 | p8
  · left; rw [p0]; rfl
  rcases ctx_cases n B v u with ⟨a1, a2, a3⟩ | ⟨a1, a2⟩
  · rcases ctx_cases n B v u' with ⟨b1, b2, b3⟩ | ⟨b1, b2⟩
    · left
      rw [← h] at b3
      rw [p8]
      exact num8_same (by rw [a3, b3]) e
    · omega
  · rcases ctx_cases n B v u' with ⟨b1, b2, b3⟩ | ⟨b1, b2⟩
    · omega
    · right
      have dead : ∀ w, (∀ k, k < n → (B k).pm ≠ 0 → numB w 0 (min v 8) ≠ (B k).pv / 2 ^ (8 - min v 8)) → ¬ (B k).on (mix w v e) := by
        intro w hw ho
        refine hw k hk (by omega) ?_
        have hp := ho.p
        rw [p8] at hp
        rcases Nat.lt_or_ge v 8 with c | c
        · rw [Nat.min_eq_left (by omega)]
          rw [pfx_num' (Nat.zero_le _) (by omega)] at hp
          simp only [Nat.sub_zero, Nat.zero_add] at hp
          have := div_num (a := numB w 0 v) (numB_lt e v (8 - v))
          rw [hp] at this
          exact this.symm
        · rw [Nat.min_eq_right (by omega), Nat.sub_self, Nat.pow_zero, Nat.div_one]
          rw [numB_lo (by omega)] at hp
          exact hp
      exact ⟨dead u a2, dead u' b2⟩
/-- All boxes answer alike. -/
theorem all_on (hB : Bxs n B) (hv : v ≤ 41) (h8 : 8 < v → u 8 = u' 8) (hp : ∀ k, k < n → ∀ e, numB (mix u v e) 0 (B k).pm = numB (mix u' v e) 0 (B k).pm ∨ (¬ (B k).on (mix u v e) ∧ ¬ (B k).on (mix u' v e)))
    (hf : ∀ k, k < n → ∀ e, 9 < v → (rngP (B k).ff (B k).nf 9 (B k).fl (B k).fh (mix u v e) ↔ rngP (B k).ff (B k).nf 9 (B k).fl (B k).fh (mix u' v e)))
    (ht : ∀ k, k < n → ∀ e, 25 < v → (rngP (B k).tf (B k).nt 25 (B k).tl (B k).th (mix u v e) ↔ rngP (B k).tf (B k).nt 25 (B k).tl (B k).th (mix u' v e))) :
    ∀ k, k < n → ∀ e, ((B k).on (mix u v e) ↔ (B k).on (mix u' v e)) := by
  intro k hk e
  rcases hp k hk e with q | ⟨q1, q2⟩
  · exact on_parts (B k) e h8 q (hf k hk e) (ht k hk e) hv
  · exact ⟨fun h => absurd h q1, fun h => absurd h q2⟩

open Classical in
/-- The box whose end the bits so far meet. -/
noncomputable def tix (n : Nat) (B : Nat → Bx) (v : Nat) (u : Nat → Bool) : Nat := if h : ∃ i, i < n ∧ Tight (B i) v u then Classical.choose h else 0
theorem tix_ok (h : ∃ i, i < n ∧ Tight (B i) v u) : tix n B v u < n ∧ Tight (B (tix n B v u)) v u := by
  unfold tix
  rw [dif_pos h]
  exact Classical.choose_spec h
def tctx (n : Nat) (B : Nat → Bx) (v : Nat) (u : Nat → Bool) (i : Nat) : Nat := if (B i).pm ≠ 0 then n else ctxB n B v u
open Classical in
noncomputable def maskB (n : Nat) (B : Nat → Bx) (v : Nat) (u : Nat → Bool) : Nat := numB (fun k => decide ((B k).alive v u)) 0 n
noncomputable def boxsK (n : Nat) (B : Nat → Bx) (v : Nat) (u : Nat → Bool) : Nat × Nat × Nat × Nat :=
  if v < 9 then (ctxB n B v u, 0, 0, 0)
  else if v < 25 then (tctx n B v u (tix n B v u), tix n B v u, (if numB u 9 (v - 9) = (B (tix n B v u)).fl / 2 ^ (25 - v) then 0 else 1), 0)
  else if v < 41 then (tctx n B v u (tix n B v u), tix n B v u, (if numB u 25 (v - 25) = (B (tix n B v u)).tl / 2 ^ (41 - v) then 0 else 1), rankN (fun k => (B k).fl) (fun k => (B k).fh) (numB u 9 16) n)
  else (0, 0, 0, maskB n B v u)
def ctxL (n : Nat) (B : Nat → Bx) (i : Nat) : List Nat := if (B i).pm ≠ 0 then [n] else (List.range n).filter (fun k => decide ((B k).pm ≠ 0)) ++ [n]
def tightL (n : Nat) (B : Nat → Bx) (m : Nat) : List (Nat × Nat × Nat × Nat) :=
  (List.range n).flatMap fun i => (ctxL n B i).flatMap fun t => (List.range m).flatMap fun q => [(t, i, 0, q), (t, i, 1, q)]
def boxsT (n : Nat) (B : Nat → Bx) (v : Nat) : List (Nat × Nat × Nat × Nat) :=
  if v < 9 then (List.range (n + 1)).map fun t => (t, 0, 0, 0)
  else if v < 25 then tightL n B 1
  else if v < 41 then tightL n B (2 * n + 1)
  else (List.range (2 ^ n)).map fun m => (0, 0, 0, m)
theorem tctx_mem (hB : Bxs n B) (i : Nat) (hi : i < n) : tctx n B v u i ∈ ctxL n B i := by
  unfold tctx ctxL
  split
  · exact List.mem_singleton.2 rfl
  · rcases ctx_cases n B v u with ⟨a1, a2, _⟩ | ⟨a1, _⟩
    · exact List.mem_append_left _ (List.mem_filter.2 ⟨List.mem_range.2 a1, decide_eq_true a2⟩)
    · rw [a1]; exact List.mem_append_right _ (List.mem_singleton.2 rfl)
theorem tight_mem (hB : Bxs n B) {i side q m : Nat} (hi : i < n) (hs : side = 0 ∨ side = 1) (hq : q < m) : (tctx n B v u i, i, side, q) ∈ tightL n B m := by
  refine List.mem_flatMap.2 ⟨i, List.mem_range.2 hi, List.mem_flatMap.2 ⟨tctx n B v u i, tctx_mem (v := v) (u := u) hB i hi, List.mem_flatMap.2 ⟨q, List.mem_range.2 hq, ?_⟩⟩⟩
  rcases hs with rfl | rfl <;> simp
theorem boxs_mem (hB : Bxs n B) (hR : Of n B R) (h : Fresh s R v u) : boxsK n B v u ∈ boxsT n B v := by
  have ht := tix_ok (fresh_some hB hR h)
  unfold boxsK boxsT
  by_cases c1 : v < 9
  · rw [if_pos c1, if_pos c1]
    refine List.mem_map.2 ⟨_, List.mem_range.2 ?_, rfl⟩
    rcases ctx_cases n B v u with ⟨a1, _⟩ | ⟨a1, _⟩ <;> omega
  rw [if_neg c1, if_neg c1]
  by_cases c2 : v < 25
  · rw [if_pos c2, if_pos c2]
    exact tight_mem hB ht.1 (by split <;> simp) (by decide)
  rw [if_neg c2, if_neg c2]
  by_cases c3 : v < 41
  · rw [if_pos c3, if_pos c3]
    exact tight_mem hB ht.1 (by split <;> simp) (by have := rankN_le (fun k => (B k).fl) (fun k => (B k).fh) (numB u 9 16) n; omega)
  rw [if_neg c3, if_neg c3]
  exact List.mem_map.2 ⟨_, List.mem_range.2 (numB_lt _ _ _), rfl⟩
end
end Go.Proofs.Ytfjniocobcoepaa
