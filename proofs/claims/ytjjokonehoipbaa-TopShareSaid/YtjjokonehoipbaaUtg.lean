/- Facts on the functions and types of this seat that its laws are proved from: contracts under the premises that each theorem names. -/
import Derived.Test.YtjjokonehoipbaaUtf
set_option linter.unusedSimpArgs false
set_option linter.unusedVariables false
set_option linter.unnecessarySimpa false
namespace Go.Proofs.Ytjjokonehoipbaa
open Go Go.RowKit PB
set_option linter.unusedVariables false

/-! ### Contend as plain data -/
structure Stn where
  next : Int
  tries : Nat
  sent : Int
def S0 : Stn := ⟨0, 0, 0⟩
def gS (l : List Stn) (i : Nat) : Stn := l.getD i S0

def nowStep (l : List Stn) (acc : List Nat) (i : Nat) : List Nat :=
  if (gS l i).next < 0 then acc
  else
    let acc1 := if acc ≠ [] ∧ (gS l i).next < (gS l (acc.getD 0 0)).next then [] else acc
    if acc1 = [] ∨ (gS l i).next = (gS l (acc1.getD 0 0)).next then acc1 ++ [i] else acc1
def nowF (l : List Stn) : Nat → List Nat
  | 0 => []
  | k + 1 => nowStep l (nowF l k) k

structure NowOk (l : List Stn) (k : Nat) (acc : List Nat) : Prop where
  nil_ : acc = [] → ∀ i, i < k → (gS l i).next < 0
  lt : ∀ i ∈ acc, i < k
  eq : ∀ i ∈ acc, (gS l i).next = (gS l (acc.getD 0 0)).next
  nn : acc ≠ [] → 0 ≤ (gS l (acc.getD 0 0)).next
  min_ : acc ≠ [] → ∀ i, i < k → 0 ≤ (gS l i).next → (gS l (acc.getD 0 0)).next ≤ (gS l i).next ∧ ((gS l i).next = (gS l (acc.getD 0 0)).next → i ∈ acc)
  nd : acc.Nodup

theorem now_ok (l : List Stn) : ∀ k, NowOk l k (nowF l k)
  | 0 => ⟨fun _ i h => absurd h (by omega), by simp [nowF], by simp [nowF], by simp [nowF], by simp [nowF], by simp [nowF]⟩
  | k + 1 => by
    have H := now_ok l k
    have hlt := H.lt
    have hnd := H.nd
    simp only [nowF]
    generalize nowF l k = acc at *
    unfold nowStep
    by_cases c : (gS l k).next < 0
    · rw [if_pos c]
      refine ⟨fun h i hi => ?_, fun i hi => ?_, H.eq, H.nn, fun h i hi h0 => ?_, H.nd⟩
      · by_cases e : i = k
        · rw [e]; exact c
        · exact H.nil_ h i (by omega)
      · have := hlt i hi; omega
      · by_cases e : i = k
        · rw [e] at h0; omega
        · exact H.min_ h i (by omega) h0
    · rw [if_neg c]
      by_cases c1 : acc ≠ [] ∧ (gS l k).next < (gS l (acc.getD 0 0)).next
      · simp only [if_pos c1, true_or, if_true, List.nil_append]
        refine ⟨fun h => by simp at h, by simp, by simp, fun _ => by simp; omega, fun _ i hi h0 => ?_, by simp⟩
        simp
        by_cases e : i = k
        · subst e; simp
        · have := (H.min_ c1.1 i (by omega) h0).1
          constructor
          · omega
          · intro h; omega
      · simp only [if_neg c1]
        by_cases c2 : acc = []
        · subst c2
          simp only [true_or, if_true, List.nil_append]
          refine ⟨fun h => by simp at h, by simp, by simp, fun _ => by simp; omega, fun _ i hi h0 => ?_, by simp⟩
          simp
          by_cases e : i = k
          · subst e; simp
          · have := H.nil_ rfl i (by omega); omega
        · have hge : (gS l (acc.getD 0 0)).next ≤ (gS l k).next := by
            have : ¬ (gS l k).next < (gS l (acc.getD 0 0)).next := fun h => c1 ⟨c2, h⟩
            omega
          have h0n := H.nn c2
          by_cases c3 : (gS l k).next = (gS l (acc.getD 0 0)).next
          · simp only [c2, false_or, if_pos c3]
            have hd : (acc ++ [k]).getD 0 0 = acc.getD 0 0 := by cases acc with
              | nil => exact absurd rfl c2
              | cons a b => rfl
            refine ⟨fun h => by simp at h, ?_, ?_, ?_, ?_, ?_⟩
            · intro i hi
              rw [List.mem_append] at hi
              rcases hi with hi | hi
              · have := hlt i hi; omega
              · simp at hi; omega
            · intro i hi
              rw [hd]
              rw [List.mem_append] at hi
              rcases hi with hi | hi
              · exact H.eq i hi
              · simp at hi; rw [hi]; exact c3
            · intro _; rw [hd]; exact h0n
            · intro _ i hi h0
              rw [hd]
              by_cases e : i = k
              · subst e; exact ⟨hge, fun _ => by simp⟩
              · have := H.min_ c2 i (by omega) h0
                exact ⟨this.1, fun h => List.mem_append_left _ (this.2 h)⟩
            · rw [List.nodup_append]
              refine ⟨hnd, by simp, ?_⟩
              intro a ha b hb
              simp at hb
              have := hlt a ha
              omega
          · simp only [c2, false_or, if_neg c3]
            refine ⟨fun h => absurd h c2, fun i hi => by have := hlt i hi; omega, H.eq, H.nn, fun _ i hi h0 => ?_, hnd⟩
            by_cases e : i = k
            · subst e; exact ⟨hge, fun h => absurd h c3⟩
            · exact H.min_ c2 i (by omega) h0
end Go.Proofs.Ytjjokonehoipbaa
