/- Facts on the functions and types of this seat that its laws are proved from: contracts under the premises that each theorem names. -/
import Derived.Test.YtfjniocobcoepaaG18
set_option linter.unusedSimpArgs false
set_option linter.unusedVariables false
set_option linter.unnecessarySimpa false
namespace Go.Proofs.Ytfjniocobcoepaa
open Go Go.RowKit PB
set_option linter.unusedVariables false
set_option linter.unusedSimpArgs false

/-! ### Counting them -/
theorem pigeon {α : Type} : ∀ (l P : List α), l.Nodup → (∀ x ∈ l, x ∈ P) → l.length ≤ P.length := by
  classical
  intro l
  induction l with
  | nil => intro P _ _; exact Nat.zero_le _
  | cons x l ih =>
    intro P hn hs
    have hx : x ∈ P := hs x (List.mem_cons_self ..)
    rw [List.nodup_cons] at hn
    have := ih (P.erase x) hn.2 (fun y hy => (List.mem_erase_of_ne (by rintro rfl; exact hn.1 hy)).2 (hs y (List.mem_cons_of_mem _ hy)))
    rw [List.length_erase_of_mem hx] at this
    have hp : 0 < P.length := List.length_pos_of_mem hx
    simp only [List.length_cons]; omega
/-- A cofactor that looks at its first variable and that no diagram of the store stands for. -/
structure Fresh (s : DS) (R : (Nat → Bool) → Bool) (v : Nat) (u : Nat → Bool) : Prop where
  dep : ∃ e, R (mix u v (setb e v false)) ≠ R (mix u v (setb e v true))
  new_ : ∀ n, n < s.nodes.length → ¬ ∀ e, ev s n e = R (mix u v e)
theorem new_fresh {s : DS} (h : Inv s) {a b c : Nat} (ha : a < s.nodes.length) (hb : b < s.nodes.length) (hc : c < s.nodes.length) (n : Nat) (h1 : s.nodes.length ≤ n) (h2 : n < (ifF s a b c).1.nodes.length) :
    ((ifF s a b c).1.nd n).1 < s.vars ∧ ∃ u, (∀ e, ev (ifF s a b c).1 n e = iteF s a b c (mix u ((ifF s a b c).1.nd n).1 e)) ∧ Fresh s (iteF s a b c) ((ifF s a b c).1.nd n).1 u := by
  obtain ⟨hq, S⟩ := if_some h ha hb hc
  have hv := h.vars
  obtain ⟨s', r', q', N⟩ := choose_new (s.vars + 1) h ha hb hc (by omega)
  rw [hq] at q'
  obtain ⟨e1, e2⟩ : (ifF s a b c).1 = s' ∧ (ifF s a b c).2 = r' := by simpa using q'
  subst e1
  generalize (ifF s a b c).1 = s' at *
  obtain ⟨_, u, hu⟩ := N n h1 h2
  have n2 := h.n2
  have o := S.inv.ord n (by omega) h2
  refine ⟨by rw [← S.ext.vars]; exact o.1, u, hu, ?_, fun m hm hall => ?_⟩
  · have hr := S.inv.red n (by omega) h2
    have hex : ∃ e, ev s' (s'.nd n).2.1 e ≠ ev s' (s'.nd n).2.2 e := by
      refine Classical.not_forall.1 fun hall => hr (canon' S.inv (S.inv.lo n h2) (S.inv.hi n h2) hall)
    obtain ⟨e, he⟩ := hex
    refine ⟨e, ?_⟩
    rw [← hu, ← hu, ev_step S.inv.toOrd _ (by omega) h2, ev_step S.inv.toOrd _ (by omega) h2]
    have x1 : setb e (s'.nd n).1 false (s'.nd n).1 = false := by simp [setb]
    have x2 : setb e (s'.nd n).1 true (s'.nd n).1 = true := by simp [setb]
    rw [x1, x2]
    simp only [Bool.false_eq_true, if_false, if_true]
    have i1 : ev s' (s'.nd n).2.1 (setb e (s'.nd n).1 false) = ev s' (s'.nd n).2.1 e := ev_indep S.inv.toOrd (v := (s'.nd n).1) (fun i hi => by simp [setb, hi]) _ _ (S.inv.lo n h2) (Nat.le_refl _) o.2.1
    have i2 : ev s' (s'.nd n).2.2 (setb e (s'.nd n).1 true) = ev s' (s'.nd n).2.2 e := ev_indep S.inv.toOrd (v := (s'.nd n).1) (fun i hi => by simp [setb, hi]) _ _ (S.inv.hi n h2) (Nat.le_refl _) o.2.2
    rw [i1, i2]
    exact he
  · have hm' : m < s'.nodes.length := by omega
    have := canon' S.inv hm' h2 fun e => by rw [ev_ext h.toWf0 S.ext e hm, hall e, hu e]
    omega
theorem if_count {γ : Type} {s : DS} (h : Inv s) {a b c : Nat} (ha : a < s.nodes.length) (hb : b < s.nodes.length) (hc : c < s.nodes.length) (T : Nat → List γ) (κ : Nat → (Nat → Bool) → γ)
    (hT : ∀ v u, v < s.vars → Fresh s (iteF s a b c) v u → κ v u ∈ T v)
    (hk : ∀ v u u', v < s.vars → Fresh s (iteF s a b c) v u → Fresh s (iteF s a b c) v u' → κ v u = κ v u' → ∀ e, iteF s a b c (mix u v e) = iteF s a b c (mix u' v e)) :
    (ifF s a b c).1.nodes.length ≤ s.nodes.length + ((List.range s.vars).map fun v => (T v).length).sum := by
  classical
  have S := if_spec h ha hb hc
  have F := new_fresh h ha hb hc
  generalize (ifF s a b c).1 = s' at *
  have hl := S.ext.len
  let U : Nat → (Nat → Bool) := fun n => if hn : s.nodes.length ≤ n ∧ n < s'.nodes.length then Classical.choose (F n hn.1 hn.2).2 else fun _ => false
  have hU : ∀ n, s.nodes.length ≤ n → n < s'.nodes.length → (∀ e, ev s' n e = iteF s a b c (mix (U n) (s'.nd n).1 e)) ∧ Fresh s (iteF s a b c) (s'.nd n).1 (U n) := fun n h1 h2 => by
    have : U n = Classical.choose (F n h1 h2).2 := dif_pos ⟨h1, h2⟩
    rw [this]
    exact Classical.choose_spec (F n h1 h2).2
  let P : List (Nat × γ) := (List.range s.vars).flatMap fun v => (T v).map fun t => (v, t)
  have hP : P.length = ((List.range s.vars).map fun v => (T v).length).sum := by simp [P, List.length_flatMap]
  let l : List (Nat × γ) := (List.range (s'.nodes.length - s.nodes.length)).map fun i => ((s'.nd (s.nodes.length + i)).1, κ (s'.nd (s.nodes.length + i)).1 (U (s.nodes.length + i)))
  have hnd : l.Nodup := by
    refine List.Pairwise.map _ ?_ (List.pairwise_lt_range.imp_of_mem ?_ : (List.range (s'.nodes.length - s.nodes.length)).Pairwise fun i j => i < j ∧ j < s'.nodes.length - s.nodes.length)
    · rintro i j ⟨hij, hj⟩ heq
      have h1 := hU (s.nodes.length + i) (by omega) (by omega)
      have h2 := hU (s.nodes.length + j) (by omega) (by omega)
      obtain ⟨q1, q2⟩ := Prod.mk.inj heq
      have hv := (F (s.nodes.length + i) (by omega) (by omega)).1
      rw [← q1] at h2 q2
      have := canon' S.inv (a := s.nodes.length + i) (b := s.nodes.length + j) (by omega) (by omega) fun e => by
        rw [h1.1 e, h2.1 e]
        exact hk _ _ _ hv h1.2 h2.2 q2 e
      omega
    · intro i j hi hj hlt
      exact ⟨hlt, List.mem_range.1 hj⟩
  have hsub : ∀ x ∈ l, x ∈ P := by
    intro x hx
    obtain ⟨i, hi, rfl⟩ := List.mem_map.1 hx
    have hi := List.mem_range.1 hi
    have hv := (F (s.nodes.length + i) (by omega) (by omega)).1
    refine List.mem_flatMap.2 ⟨_, List.mem_range.2 hv, List.mem_map.2 ⟨_, hT _ _ hv (hU _ (by omega) (by omega)).2, rfl⟩⟩
  have := pigeon l P hnd hsub
  rw [hP] at this
  have hll : l.length = s'.nodes.length - s.nodes.length := by simp [l]
  omega
end Go.Proofs.Ytfjniocobcoepaa
