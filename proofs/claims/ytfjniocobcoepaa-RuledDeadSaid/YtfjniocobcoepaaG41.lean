/- Facts on the functions and types of this seat that its laws are proved from: contracts under the premises that each theorem names. -/
import Derived.Test.YtfjniocobcoepaaG40
set_option linter.unusedSimpArgs false
set_option linter.unusedVariables false
set_option linter.unnecessarySimpa false
namespace Go.Proofs.Ytfjniocobcoepaa
open Go Go.RowKit PB
set_option linter.unusedVariables false
set_option linter.unusedSimpArgs false

/-! ### Lists of rules and packets -/
def permP (p : PktV) : List RuleV → Bool
  | [] => false
  | r :: rs => if matchP r p then r.permit else permP p rs
theorem permP_all {p : PktV} {e : Nat → Bool} (h : PkE p e) : ∀ (l : List RuleV), (∀ r ∈ l, RuleOk r) → permP p l = allF l e
  | [], _ => rfl
  | r :: rs, hok => by
    have ih := permP_all h rs fun x hx => hok x (List.mem_cons_of_mem _ hx)
    have hm := match_iff (hok r (List.mem_cons_self ..)) h
    simp only [permP, allF, ih, decide_eq_true_eq]
    by_cases c : matchP r p
    · rw [if_pos c, if_pos (hm.1 c)]
    · rw [if_neg c, if_neg (fun q => c (hm.2 q))]
theorem fst_true {e : Nat → Bool} {r : RuleV} : ∀ (l : List RuleV), fstF l r e = true ↔ (boxR r).on e ∧ ∀ q ∈ l, ¬ (boxR q).on e
  | [] => by simp [fstF]
  | q :: l => by
    have ih := fst_true (e := e) (r := r) l
    simp only [fstF, decide_eq_true_eq]
    by_cases c : (boxR q).on e
    · rw [if_pos c]
      constructor
      · intro h; cases h
      · intro h; exact absurd c (h.2 q (List.mem_cons_self ..))
    · rw [if_neg c, ih]
      constructor
      · intro h; exact ⟨h.1, fun x hx => by
          rcases List.mem_cons.1 hx with rfl | hx
          · exact c
          · exact h.2 x hx⟩
      · intro h; exact ⟨h.1, fun x hx => h.2 x (List.mem_cons_of_mem _ hx)⟩
theorem firstM_at {p : PktV} : ∀ (l : List RuleV) (k i : Nat) (r : RuleV), l[i]? = some r → matchP r p → (∀ q ∈ l.take i, ¬ matchP q p) → firstM p l k = ((k + i : Nat) : Int)
  | [], k, i, r, h, _, _ => by simp at h
  | q :: l, k, 0, r, h, hm, _ => by
    have : q = r := by simpa using h
    subst this
    simp [firstM, hm]
  | q :: l, k, i + 1, r, h, hm, hp => by
    have hq := hp q (by simp)
    have ih := firstM_at l (k + 1) i r (by simpa using h) hm (fun x hx => hp x (by simp [hx]))
    simp only [firstM]
    rw [if_neg hq, ih]
    omega
theorem firstM_is {p : PktV} : ∀ (l : List RuleV) (k i : Nat) (r : RuleV), l[i]? = some r → firstM p l k = ((k + i : Nat) : Int) → matchP r p ∧ ∀ q ∈ l.take i, ¬ matchP q p
  | [], k, i, r, h, _ => by simp at h
  | q :: l, k, 0, r, h, hm => by
    have : q = r := by simpa using h
    subst this
    simp only [firstM] at hm
    by_cases c : matchP q p
    · exact ⟨c, by simp⟩
    · rw [if_neg c] at hm
      exfalso
      have : ∀ (l : List RuleV) (j : Nat), firstM p l j = -1 ∨ (j : Int) ≤ firstM p l j := by
        intro l
        induction l with
        | nil => intro j; exact .inl rfl
        | cons x l ih =>
          intro j
          simp only [firstM]
          split
          · exact .inr (Int.le_refl _)
          · rcases ih (j + 1) with q | q
            · exact .inl q
            · exact .inr (by omega)
      rcases this l (k + 1) with q | q <;> omega
  | q :: l, k, i + 1, r, h, hm => by
    simp only [firstM] at hm
    by_cases c : matchP q p
    · rw [if_pos c] at hm; omega
    · rw [if_neg c] at hm
      have ih := firstM_is l (k + 1) i r (by simpa using h) (by rw [hm]; omega)
      refine ⟨ih.1, fun x hx => ?_⟩
      rw [List.take_succ_cons] at hx
      rcases List.mem_cons.1 hx with rfl | hx
      · exact c
      · exact ih.2 x hx
theorem firstM_perm {p : PktV} : ∀ (l : List RuleV) (k : Nat), (firstM p l k = -1 ∧ permP p l = false) ∨ ∃ i r, l[i]? = some r ∧ firstM p l k = ((k + i : Nat) : Int) ∧ permP p l = r.permit
  | [], k => .inl ⟨rfl, rfl⟩
  | q :: l, k => by
    by_cases c : matchP q p
    · exact .inr ⟨0, q, rfl, by simp [firstM, c], by simp [permP, c]⟩
    · rcases firstM_perm (p := p) l (k + 1) with ⟨h1, h2⟩ | ⟨i, r, h1, h2, h3⟩
      · exact .inl ⟨by simp [firstM, c, h1], by simp [permP, c, h2]⟩
      · exact .inr ⟨i + 1, r, by simpa using h1, by simp only [firstM]; rw [if_neg c, h2]; omega, by simp [permP, c, h3]⟩
theorem lErr_ok : ∀ (l : List RuleV), (∀ r ∈ l, r.fits) → lErr l = 0 → ∀ r ∈ l, RuleOk r
  | [], _, _, r, hr => by cases hr
  | q :: l, hf, h, r, hr => by
    simp only [lErr] at h
    by_cases c : rChk q ≠ 0
    · rw [if_pos c] at h; exact absurd h c
    · rw [if_neg c] at h
      rcases List.mem_cons.1 hr with rfl | hr
      · exact ruleOk (hf _ (List.mem_cons_self ..)) (Classical.not_not.1 c)
      · exact lErr_ok l (fun x hx => hf x (List.mem_cons_of_mem _ hx)) h r hr
theorem lChk_ok {l : List RuleV} (hf : ∀ r ∈ l, r.fits) (h : lChk l = 0) : ∀ r ∈ l, RuleOk r := by
  unfold lChk at h
  by_cases c : 16 < l.length
  · rw [if_pos c] at h; cases h
  · rw [if_neg c] at h; exact lErr_ok l hf h
theorem lErr_mem : ∀ (l : List RuleV), (∀ r ∈ l, rChk r = 0) → lErr l = 0
  | [], _ => rfl
  | q :: l, h => by simp only [lErr]; rw [if_neg (by rw [h q (List.mem_cons_self ..)]; simp), lErr_mem l fun r hr => h r (List.mem_cons_of_mem _ hr)]
theorem lErr_all : ∀ (l : List RuleV), lErr l = 0 → ∀ r ∈ l, rChk r = 0
  | [], _, r, hr => by cases hr
  | q :: l, h, r, hr => by
    simp only [lErr] at h
    by_cases c : rChk q ≠ 0
    · rw [if_pos c] at h; exact absurd h c
    · rw [if_neg c] at h
      rcases List.mem_cons.1 hr with rfl | hr
      · exact Classical.not_not.1 c
      · exact lErr_all l h r hr

/-- A result over boxes of a longer list. -/
theorem of_sub {l m : List RuleV} (h : ∀ r ∈ l, r ∈ m) : Of m.length (bxL m) (allF l) := ⟨fun e e' hm => by
  have key : ∀ r ∈ m, ((boxR r).on e ↔ (boxR r).on e') := by
    intro r hr
    obtain ⟨i, hi, rfl⟩ := List.mem_iff_getElem.1 hr
    have := hm i hi
    unfold bxL at this
    simpa [hi] using this
  clear hm
  induction l with
  | nil => rfl
  | cons r l ih =>
    have h0 := key r (h r (List.mem_cons_self ..))
    simp only [allF, ih fun x hx => h x (List.mem_cons_of_mem _ hx), decide_eq_decide.2 h0]⟩
/-- Without a rule that is never the first one. -/
theorem all_del {e : Nat → Bool} {r : RuleV} : ∀ (pre suf : List RuleV), fstF pre r e = false → allF (pre ++ r :: suf) e = allF (pre ++ suf) e
  | [], suf, h => by
    simp only [fstF] at h
    simp only [List.nil_append, allF, h]
    rfl
  | q :: pre, suf, h => by
    simp only [fstF] at h
    simp only [List.cons_append, allF]
    by_cases c : decide ((boxR q).on e) = true
    · rw [if_pos c, if_pos c]
    · rw [if_neg c] at h ⊢
      rw [if_neg c, all_del pre suf h]
end Go.Proofs.Ytfjniocobcoepaa
