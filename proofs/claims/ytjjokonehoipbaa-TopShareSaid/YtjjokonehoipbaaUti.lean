/- Facts on the functions and types of this seat that its laws are proved from: contracts under the premises that each theorem names. -/
import Derived.Test.YtjjokonehoipbaaUth
set_option linter.unusedSimpArgs false
set_option linter.unusedVariables false
set_option linter.unnecessarySimpa false
namespace Go.Proofs.Ytjjokonehoipbaa
open Go Go.RowKit PB
set_option linter.unusedVariables false

theorem fold_retry {n len : Nat} {z : List Int} {slot : Int} (h0 : 0 ≤ slot) : ∀ (now : List Nat) (c : CS), WFc n c → (∀ i ∈ now, i < n ∧ (gS c.l i).next = slot) → now.Nodup →
    WFc n (now.foldl (retryC len z slot) c) ∧ sumS needS (now.foldl (retryC len z slot) c).l + now.length ≤ sumS needS c.l
  | [], c, h, _, _ => ⟨h, by simp⟩
  | i :: now, c, h, hn, hd => by
    obtain ⟨hi, hs⟩ := hn i (by simp)
    obtain ⟨h1, h2, h3⟩ := wf_retry (len := len) (z := z) h hi hs h0
    rw [List.nodup_cons] at hd
    obtain ⟨h4, h5⟩ := fold_retry h0 now (retryC len z slot c i) h1 (fun j hj => by
      obtain ⟨a, b⟩ := hn j (by simp [hj])
      refine ⟨a, ?_⟩
      rw [h3 j (fun e => hd.1 (e ▸ hj))]; exact b) hd.2
    exact ⟨h4, by rw [List.foldl_cons, List.length_cons]; omega⟩

/-- The fact on a round's stations. -/
structure Round (n : Nat) (c : CS) : Prop where
  ne : nowF c.l n ≠ []
  hd : (nowF c.l n).getD 0 0 < n
  slot : 0 ≤ slotC c
  all : ∀ i ∈ nowF c.l n, i < n ∧ (gS c.l i).next = slotC c

theorem sum_zero {f : Stn → Nat} : ∀ (l : List Stn), (∀ i, i < l.length → f (gS l i) = 0) → sumS f l = 0
  | [], _ => rfl
  | x :: l, h => by
    have h0 := h 0 (by simp)
    have := sum_zero l (fun i hi => h (i + 1) (by simpa using hi))
    simp [sumS, gS] at h0 this ⊢
    exact ⟨h0, this⟩
theorem sum_zero' {f : Stn → Nat} {l : List Stn} (h : sumS f l = 0) {i : Nat} (hi : i < l.length) : f (gS l i) = 0 := by
  have := sumS_set (f := f) (l := l) (i := i) (s := gS l i) hi
  have e : l.set i (gS l i) = l := by
    apply List.ext_getElem?
    intro j
    rw [List.getElem?_set]
    by_cases c : i = j
    · subst c; simp [hi, gS]
    · rw [if_neg c]
  unfold sumS at h this
  rw [e] at this
  have h2 : f (gS l i) ∈ l.map f := List.mem_map_of_mem (by simp [gS, hi])
  exact (List.sum_eq_zero_iff_forall_eq_nat.1 h) _ h2

theorem round_ok {n : Nat} {c : CS} (h : WFc n c) (hl : 0 < c.left) : Round n c := by
  have N := now_ok c.l n
  have hne : nowF c.l n ≠ [] := by
    intro e
    have := N.nil_ e
    have hz : sumS pendS c.l = 0 := sum_zero c.l fun i hi => by unfold pendS; rw [if_pos (this i (by rw [← h.len]; exact hi))]
    have := h.left
    omega
  have hmem : (nowF c.l n).getD 0 0 ∈ nowF c.l n := by
    cases hq : nowF c.l n with
    | nil => exact absurd hq hne
    | cons a b => simp
  refine ⟨hne, N.lt _ hmem, ?_, fun i hi => ⟨N.lt i hi, ?_⟩⟩
  · unfold slotC; rw [h.len]; exact N.nn hne
  · unfold slotC; rw [h.len]; exact N.eq i hi

theorem wf_round {n len : Nat} {z : List Int} {c : CS} (h : WFc n c) (hl : 0 < c.left) : WFc n (roundC len z c) ∧ sumS needS (roundC len z c).l + 1 ≤ sumS needS c.l := by
  have R := round_ok h hl
  have N := now_ok c.l n
  have hsl : slotC c = (gS c.l ((nowF c.l n).getD 0 0)).next := by unfold slotC; rw [h.len]
  unfold roundC
  rw [h.len]
  split
  · rename_i h1
    refine wf_send h R.hd hsl.symm R.slot fun j hj hji hn => ?_
    have := N.min_ R.ne j hj hn
    rw [hsl]
    have hne : (gS c.l j).next ≠ (gS c.l ((nowF c.l n).getD 0 0)).next := by
      intro e
      have hm := this.2 e
      cases hq : nowF c.l n with
      | nil => exact absurd hq R.ne
      | cons a b =>
        rw [hq] at h1 hm hji
        simp at h1
        subst h1
        simp at hm hji
        exact hji hm
    omega
  · obtain ⟨h1, h2⟩ := fold_retry (len := len) (z := z) R.slot (nowF c.l n) c h R.all N.nd
    have : 1 ≤ (nowF c.l n).length := List.length_pos_iff.2 R.ne
    exact ⟨h1, by omega⟩

/-- What Contend answers. -/
structure Slots (n : Nat) (l : List Stn) : Prop where
  len : l.length = n
  bd : ∀ i, i < n → -1 ≤ (gS l i).sent ∧ (gS l i).sent ≤ 16384
  dist : ∀ i j, i < n → j < n → i ≠ j → 0 ≤ (gS l i).sent → (gS l i).sent ≠ (gS l j).sent

theorem cont_ends {n len : Nat} {z : List Int} : ∀ (m : Nat) (c : CS), WFc n c → sumS needS c.l ≤ m → ∃ k l, contF len z k c = some l ∧ Slots n l := by
  intro m
  induction m with
  | zero =>
    intro c h hm
    by_cases hl : c.left = 0
    · refine ⟨1, c.l, by simp [contF, hl], h.len, fun i hi => ⟨(h.each i hi).s1, (h.each i hi).s2⟩, fun i j hi hj hij hs => ?_⟩
      have hz : sumS pendS c.l = 0 := by have := h.left; omega
      have hd : ∀ i, i < n → (gS c.l i).next < 0 := fun i hi => by
        have := sum_zero' hz (i := i) (by rw [h.len]; exact hi)
        unfold pendS at this
        split at this
        · assumption
        · omega
      exact (h.dist i j hi hj hij (hd i hi) hs).1 (hd j hj)
    · have := (wf_round (len := len) (z := z) h (by omega)).2
      omega
  | succ m ih =>
    intro c h hm
    by_cases hl : c.left = 0
    · refine ⟨1, c.l, by simp [contF, hl], h.len, fun i hi => ⟨(h.each i hi).s1, (h.each i hi).s2⟩, fun i j hi hj hij hs => ?_⟩
      have hz : sumS pendS c.l = 0 := by have := h.left; omega
      have hd : ∀ i, i < n → (gS c.l i).next < 0 := fun i hi => by
        have := sum_zero' hz (i := i) (by rw [h.len]; exact hi)
        unfold pendS at this
        split at this
        · assumption
        · omega
      exact (h.dist i j hi hj hij (hd i hi) hs).1 (hd j hj)
    · obtain ⟨h1, h2⟩ := wf_round (len := len) (z := z) h (by omega)
      obtain ⟨k, l, hk, hs⟩ := ih _ h1 (by omega)
      exact ⟨k + 1, l, by simp only [contF, if_neg hl]; exact hk, hs⟩

def contInit (n : Nat) : CS := ⟨List.replicate n S0, 0, n⟩
theorem gS_init {n i : Nat} : gS (List.replicate n S0) i = S0 := by
  unfold gS
  rw [List.getD_eq_getElem?_getD, List.getElem?_replicate]
  split <;> rfl
theorem wf_init (n : Nat) : WFc n (contInit n) := by
  refine ⟨by simp [contInit], ?_, Nat.zero_le _, fun i hi => ?_, fun i j hi hj hij hn => ?_⟩
  · show n = sumS pendS (List.replicate n S0)
    simp [sumS, pendS, S0]
  · show EachS (gS (List.replicate n S0) i)
    rw [gS_init]; exact ⟨by decide, by decide, by decide, by decide, by decide⟩
  · have : (gS (List.replicate n S0) i).next < 0 := hn
    rw [gS_init] at this; exact absurd this (by decide)

theorem cont_all (n len : Nat) (z : List Int) : ∃ k l, contF len z k (contInit n) = some l ∧ Slots n l := cont_ends _ _ (wf_init n) (Nat.le_refl _)

theorem cont_ex : ∃ l, contF 2 [0, 1] 4 (contInit 2) = some l ∧ l.map Stn.sent = [1, 2] := by
  refine ⟨_, by rfl, ?_⟩
  decide
end Go.Proofs.Ytjjokonehoipbaa
