/- Facts on the functions and types of this seat that its laws are proved from: contracts under the premises that each theorem names. -/
import Derived.Test.YtjjokonehoipbaaUtg
set_option linter.unusedSimpArgs false
set_option linter.unusedVariables false
set_option linter.unnecessarySimpa false
namespace Go.Proofs.Ytjjokonehoipbaa
open Go Go.RowKit PB
set_option linter.unusedVariables false

structure CS where
  l : List Stn
  used : Nat
  left : Nat
def sendC (c : CS) (i : Nat) (slot : Int) : CS := ⟨c.l.set i ⟨-1, (gS c.l i).tries, slot⟩, c.used, c.left - 1⟩
def drawF (len : Nat) (z : List Int) (used : Nat) : Int := if len = 0 then 0 else z.getD (used % len) 0
def retryC (len : Nat) (z : List Int) (slot : Int) (c : CS) (i : Nat) : CS :=
  if 16 < (gS c.l i).tries + 1 then ⟨c.l.set i ⟨-1, (gS c.l i).tries + 1, -1⟩, c.used, c.left - 1⟩
  else ⟨c.l.set i ⟨slot + 1 + waitF ((gS c.l i).tries + 1) (drawF len z c.used), (gS c.l i).tries + 1, (gS c.l i).sent⟩, c.used + 1, c.left⟩
def slotC (c : CS) : Int := (gS c.l ((nowF c.l c.l.length).getD 0 0)).next
def roundC (len : Nat) (z : List Int) (c : CS) : CS :=
  if (nowF c.l c.l.length).length = 1 then sendC c ((nowF c.l c.l.length).getD 0 0) (slotC c) else (nowF c.l c.l.length).foldl (retryC len z (slotC c)) c
def contF (len : Nat) (z : List Int) : Nat → CS → Option (List Stn)
  | 0, _ => none
  | k + 1, c => if c.left = 0 then some c.l else contF len z k (roundC len z c)

def pendS (s : Stn) : Nat := if s.next < 0 then 0 else 1
def needS (s : Stn) : Nat := if s.next < 0 then 0 else 17 - s.tries
def sumS (f : Stn → Nat) (l : List Stn) : Nat := (l.map f).sum

theorem gS_set {l : List Stn} {i j : Nat} {s : Stn} (h : i < l.length) : gS (l.set i s) j = if j = i then s else gS l j := by
  unfold gS
  rw [List.getD_eq_getElem?_getD, List.getElem?_set, List.getD_eq_getElem?_getD]
  by_cases c : i = j
  · subst c; simp [h]
  · rw [if_neg c, if_neg (fun e => c e.symm)]
theorem sumS_set {f : Stn → Nat} : ∀ {l : List Stn} {i : Nat} {s : Stn}, i < l.length → sumS f (l.set i s) + f (gS l i) = sumS f l + f s
  | [], i, s, h => by simp at h
  | x :: l, 0, s, h => by simp [sumS, gS]; omega
  | x :: l, i + 1, s, h => by
    have := sumS_set (f := f) (l := l) (i := i) (s := s) (by simpa using h)
    simp [sumS, gS] at this ⊢; omega

structure EachS (s : Stn) : Prop where
  n1 : -1 ≤ s.next
  t : 0 ≤ s.next → s.tries ≤ 16 ∧ s.next ≤ 1024 * s.tries
  t17 : s.tries ≤ 17
  s1 : -1 ≤ s.sent
  s2 : s.sent ≤ 16384

structure WFc (n : Nat) (c : CS) : Prop where
  len : c.l.length = n
  left : c.left = sumS pendS c.l
  used : c.used ≤ sumS Stn.tries c.l
  each : ∀ i, i < n → EachS (gS c.l i)
  dist : ∀ i j, i < n → j < n → i ≠ j → (gS c.l i).next < 0 → 0 ≤ (gS c.l i).sent → ((gS c.l j).next < 0 → (gS c.l i).sent ≠ (gS c.l j).sent) ∧ (0 ≤ (gS c.l j).next → (gS c.l i).sent < (gS c.l j).next)

theorem sum_le {f : Stn → Nat} {b : Nat} : ∀ (l : List Stn), (∀ i, i < l.length → f (gS l i) ≤ b) → sumS f l ≤ b * l.length
  | [], _ => by simp [sumS]
  | x :: l, h => by
    have h0 := h 0 (by simp)
    have := sum_le l (fun i hi => h (i + 1) (by simpa using hi))
    simp [sumS, gS] at h0 this ⊢
    rw [Nat.mul_add]; omega

theorem pend_pos {l : List Stn} {i : Nat} (hi : i < l.length) (h : 0 ≤ (gS l i).next) : 1 ≤ sumS pendS l := by
  have := sumS_set (f := pendS) (l := l) (i := i) (s := ⟨-1, 0, 0⟩) hi
  have e : pendS (gS l i) = 1 := by unfold pendS; rw [if_neg (by omega)]
  have e2 : pendS ⟨-1, 0, 0⟩ = 0 := rfl
  omega

theorem wf_retry {n len : Nat} {z : List Int} {slot : Int} {c : CS} {i : Nat} (h : WFc n c) (hi : i < n) (hs : (gS c.l i).next = slot) (h0 : 0 ≤ slot) :
    WFc n (retryC len z slot c i) ∧ sumS needS (retryC len z slot c i).l + 1 ≤ sumS needS c.l ∧ ∀ j, j ≠ i → gS (retryC len z slot c i).l j = gS c.l j := by
  have hl : i < c.l.length := by rw [h.len]; exact hi
  have hp := pend_pos hl (by omega)
  have he := h.each i hi
  have ht := he.t (by omega)
  have hpi : pendS (gS c.l i) = 1 := by unfold pendS; rw [if_neg (by omega)]
  have hni : needS (gS c.l i) = 17 - (gS c.l i).tries := by unfold needS; rw [if_neg (by omega)]
  unfold retryC
  split
  · rename_i ct
    have g : ∀ j, gS (c.l.set i ⟨-1, (gS c.l i).tries + 1, -1⟩) j = if j = i then ⟨-1, (gS c.l i).tries + 1, -1⟩ else gS c.l j := fun j => gS_set hl
    have a1 := sumS_set (f := pendS) (s := ⟨-1, (gS c.l i).tries + 1, -1⟩) hl
    have a2 := sumS_set (f := Stn.tries) (s := ⟨-1, (gS c.l i).tries + 1, -1⟩) hl
    have a3 := sumS_set (f := needS) (s := ⟨-1, (gS c.l i).tries + 1, -1⟩) hl
    have p1 : pendS ⟨-1, (gS c.l i).tries + 1, -1⟩ = 0 := rfl
    have p3 : needS ⟨-1, (gS c.l i).tries + 1, -1⟩ = 0 := rfl
    have hleft := h.left
    have hused := h.used
    dsimp only at *
    refine ⟨⟨by simp [h.len], by dsimp only; omega, by dsimp only; omega, fun j hj => ?_, fun j k hj hk hjk hn hsn => ?_⟩, by omega, fun j hj => by rw [g, if_neg hj]⟩
    · rw [g]
      split
      · exact ⟨by simp, by simp, by dsimp only; omega, by simp, by simp⟩
      · exact h.each j hj
    · rw [g] at hn hsn
      rw [g, g]
      by_cases e1 : j = i
      · rw [if_pos e1] at hsn; dsimp only at hsn; omega
      · rw [if_neg e1] at hn hsn ⊢
        by_cases e2 : k = i
        · rw [if_pos e2]; dsimp only; constructor <;> intro _ <;> omega
        · rw [if_neg e2]; exact h.dist j k hj hk hjk hn hsn
  · rename_i ct
    have hw := waitF_bd ((gS c.l i).tries + 1) (drawF len z c.used)
    generalize hN : slot + 1 + waitF ((gS c.l i).tries + 1) (drawF len z c.used) = N
    have g : ∀ j, gS (c.l.set i ⟨N, (gS c.l i).tries + 1, (gS c.l i).sent⟩) j = if j = i then ⟨N, (gS c.l i).tries + 1, (gS c.l i).sent⟩ else gS c.l j := fun j => gS_set hl
    have a1 := sumS_set (f := pendS) (s := ⟨N, (gS c.l i).tries + 1, (gS c.l i).sent⟩) hl
    have a2 := sumS_set (f := Stn.tries) (s := ⟨N, (gS c.l i).tries + 1, (gS c.l i).sent⟩) hl
    have a3 := sumS_set (f := needS) (s := ⟨N, (gS c.l i).tries + 1, (gS c.l i).sent⟩) hl
    have p1 : pendS ⟨N, (gS c.l i).tries + 1, (gS c.l i).sent⟩ = 1 := by unfold pendS; rw [if_neg (by dsimp only; omega)]
    have p3 : needS ⟨N, (gS c.l i).tries + 1, (gS c.l i).sent⟩ = 17 - ((gS c.l i).tries + 1) := by unfold needS; rw [if_neg (by dsimp only; omega)]
    have hleft := h.left
    have hused := h.used
    dsimp only at *
    refine ⟨⟨by simp [h.len], by dsimp only; omega, by dsimp only; omega, fun j hj => ?_, fun j k hj hk hjk hn hsn => ?_⟩, by omega, fun j hj => by rw [g, if_neg hj]⟩
    · rw [g]
      split
      · exact ⟨by dsimp only; omega, fun _ => ⟨by dsimp only; omega, by dsimp only; omega⟩, by dsimp only; omega, he.s1, he.s2⟩
      · exact h.each j hj
    · rw [g] at hn hsn
      rw [g, g]
      by_cases e1 : j = i
      · rw [if_pos e1] at hn; dsimp only at hn; omega
      · rw [if_neg e1] at hn hsn ⊢
        by_cases e2 : k = i
        · rw [if_pos e2]
          have := (h.dist j i hj hi (by omega) hn hsn).2 (by omega)
          dsimp only; constructor <;> intro _ <;> omega
        · rw [if_neg e2]; exact h.dist j k hj hk hjk hn hsn

theorem wf_send {n : Nat} {c : CS} {i : Nat} {slot : Int} (h : WFc n c) (hi : i < n) (hs : (gS c.l i).next = slot) (h0 : 0 ≤ slot) (hmin : ∀ j, j < n → j ≠ i → 0 ≤ (gS c.l j).next → slot < (gS c.l j).next) :
    WFc n (sendC c i slot) ∧ sumS needS (sendC c i slot).l + 1 ≤ sumS needS c.l := by
  have hl : i < c.l.length := by rw [h.len]; exact hi
  have hp := pend_pos hl (by omega)
  have he := h.each i hi
  have ht := he.t (by omega)
  have hpi : pendS (gS c.l i) = 1 := by unfold pendS; rw [if_neg (by omega)]
  have hni : needS (gS c.l i) = 17 - (gS c.l i).tries := by unfold needS; rw [if_neg (by omega)]
  unfold sendC
  have g : ∀ j, gS (c.l.set i ⟨-1, (gS c.l i).tries, slot⟩) j = if j = i then ⟨-1, (gS c.l i).tries, slot⟩ else gS c.l j := fun j => gS_set hl
  have a1 := sumS_set (f := pendS) (s := ⟨-1, (gS c.l i).tries, slot⟩) hl
  have a2 := sumS_set (f := Stn.tries) (s := ⟨-1, (gS c.l i).tries, slot⟩) hl
  have a3 := sumS_set (f := needS) (s := ⟨-1, (gS c.l i).tries, slot⟩) hl
  have p1 : pendS ⟨-1, (gS c.l i).tries, slot⟩ = 0 := rfl
  have p3 : needS ⟨-1, (gS c.l i).tries, slot⟩ = 0 := rfl
  have hleft := h.left
  have hused := h.used
  dsimp only at *
  refine ⟨⟨by simp [h.len], by dsimp only; omega, by dsimp only; omega, fun j hj => ?_, fun j k hj hk hjk hn hsn => ?_⟩, by omega⟩
  · rw [g]
    split
    · exact ⟨by simp, by simp, by dsimp only; omega, by dsimp only; omega, by dsimp only; omega⟩
    · exact h.each j hj
  · rw [g] at hn hsn
    rw [g, g]
    by_cases e1 : j = i
    · rw [if_pos e1]
      rw [if_neg (by omega)]
      dsimp only
      constructor
      · intro hk2 e
        by_cases hks : 0 ≤ (gS c.l k).sent
        · have := (h.dist k i hk hi (by omega) hk2 hks).2 (by omega)
          omega
        · omega
      · intro hk2; exact hmin k hk (by omega) hk2
    · rw [if_neg e1] at hn hsn ⊢
      by_cases e2 : k = i
      · rw [if_pos e2]
        have := (h.dist j i hj hi (by omega) hn hsn).2 (by omega)
        dsimp only; constructor <;> intro _ <;> omega
      · rw [if_neg e2]; exact h.dist j k hj hk hjk hn hsn
end Go.Proofs.Ytjjokonehoipbaa
