/- Facts on the functions and types of this seat that its laws are proved from: contracts under the premises that each theorem names. -/
import Derived.Test.YtohomijijipfdaaFtj
set_option linter.unusedSimpArgs false
set_option linter.unusedVariables false
set_option linter.unnecessarySimpa false
namespace Go.Proofs.Ytohomijijipfdaa
open Go Go.RowKit PB
set_option linter.unusedVariables false

theorem y_toI {P : Program} {ρ : Operand → Value} {op : Op} {ty : TypeId} {w : World} {k : IntKind} {a b : Int} (h : Yld P ρ op ty w (.int k a)) (e : a = b) : Yld P ρ op ty w (.int k b) := e ▸ h

/-- How many of 0 .. k-1 are j modulo m. -/
def cnt (m : Nat) : Nat → Nat → Nat
  | 0, _ => 0
  | k + 1, j => cnt m k j + if k % m = j then 1 else 0

theorem dm {m q r : Nat} (h : r < m) : (m * q + r) / m = q ∧ (m * q + r) % m = r := by
  constructor
  · rw [Nat.mul_add_div (by omega), Nat.div_eq_of_lt h]; omega
  · rw [Nat.mul_add_mod, Nat.mod_eq_of_lt h]

theorem cnt_eq {m : Nat} (hm : 0 < m) (k j : Nat) (hj : j < m) : cnt m k j = k / m + if j < k % m then 1 else 0 := by
  induction k with
  | zero => simp [cnt]
  | succ k ih =>
    have h1 := Nat.div_add_mod k m
    have h2 := Nat.mod_lt k hm
    rw [cnt, ih]
    generalize k / m = q at *
    generalize k % m = r at *
    by_cases c : r + 1 < m
    · have h3 := dm (q := q) c
      have e : k + 1 = m * q + (r + 1) := by omega
      rw [e, h3.1, h3.2]
      split <;> split <;> split <;> omega
    · have h3 := dm (q := q + 1) hm
      have e : k + 1 = m * (q + 1) + 0 := by rw [Nat.mul_add]; omega
      rw [e, h3.1, h3.2]
      split <;> split <;> split <;> omega

theorem cnt_full {m : Nat} (hm : 0 < m) (r j : Nat) (hj : j < m) : cnt m (m * r) j = r := by
  rw [cnt_eq hm _ _ hj, Nat.mul_mod_right, Nat.mul_div_cancel_left _ hm]; simp
theorem cnt_here {m : Nat} (hm : 0 < m) {k r : Nat} (h : k < m * r) : cnt m k (k % m) < r := by
  rw [cnt_eq hm _ _ (Nat.mod_lt k hm)]
  simp only [Nat.lt_irrefl, if_false]
  exact Nat.div_lt_of_lt_mul h
theorem cnt_le {m : Nat} (hm : 0 < m) {k r j : Nat} (h : k < m * r) (hj : j < m) : cnt m k j ≤ r := by
  rw [cnt_eq hm _ _ hj]
  have := Nat.div_lt_of_lt_mul h
  split <;> omega

/-- Queues of weight 1 with n j strings of Q bytes each. -/
def evenQ (m : Nat) (Q : Nat) (n : Nat → Nat) : List Q3 := (List.range m).map fun j => ⟨1, 0, List.replicate (n j) (zstr Q)⟩
theorem evenQ_get {m Q : Nat} {n : Nat → Nat} {j : Nat} (h : j < m) : (evenQ m Q n)[j]? = some ⟨1, 0, List.replicate (n j) (zstr Q)⟩ := by simp [evenQ, h]
theorem evenQ_len (m Q : Nat) (n : Nat → Nat) : (evenQ m Q n).length = m := by simp [evenQ]
theorem evenQ_set {m Q : Nat} {n n' : Nat → Nat} {j : Nat} {q : Q3} (h : j < m) (hq : q = ⟨1, 0, List.replicate (n' j) (zstr Q)⟩) (ho : ∀ i, i ≠ j → i < m → n' i = n i) : (evenQ m Q n).set j q = evenQ m Q n' := by
  subst hq
  apply List.ext_getElem?
  intro i
  rw [List.getElem?_set, evenQ_len]
  by_cases c : j = i
  · subst c; simp [h, evenQ_get h]
  · rw [if_neg c]
    by_cases hi : i < m
    · rw [evenQ_get hi, evenQ_get hi, ho i (fun e => c e.symm) hi]
    · rw [List.getElem?_eq_none (by rw [evenQ_len]; omega), List.getElem?_eq_none (by rw [evenQ_len]; omega)]

def putsT (m Q k : Nat) : Ab := ⟨evenQ m Q (cnt m k), Q, 0, false⟩
theorem putsT_new (m Q : Nat) : Ab.new (List.replicate m 1) Q = putsT m Q 0 := by
  simp only [Ab.new, putsT, evenQ, Ab.mk.injEq, and_true]
  apply List.ext_getElem
  · simp
  · intro i h1 h2; simp [cnt]
theorem putsT_put {m Q k : Nat} (hm : 0 < m) : (putsT m Q k).put (k % m) ⟨1, 0, List.replicate (cnt m k (k % m)) (zstr Q)⟩ (zstr Q) = putsT m Q (k + 1) := by
  simp only [Ab.put, putsT, Ab.mk.injEq, and_true]
  refine evenQ_set (Nat.mod_lt k hm) ?_ (fun i hi _ => ?_)
  · simp [cnt, List.replicate_succ']
  · have : ¬ k % m = i := fun e => hi e.symm
    simp [cnt, this]

/-- Behind k takes. -/
def takesT (m r Q k : Nat) (at_ : Nat) (p : Bool) : Ab := ⟨evenQ m Q (fun j => r - cnt m k j), Q, at_, p⟩
theorem takesT_0 {m r Q : Nat} (hm : 0 < m) : putsT m Q (m * r) = takesT m r Q 0 0 false := by
  simp only [putsT, takesT, Ab.mk.injEq, and_true, evenQ]
  apply List.ext_getElem
  · simp
  · intro i h1 h2
    simp at h1
    simp [cnt, cnt_full hm r i h1]

theorem modS {k m : Nat} : (k % m + 1) % m = (k + 1) % m := Nat.mod_add_mod k m 1

/-- Take at a fresh visit. -/
theorem take_fresh {m r Q k : Nat} (hm : 0 < m) (hk : k < m * r) (n : Nat) : ∃ a', takeF (n + 1) (takesT m r Q k (k % m) false) = some (k % m, zstr Q, a') ∧ (a' = takesT m r Q (k + 1) ((k + 1) % m) false ∨ (a' = takesT m r Q (k + 1) (k % m) true ∧ cnt m (k + 1) (k % m) < r)) := by
  have hc := cnt_here hm hk
  have hl := Nat.mod_lt k hm
  obtain ⟨c, hc'⟩ : ∃ c, r - cnt m k (k % m) = c + 1 := ⟨r - cnt m k (k % m) - 1, by omega⟩
  have hg : (takesT m r Q k (k % m) false).qs[(takesT m r Q k (k % m) false).at_]? = some ⟨1, 0, zstr Q :: List.replicate c (zstr Q)⟩ := by
    show (evenQ m Q _)[k % m]? = _
    rw [evenQ_get hl, hc', List.replicate_succ]
  have hp : (takesT m r Q k (k % m) false).pay ⟨1, 0, zstr Q :: List.replicate c (zstr Q)⟩ = Q := by simp [Ab.pay, takesT]
  have hset : (evenQ m Q fun j => r - cnt m k j).set (k % m) ⟨1, 0, List.replicate c (zstr Q)⟩ = evenQ m Q fun j => r - cnt m (k + 1) j := by
    refine evenQ_set hl ?_ (fun i hi _ => ?_)
    · simp only [cnt, if_true]
      rw [show r - (cnt m k (k % m) + 1) = c by omega]
    · have : ¬ k % m = i := fun e => hi e.symm
      simp [cnt, this]
  by_cases c0 : c = 0
  · subst c0
    refine ⟨_, takeF_last hg rfl (by rw [hp, zstr_size]; omega), .inl ?_⟩
    simp only [Ab.up, Ab.leave, takesT, Ab.mk.injEq, and_true, List.length_set, evenQ_len]
    exact ⟨hset, trivial, modS⟩
  · refine ⟨_, takeF_more hg rfl (by simp [c0]) (by rw [hp, zstr_size]; omega), .inr ?_⟩
    rw [hp, zstr_size]
    simp only [Ab.up, takesT, Ab.mk.injEq, and_true]
    rw [Int.sub_self]
    exact ⟨hset, by simp only [cnt, if_true]; omega⟩

inductive TurnSt (m r Q k : Nat) (a : Ab) : Prop
  | fresh (h : a = takesT m r Q k (k % m) false)
  | paid (k' : Nat) (hk : k = k' + 1) (h : a = takesT m r Q k (k' % m) true) (hn : cnt m k (k' % m) < r)

theorem turn_take {m r Q k : Nat} {a : Ab} (hm : 0 < m) (hQ : 0 < Q) (hk : k < m * r) (h : TurnSt m r Q k a) : ∃ n a', takeF n a = some (k % m, zstr Q, a') ∧ TurnSt m r Q (k + 1) a' := by
  have fin : ∀ a', (a' = takesT m r Q (k + 1) ((k + 1) % m) false ∨ (a' = takesT m r Q (k + 1) (k % m) true ∧ cnt m (k + 1) (k % m) < r)) → TurnSt m r Q (k + 1) a' := by
    rintro a' (rfl | ⟨rfl, h⟩)
    · exact .fresh rfl
    · exact .paid k rfl rfl h
  rcases h with rfl | ⟨k', rfl, rfl, hn⟩
  · obtain ⟨a', h1, h2⟩ := take_fresh (Q := Q) hm hk 0
    exact ⟨_, a', h1, fin a' h2⟩
  · obtain ⟨a', h1, h2⟩ := take_fresh (Q := Q) hm hk 0
    have hl := Nat.mod_lt k' hm
    obtain ⟨c, hc'⟩ : ∃ c, r - cnt m (k' + 1) (k' % m) = c + 1 := ⟨r - cnt m (k' + 1) (k' % m) - 1, by omega⟩
    have hg : (takesT m r Q (k' + 1) (k' % m) true).qs[(takesT m r Q (k' + 1) (k' % m) true).at_]? = some ⟨1, 0, zstr Q :: List.replicate c (zstr Q)⟩ := by
      show (evenQ m Q _)[k' % m]? = _
      rw [evenQ_get hl, hc', List.replicate_succ]
    have hp : (takesT m r Q (k' + 1) (k' % m) true).pay ⟨1, 0, zstr Q :: List.replicate c (zstr Q)⟩ = 0 := by simp [Ab.pay, takesT]
    refine ⟨2, a', ?_, fin a' h2⟩
    rw [takeF_short hg rfl (by rw [hp, zstr_size]; omega), hp]
    have : ((takesT m r Q (k' + 1) (k' % m) true).up ⟨1, 0, zstr Q :: List.replicate c (zstr Q)⟩ true).leave = takesT m r Q (k' + 1) ((k' + 1) % m) false := by
      simp only [Ab.up, Ab.leave, List.length_set]
      rw [set_self hg]
      simp only [takesT, evenQ_len, Ab.mk.injEq, and_true, true_and]
      exact modS
    rw [this]
    exact h1
end Go.Proofs.Ytohomijijipfdaa
