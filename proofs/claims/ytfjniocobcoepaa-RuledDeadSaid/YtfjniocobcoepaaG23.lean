/- Facts on the functions and types of this seat that its laws are proved from: contracts under the premises that each theorem names. -/
import Derived.Test.YtfjniocobcoepaaG22
set_option linter.unusedSimpArgs false
set_option linter.unusedVariables false
set_option linter.unnecessarySimpa false
namespace Go.Proofs.Ytfjniocobcoepaa
open Go Go.RowKit PB
set_option linter.unusedVariables false
set_option linter.unusedSimpArgs false

/-! ### The new nodes of one box -/
theorem sum105 (c : Nat → Nat) : ((List.range 105).map c).sum = ((List.range 8).map c).sum + (c 8 + (((List.range 16).map fun i => c (9 + i)).sum + (((List.range 16).map fun i => c (25 + i)).sum + (((List.range 32).map fun i => c (41 + i)).sum + ((List.range 32).map fun i => c (73 + i)).sum)))) := by
  rw [show (105 : Nat) = 8 + (1 + (16 + (16 + (32 + 32)))) by rfl, List.range_add, List.range_add, List.range_add, List.range_add, List.range_add]
  simp [List.map_map, Function.comp_def, ← Nat.add_assoc]
theorem sum_le {c : Nat → Nat} {k : Nat} : ∀ n, (∀ i, i < n → c i ≤ k) → ((List.range n).map c).sum ≤ n * k
  | 0, _ => by simp
  | n + 1, h => by
    have := sum_le n (fun i hi => h i (by omega))
    have h2 := h n (by omega)
    rw [List.range_succ, List.map_append, List.sum_append, Nat.add_mul]
    simp
    omega
theorem sum_lt {c : Nat → Nat} {k : Nat} : ∀ n, (∀ i, i < n → c i ≤ if i < k then 1 else 0) → ((List.range n).map c).sum ≤ k
  | 0, _ => by simp
  | n + 1, h => by
    have h2 := h n (by omega)
    rw [List.range_succ, List.map_append, List.sum_append]
    by_cases d : n < k
    · have := sum_le (k := 1) n (fun i hi => by have := h i (by omega); split at this <;> omega)
      rw [if_pos d] at h2
      simp
      omega
    · have := sum_lt n (fun i hi => h i (by omega))
      rw [if_neg d] at h2
      simp
      omega

def boxT (b : Bx) (v : Nat) : List Nat :=
  if v < 8 then (if v < b.pm then [0] else [])
  else if v = 8 then (if (b.ff = false ∧ b.nf = false) ∨ (b.tf = false ∧ b.nt = false) then [0] else [])
  else if v < 25 then (if b.ff = false then [0, 1] else [])
  else if v < 41 then (if b.tf = false then [0, 1] else [])
  else if v < 73 then (if v < 41 + b.sm then [0] else [])
  else (if v < 73 + b.dm then [0] else [])
def boxK (b : Bx) (v : Nat) (u : Nat → Bool) : Nat :=
  if 9 ≤ v ∧ v < 25 then (if numB u 9 (v - 9) = b.fl / 2 ^ (25 - v) then 0 else 1)
  else if 25 ≤ v ∧ v < 41 then (if numB u 25 (v - 25) = b.tl / 2 ^ (41 - v) then 0 else 1)
  else 0
/-- The bound for one box. -/
def boxN (b : Bx) : Nat := b.pm + ((if (b.ff = false ∧ b.nf = false) ∨ (b.tf = false ∧ b.nt = false) then 1 else 0) + ((if b.ff = false then 32 else 0) + ((if b.tf = false then 32 else 0) + (b.sm + b.dm))))
theorem boxT_sum (b : Bx) : ((List.range 105).map fun v => (boxT b v).length).sum ≤ boxN b := by
  rw [sum105]
  unfold boxN
  refine Nat.add_le_add (sum_lt 8 fun i hi => ?_) (Nat.add_le_add ?_ (Nat.add_le_add ?_ (Nat.add_le_add ?_ (Nat.add_le_add (sum_lt 32 fun i hi => ?_) (sum_lt 32 fun i hi => ?_)))))
  · unfold boxT; rw [if_pos hi]; split <;> simp
  · unfold boxT; simp only [Nat.lt_irrefl, if_false, if_true]; split <;> simp
  · have : (if b.ff = false then 32 else 0) = 16 * (if b.ff = false then 2 else 0) := by split <;> rfl
    rw [this]
    refine sum_le 16 fun i hi => ?_
    unfold boxT; rw [if_neg (by omega), if_neg (by omega), if_pos (by omega)]; split <;> simp
  · have : (if b.tf = false then 32 else 0) = 16 * (if b.tf = false then 2 else 0) := by split <;> rfl
    rw [this]
    refine sum_le 16 fun i hi => ?_
    unfold boxT; rw [if_neg (by omega), if_neg (by omega), if_neg (by omega), if_pos (by omega)]; split <;> simp
  · unfold boxT; rw [if_neg (by omega), if_neg (by omega), if_neg (by omega), if_neg (by omega), if_pos (by omega)]
    by_cases c : i < b.sm
    · rw [if_pos (by omega), if_pos c]; simp
    · rw [if_neg (by omega), if_neg c]; simp
  · unfold boxT; rw [if_neg (by omega), if_neg (by omega), if_neg (by omega), if_neg (by omega), if_neg (by omega)]
    by_cases c : i < b.dm
    · rw [if_pos (by omega), if_pos c]; simp
    · rw [if_neg (by omega), if_neg c]; simp
theorem fresh_tight {s : DS} {R : (Nat → Bool) → Bool} {b : Bx} (hb : b.ok) (hR : ∀ e, R e = decide (b.on e)) {v : Nat} {u : Nat → Bool} (h : Fresh s R v u) : Tight b v u := by
  obtain ⟨e, he⟩ := h.dep
  exact Bx.dep hb (e := e) fun hh => he (by rw [hR, hR]; exact decide_eq_decide.2 hh)
theorem if_box {s : DS} (h : Inv s) (h105 : s.vars = 105) {a b c : Nat} (ha : a < s.nodes.length) (hb : b < s.nodes.length) (hc : c < s.nodes.length) {x : Bx} (hx : x.ok) (hR : ∀ e, iteF s a b c e = decide (x.on e)) :
    (ifF s a b c).1.nodes.length ≤ s.nodes.length + boxN x := by
  have hx1 := hx.p
  have key := if_count h ha hb hc (boxT x) (boxK x) (fun v u hv hf => ?_) (fun v u u' hv hf hf' hk => ?_)
  · rw [h105] at key
    exact Nat.le_trans key (Nat.add_le_add_left (boxT_sum x) _)
  · have T := fresh_tight hx hR hf
    rw [h105] at hv
    unfold boxT boxK
    by_cases c1 : v < 8
    · rw [if_pos c1, if_pos (T.p c1), if_neg (by omega), if_neg (by omega)]; simp
    · rw [if_neg c1]
      by_cases c2 : v = 8
      · rw [if_pos c2, if_pos (T.x c2), if_neg (by omega), if_neg (by omega)]; simp
      · rw [if_neg c2]
        by_cases c3 : v < 25
        · rw [if_pos c3, if_pos (T.f (by omega) c3).1, if_pos ⟨by omega, c3⟩]; split <;> simp
        · rw [if_neg c3]
          by_cases c4 : v < 41
          · rw [if_pos c4, if_pos (T.t (by omega) c4).1, if_neg (by omega), if_pos ⟨by omega, c4⟩]; split <;> simp
          · rw [if_neg c4, if_neg (show ¬ (9 ≤ v ∧ v < 25) by omega), if_neg (show ¬ (25 ≤ v ∧ v < 41) by omega)]
            by_cases c5 : v < 73
            · rw [if_pos c5, if_pos (T.s (by omega) c5)]; simp
            · rw [if_neg c5, if_pos (T.d (by omega))]; simp
  · have T := fresh_tight hx hR hf
    have T' := fresh_tight hx hR hf'
    intro e
    rw [hR, hR]
    refine decide_eq_decide.2 (x.same T.live T'.live (fun f hff h1 h2 => ?_) e)
    unfold boxK at hk
    rcases hff with rfl | rfl
    · have t := (T.f (by omega) (by omega)).2.2
      have t' := (T'.f (by omega) (by omega)).2.2
      have w : 9 ≤ v ∧ v < 25 := by omega
      simp only [if_pos w] at hk
      by_cases q : numB u 9 (v - 9) = x.fl / 2 ^ (25 - v) <;> by_cases q' : numB u' 9 (v - 9) = x.fl / 2 ^ (25 - v)
      · rw [q, q']
      · rw [if_pos q, if_neg q'] at hk; cases hk
      · rw [if_neg q, if_pos q'] at hk; cases hk
      · rw [t.resolve_left q, t'.resolve_left q']
    · have t := (T.t (by omega) (by omega)).2.2
      have t' := (T'.t (by omega) (by omega)).2.2
      have w1 : ¬ (9 ≤ v ∧ v < 25) := by omega
      have w : 25 ≤ v ∧ v < 41 := by omega
      simp only [if_neg w1, if_pos w] at hk
      by_cases q : numB u 25 (v - 25) = x.tl / 2 ^ (41 - v) <;> by_cases q' : numB u' 25 (v - 25) = x.tl / 2 ^ (41 - v)
      · rw [q, q']
      · rw [if_pos q, if_neg q'] at hk; cases hk
      · rw [if_neg q, if_pos q'] at hk; cases hk
      · rw [t.resolve_left q, t'.resolve_left q']
end Go.Proofs.Ytfjniocobcoepaa
