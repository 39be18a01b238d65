/- Facts on the functions and types of this seat that its laws are proved from: contracts under the premises that each theorem names. -/
import Derived.Test.YtjjokonehoipbaaUti
set_option linter.unusedSimpArgs false
set_option linter.unusedVariables false
set_option linter.unnecessarySimpa false
namespace Go.Proofs.Ytjjokonehoipbaa
open Go Go.RowKit PB
set_option linter.unusedVariables false

def Stn.cells (s : Stn) : List Value := [I64 s.next, I64 s.tries, I64 s.sent]
def flatS (l : List Stn) : List Value := l.flatMap Stn.cells
theorem flatS_append (a b : List Stn) : flatS (a ++ b) = flatS a ++ flatS b := by simp [flatS]
theorem flatS_cons (t : Stn) (b : List Stn) : flatS (t :: b) = t.cells ++ flatS b := by simp [flatS]
theorem flatS_len (l : List Stn) : (flatS l).length = l.length * 3 := by
  induction l with
  | nil => rfl
  | cons t l ih => rw [flatS_cons, List.length_append, ih]; simp [Stn.cells]; omega
theorem gS_at {l : List Stn} {i : Nat} (h : i < l.length) : ∃ pre suf, l = pre ++ gS l i :: suf ∧ pre.length = i := by
  obtain ⟨pre, q, suf, h1, h2⟩ := split_at h
  refine ⟨pre, suf, ?_, h2⟩
  have : gS l i = q := by rw [h1, ← h2]; simp [gS]
  rw [this]; exact h1
theorem flatS_take {l : List Stn} {i : Nat} (h : i < l.length) : ((flatS l).drop (3 * i)).take 3 = (gS l i).cells := by
  obtain ⟨pre, suf, h1, h2⟩ := gS_at h
  generalize gS l i = s at *
  subst h1 h2
  have hl := flatS_len pre
  rw [flatS_append, flatS_cons, List.drop_append, hl, List.drop_eq_nil_of_le (by omega), show 3 * pre.length - pre.length * 3 = 0 by omega]
  simp [Stn.cells]
theorem flatS_get {l : List Stn} {i : Nat} (h : i < l.length) (k : Nat) (hk : k < 3) : (flatS l)[3 * i + k]? = (gS l i).cells[k]? := by
  obtain ⟨pre, suf, h1, h2⟩ := gS_at h
  generalize gS l i = s at *
  subst h1 h2
  have hl := flatS_len pre
  rw [flatS_append, flatS_cons, List.getElem?_append_right (by omega), hl, show 3 * pre.length + k - pre.length * 3 = k by omega, List.getElem?_append_left (by simpa [Stn.cells] using hk)]
theorem flatS_set {l : List Stn} {i : Nat} (h : i < l.length) (k : Nat) (hk : k < 3) {v : Value} {s : Stn} (hs : (gS l i).cells.set k v = s.cells) : (flatS l).set (3 * i + k) v = flatS (l.set i s) := by
  obtain ⟨pre, suf, h1, h2⟩ := gS_at h
  generalize gS l i = s0 at *
  subst h1 h2
  have hl := flatS_len pre
  rw [flatS_append, flatS_cons, List.set_append_right _ _ (by omega), hl, show 3 * pre.length + k - pre.length * 3 = k by omega, List.set_append_left _ _ (by simpa [Stn.cells] using hk), hs, List.set_append_right _ _ (by omega)]
  simp [flatS]
theorem flatS_init (n : Nat) : zerosL (.agg #[I64 0, I64 0, I64 0]) (n * 3) = flatS (List.replicate n S0) := by
  induction n with
  | zero => rfl
  | succ n ih =>
    rw [List.replicate_succ', flatS_append, ← ih]
    unfold zerosL
    have h0 : (n * 3) % 3 = 0 := by omega
    have h1 : (n * 3 + 1) % 3 = 1 := by omega
    have h2 : (n * 3 + 2) % 3 = 2 := by omega
    rw [show (n + 1) * 3 = n * 3 + 1 + 1 + 1 by omega, List.range_succ, List.range_succ, List.range_succ]
    simp only [List.map_append, List.append_assoc, List.map_cons, List.map_nil, List.cons_append, List.nil_append]
    congr 1
    show [(#[I64 0, I64 0, I64 0] : Array Value)[(n * 3) % 3]!, (#[I64 0, I64 0, I64 0] : Array Value)[(n * 3 + 1) % 3]!, (#[I64 0, I64 0, I64 0] : Array Value)[(n * 3 + 2) % 3]!] = _
    rw [h0, h1, h2]
    rfl

/-- Numbers that can be read as long as the blocks of L stand. -/
structure Rd (W0 : World) (L : List (Nat × MObj)) (a : Option Addr) (len : Nat) (z : List Int) : Prop where
  at_ : ∀ i, i < len → ∃ x, a = some x ∧ ∀ w, St W0 w L → w.cell? (x.add i) = some (I64 (z.getD i 0))
end Go.Proofs.Ytjjokonehoipbaa
