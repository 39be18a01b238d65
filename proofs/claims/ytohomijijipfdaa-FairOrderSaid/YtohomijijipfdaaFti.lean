/- Facts on the functions and types of this seat that its laws are proved from: contracts under the premises that each theorem names. -/
import Derived.Test.YtohomijijipfdaaFth
set_option linter.unusedSimpArgs false
set_option linter.unusedVariables false
set_option linter.unnecessarySimpa false
namespace Go.Proofs.Ytohomijijipfdaa
open Go Go.RowKit PB
set_option linter.unusedVariables false

/-! ### What Put and Take do to the strings -/
def wss (a : Ab) : List (List ByteArray) := a.qs.map Q3.ws
theorem wss_put {a : Ab} {i : Nat} {q : Q3} {s : ByteArray} : wss (a.put i q s) = (wss a).set i (q.ws ++ [s]) := by simp [wss, Ab.put, List.map_set]
theorem wss_new (ws : List Int) (Q : Int) : wss (Ab.new ws Q) = List.replicate ws.length [] := by
  simp only [wss, Ab.new, List.map_map]
  induction ws with
  | nil => rfl
  | cons w ws ih => simp [List.replicate_succ] at ih ⊢; exact ih
theorem wss_up {a : Ab} {q : Q3} {p : Bool} : wss (a.up q p) = (wss a).set a.at_ q.ws := by simp [wss, Ab.up, List.map_set]
theorem wss_leave (a : Ab) : wss a.leave = wss a := rfl
theorem wss_get {a : Ab} {i : Nat} {l : List ByteArray} (h : (wss a)[i]? = some l) : ∃ q, a.qs[i]? = some q ∧ q.ws = l := by
  simp only [wss, List.getElem?_map, Option.map_eq_some_iff] at h
  exact h

theorem set_self {α : Type} {l : List α} {i : Nat} {x : α} (h : l[i]? = some x) : l.set i x = l := by
  apply List.ext_getElem?
  intro j
  rw [List.getElem?_set]
  by_cases c : i = j
  · subst c
    obtain ⟨hlt, he⟩ := List.getElem?_eq_some_iff.1 h
    simp [hlt, he]
  · simp [c]

theorem takeF_ws : ∀ (k : Nat) {a : Ab} {i : Nat} {s : ByteArray} {a' : Ab}, takeF k a = some (i, s, a') → ∃ r, (wss a)[i]? = some (s :: r) ∧ wss a' = (wss a).set i r
  | 0, _, _, _, _, h => by cases h
  | k + 1, a, i, s, a', h => by
    cases hq : a.qs[a.at_]? with
    | none => simp [takeF, hq] at h
    | some q =>
      have hg : (wss a)[a.at_]? = some q.ws := by simp [wss, hq]
      cases hw : q.ws with
      | nil => rw [takeF_nil hq hw] at h; have h' := takeF_ws k h; exact h'
      | cons s0 r0 =>
        by_cases hd : a.pay q < s0.size
        · rw [takeF_short hq hw hd] at h
          obtain ⟨r, h1, h2⟩ := takeF_ws k h
          rw [wss_leave, wss_up, ← hw, set_self hg] at h1 h2
          exact ⟨r, h1, h2⟩
        · by_cases hr : r0 = []
          · subst hr
            rw [takeF_last hq hw hd] at h
            cases h
            exact ⟨[], by rw [hg, hw], by rw [wss_leave, wss_up]⟩
          · rw [takeF_more hq hw hr hd] at h
            cases h
            exact ⟨r0, by rw [hg, hw], by rw [wss_up]⟩

theorem wss_ne {a : Ab} {i : Nat} {s : ByteArray} {r : List ByteArray} (h : (wss a)[i]? = some (s :: r)) : ∃ q ∈ a.qs, q.ws ≠ [] := by
  obtain ⟨q, h1, h2⟩ := wss_get h
  exact ⟨q, List.mem_of_getElem? h1, by rw [h2]; simp⟩

/-! ### One filled queue -/
structure Alone (a : Ab) (n k : Nat) (l : List ByteArray) : Prop where
  wf : a.wf
  kn : k < n
  ws : wss a = (List.replicate n []).set k l

theorem Alone.get {a : Ab} {n k : Nat} {l : List ByteArray} (h : Alone a n k l) : ∃ q, a.qs[k]? = some q ∧ q.ws = l := by
  have hk := h.kn
  exact wss_get (by rw [h.ws, List.getElem?_set]; simp [hk])
theorem alone_new {ws : List Int} {Q : Int} {k : Nat} (hk : k < ws.length) (h : (Ab.new ws Q).wf) : Alone (Ab.new ws Q) ws.length k [] := by
  refine ⟨h, hk, ?_⟩
  rw [wss_new, set_self (by simp [hk])]
theorem alone_put {a : Ab} {n k : Nat} {l : List ByteArray} (h : Alone a n k l) {q : Q3} (hq : a.qs[k]? = some q) (hl : q.ws = l) {s : ByteArray} (h1 : s.size ≤ 1500) (h2 : l.length < 64) : Alone (a.put k q s) n k (l ++ [s]) :=
  ⟨wf_put h.wf hq h1 (by rw [hl]; exact h2), h.kn, by rw [wss_put, h.ws, hl, List.set_set]⟩
theorem alone_take {a : Ab} {n k : Nat} {s : ByteArray} {l : List ByteArray} (h : Alone a n k (s :: l)) : ∃ m a', takeF m a = some (k, s, a') ∧ Alone a' n k l := by
  have hk := h.kn
  obtain ⟨q, hq, hw⟩ := h.get
  obtain ⟨m, i, s', a', hr⟩ := take_found h.wf ⟨q, List.mem_of_getElem? hq, by rw [hw]; simp⟩
  obtain ⟨r, h1, h2⟩ := takeF_ws m hr
  rw [h.ws, List.getElem?_set] at h1
  by_cases c : k = i
  · subst c
    simp [hk] at h1
    obtain ⟨rfl, rfl⟩ := h1
    exact ⟨m, a', hr, takeF_wf m h.wf hr, hk, by rw [h2, h.ws, List.set_set]⟩
  · simp [c] at h1
    rw [List.getElem?_replicate] at h1
    split at h1 <;> simp at h1
theorem alone_none {a : Ab} {n k : Nat} (h : Alone a n k []) : ∀ q ∈ a.qs, q.ws = [] := by
  intro q hq
  have : q.ws ∈ wss a := List.mem_map_of_mem hq
  rw [h.ws, set_self (by simp [h.kn])] at this
  exact List.eq_of_mem_replicate this
end Go.Proofs.Ytohomijijipfdaa
