/- Facts on the functions and types of this seat that its laws are proved from: contracts under the premises that each theorem names. -/
import Derived.Test.YtohomijijipfdaaFtb
set_option linter.unusedSimpArgs false
set_option linter.unusedVariables false
set_option linter.unnecessarySimpa false
namespace Go.Proofs.Ytohomijijipfdaa
open Go Go.RowKit PB
set_option linter.unusedVariables false

/-! ### The queues as plain data -/
structure Q3 where
  w : Int
  d : Int
  ws : List ByteArray
structure Ab where
  qs : List Q3
  Q : Int
  at_ : Nat
  paid : Bool
def QE.abs (q : QE) : Q3 := ⟨q.w, q.d, q.ws⟩
def QI.abs (x : QI) : Ab := ⟨x.qs.map QE.abs, x.quantum, x.at_, x.paid⟩
def Ab.leave (a : Ab) : Ab := { a with at_ := (a.at_ + 1) % a.qs.length, paid := false }
def Ab.pay (a : Ab) (q : Q3) : Int := if a.paid then q.d else q.d + q.w * a.Q
def Ab.up (a : Ab) (q : Q3) (p : Bool) : Ab := { a with qs := a.qs.set a.at_ q, paid := p }

def takeF : Nat → Ab → Option (Nat × ByteArray × Ab)
  | 0, _ => none
  | k + 1, a => match a.qs[a.at_]? with
    | none => none
    | some q => match q.ws with
      | [] => takeF k a.leave
      | s :: r => if a.pay q < s.size then takeF k (a.up ⟨q.w, a.pay q, q.ws⟩ true).leave
        else if r = [] then some (a.at_, s, (a.up ⟨q.w, 0, []⟩ true).leave) else some (a.at_, s, a.up ⟨q.w, a.pay q - s.size, r⟩ true)

section
variable {a : Ab} {q : Q3} {k : Nat} {s : ByteArray} {r : List ByteArray}
theorem takeF_nil (h : a.qs[a.at_]? = some q) (hw : q.ws = []) : takeF (k + 1) a = takeF k a.leave := by simp [takeF, h, hw]
theorem takeF_short (h : a.qs[a.at_]? = some q) (hw : q.ws = s :: r) (hd : a.pay q < s.size) : takeF (k + 1) a = takeF k (a.up ⟨q.w, a.pay q, s :: r⟩ true).leave := by simp [takeF, h, hw, hd]
theorem takeF_last (h : a.qs[a.at_]? = some q) (hw : q.ws = [s]) (hd : ¬ a.pay q < s.size) : takeF (k + 1) a = some (a.at_, s, (a.up ⟨q.w, 0, []⟩ true).leave) := by simp [takeF, h, hw, hd]
theorem takeF_more (h : a.qs[a.at_]? = some q) (hw : q.ws = s :: r) (hr : r ≠ []) (hd : ¬ a.pay q < s.size) : takeF (k + 1) a = some (a.at_, s, a.up ⟨q.w, a.pay q - s.size, r⟩ true) := by simp [takeF, h, hw, hd, hr]
end

structure Q3.wf (q : Q3) (Q : Int) (p : Bool) : Prop where
  w1 : 1 ≤ q.w
  w2 : q.w ≤ 100
  d0 : 0 ≤ q.d
  d1 : q.d ≤ 1500 + (if p then q.w * Q else 0)
  ws : q.ws.length ≤ 64
  s_ : ∀ s ∈ q.ws, s.size ≤ 1500
  p_ : p = true → q.ws ≠ []

structure Ab.wf (a : Ab) : Prop where
  at_ : a.at_ < a.qs.length
  n : a.qs.length ≤ 8
  q1 : 1 ≤ a.Q
  q2 : a.Q ≤ 1500
  qs : ∀ (j : Nat) (q : Q3), a.qs[j]? = some q → q.wf a.Q (a.paid && j == a.at_)

theorem Q3.wf.free {q : Q3} {Q : Int} {p : Bool} (h : q.wf Q p) (hp : p = false ∨ q.ws = []) : q.wf Q false := by
  rcases hp with hp | hp
  · rw [← hp]; exact h
  · have : p = false := by
      cases p with
      | false => rfl
      | true => exact absurd hp (h.p_ rfl)
    rw [← this]; exact h

theorem wQ_bd {q : Q3} {Q : Int} {p : Bool} (h : q.wf Q p) (h1 : 1 ≤ Q) (h2 : Q ≤ 1500) : 1 ≤ q.w * Q ∧ q.w * Q ≤ 150000 := by
  have a1 := h.w1
  have a2 := h.w2
  constructor
  · have := Int.mul_le_mul a1 h1 (by omega) (by omega)
    omega
  · have := Int.mul_le_mul a2 h2 (by omega) (by omega)
    omega

theorem pay_bd {a : Ab} (h : a.wf) {q : Q3} (hq : a.qs[a.at_]? = some q) : 0 ≤ a.pay q ∧ a.pay q ≤ 1500 + q.w * a.Q ∧ q.w * a.Q ≤ 150000 ∧ q.d ≤ 151500 := by
  have w := h.qs _ _ hq
  have b := wQ_bd w h.q1 h.q2
  have d0 := w.d0
  have d1 := w.d1
  unfold Ab.pay
  cases hp : a.paid <;> simp [hp] at d1 ⊢ <;> omega

/-- A visit ends: all queues hold what they may hold. -/
theorem wf_leave {a : Ab} (at_ : a.at_ < a.qs.length) (n : a.qs.length ≤ 8) (q1 : 1 ≤ a.Q) (q2 : a.Q ≤ 1500) (qs : ∀ (j : Nat) (q : Q3), a.qs[j]? = some q → q.wf a.Q false) : a.leave.wf :=
  ⟨Nat.mod_lt _ (by omega), n, q1, q2, fun j q h => by simpa [Ab.leave] using qs j q h⟩

theorem wf_nil {a : Ab} (h : a.wf) {q : Q3} (hq : a.qs[a.at_]? = some q) (hw : q.ws = []) : a.leave.wf := by
  refine wf_leave h.at_ h.n h.q1 h.q2 fun j q' hj => ?_
  by_cases c : j = a.at_
  · subst c
    rw [hq] at hj
    cases hj
    exact (h.qs _ _ hq).free (.inr hw)
  · exact (h.qs _ _ hj).free (.inl (by simp [c]))

theorem up_get {a : Ab} {q q' : Q3} {p : Bool} {j : Nat} (at_ : a.at_ < a.qs.length) (h : (a.up q p).qs[j]? = some q') : (j = a.at_ ∧ q' = q) ∨ (j ≠ a.at_ ∧ a.qs[j]? = some q') := by
  simp only [Ab.up, List.getElem?_set] at h
  by_cases c : a.at_ = j
  · subst c
    simp [at_] at h
    exact .inl ⟨rfl, h.symm⟩
  · simp [c] at h
    exact .inr ⟨fun e => c e.symm, h⟩

theorem wf_up {a : Ab} (h : a.wf) {q : Q3} {p : Bool} (hw : q.wf a.Q p) : (a.up q p).wf := by
  refine ⟨by simpa [Ab.up] using h.at_, by simpa [Ab.up] using h.n, h.q1, h.q2, fun j q' hj => ?_⟩
  rcases up_get h.at_ hj with ⟨rfl, rfl⟩ | ⟨hne, hj⟩
  · simpa [Ab.up] using hw
  · have := (h.qs _ _ hj).free (.inl (by simp [hne]))
    have e : (p && j == a.at_) = false := by simp [hne]
    show q'.wf a.Q (p && j == a.at_)
    rw [e]; exact this

theorem wf_upl {a : Ab} (h : a.wf) {q : Q3} {p : Bool} (hw : q.wf a.Q false) : (a.up q p).leave.wf := by
  refine wf_leave (by simpa [Ab.up] using h.at_) (by simpa [Ab.up] using h.n) h.q1 h.q2 fun j q' hj => ?_
  rcases up_get h.at_ hj with ⟨rfl, rfl⟩ | ⟨hne, hj⟩
  · exact hw
  · exact (h.qs _ _ hj).free (.inl (by simp [hne]))

theorem wf_short {a : Ab} (h : a.wf) {q : Q3} {s : ByteArray} {r : List ByteArray} (hq : a.qs[a.at_]? = some q) (hw : q.ws = s :: r) (hd : a.pay q < s.size) : (a.up ⟨q.w, a.pay q, s :: r⟩ true).leave.wf := by
  have w := h.qs _ _ hq
  have b := pay_bd h hq
  have hs := w.s_ s (by rw [hw]; simp)
  exact wf_upl h ⟨w.w1, w.w2, b.1, by simp; omega, by rw [← hw]; exact w.ws, by rw [← hw]; exact w.s_, fun h => by cases h⟩

theorem wf_last {a : Ab} (h : a.wf) {q : Q3} (hq : a.qs[a.at_]? = some q) : (a.up ⟨q.w, 0, []⟩ true).leave.wf := by
  have w := h.qs _ _ hq
  exact wf_upl h ⟨w.w1, w.w2, Int.le_refl _, by simp, by simp, by simp, fun h => by cases h⟩

theorem wf_more {a : Ab} (h : a.wf) {q : Q3} {s : ByteArray} {r : List ByteArray} (hq : a.qs[a.at_]? = some q) (hw : q.ws = s :: r) (hr : r ≠ []) (hd : ¬ a.pay q < s.size) : (a.up ⟨q.w, a.pay q - s.size, r⟩ true).wf := by
  have w := h.qs _ _ hq
  have b := pay_bd h hq
  have hl := w.ws
  rw [hw] at hl
  simp only [List.length_cons] at hl
  exact wf_up h ⟨w.w1, w.w2, by show 0 ≤ a.pay q - _; omega, by simp only [if_true]; omega, by show r.length ≤ 64; omega, fun s' h' => w.s_ s' (by rw [hw]; exact List.mem_cons_of_mem _ h'), fun _ => hr⟩

/-- What Take leaves is well formed. -/
theorem takeF_wf : ∀ (k : Nat) {a : Ab} {i : Nat} {s : ByteArray} {a' : Ab}, a.wf → takeF k a = some (i, s, a') → a'.wf
  | 0, _, _, _, _, _, h => by cases h
  | k + 1, a, i, s, a', hwf, h => by
    have hlt := hwf.at_
    have hq : a.qs[a.at_]? = some a.qs[a.at_] := List.getElem?_eq_getElem hlt
    generalize a.qs[a.at_] = q at hq
    cases hw : q.ws with
    | nil => rw [takeF_nil hq hw] at h; exact takeF_wf k (wf_nil hwf hq hw) h
    | cons s0 r =>
      by_cases hd : a.pay q < s0.size
      · rw [takeF_short hq hw hd] at h; exact takeF_wf k (wf_short hwf hq hw hd) h
      · by_cases hr : r = []
        · subst hr; rw [takeF_last hq hw hd] at h; cases h; exact wf_last hwf hq
        · rw [takeF_more hq hw hr hd] at h; cases h; exact wf_more hwf hq hw hr hd

theorem takeF_ne : ∀ (k : Nat) {a : Ab} {t : Nat × ByteArray × Ab}, takeF k a = some t → ∃ q ∈ a.qs, q.ws ≠ []
  | 0, _, _, h => by cases h
  | k + 1, a, t, h => by
    cases hq : a.qs[a.at_]? with
    | none => simp [takeF, hq] at h
    | some q =>
      cases hw : q.ws with
      | nil => rw [takeF_nil hq hw] at h; obtain ⟨q', h', hn⟩ := takeF_ne k h; exact ⟨q', h', hn⟩
      | cons s0 r => exact ⟨q, List.mem_of_getElem? hq, by simp [hw]⟩

/-! ### Take ends -/
def need (q : Q3) : Nat := match q.ws with
  | [] => 0
  | s :: _ => ((s.size : Int) - q.d).toNat
def needs (a : Ab) : Nat := (a.qs.map need).sum

theorem sum_set : ∀ (l : List Nat) (i v x : Nat), l[i]? = some x → (l.set i v).sum + x = l.sum + v
  | [], i, v, x, h => by simp at h
  | y :: l, 0, v, x, h => by simp at h; subst h; simp; omega
  | y :: l, i + 1, v, x, h => by simp at h; simp; have := sum_set l i v x h; omega

theorem needs_up {a : Ab} {q q' : Q3} {p : Bool} (hq : a.qs[a.at_]? = some q) : needs (a.up q' p) + need q = needs a + need q' := by
  unfold needs Ab.up
  rw [List.map_set]
  exact sum_set _ _ _ _ (by simp [hq])

theorem needs_leave (a : Ab) : needs a.leave = needs a := rfl

theorem take_here (m : Nat) (ihm : ∀ m' < m, ∀ (t : Nat) (a : Ab), a.wf → needs a + a.paid.toNat ≤ m' → (∃ q, a.qs[(a.at_ + t) % a.qs.length]? = some q ∧ q.ws ≠ []) → ∃ k r, takeF k a = some r) (a : Ab) (hwf : a.wf) (hm : needs a + a.paid.toNat ≤ m)
    {q : Q3} (hq : a.qs[a.at_]? = some q) (hn : q.ws ≠ []) : ∃ k r, takeF k a = some r := by
    have hlt := hwf.at_
    cases hw : q.ws with
    | nil => exact absurd hw hn
    | cons s r =>
      by_cases hd : a.pay q < s.size
      · have hn' := needs_up (q' := ⟨q.w, a.pay q, s :: r⟩) (p := true) hq
        have hb := wQ_bd (hwf.qs _ _ hq) hwf.q1 hwf.q2
        have hlt2 : needs (a.up ⟨q.w, a.pay q, s :: r⟩ true) < m := by
          simp only [need, hw] at hn'
          unfold Ab.pay at hd hn' ⊢
          cases hp : a.paid <;> simp [hp] at hd hn' hm ⊢ <;> omega
        obtain ⟨k, r', hk⟩ := ihm _ hlt2 (a.qs.length - 1) (a.up ⟨q.w, a.pay q, s :: r⟩ true).leave (wf_short hwf hq hw hd) (by rw [needs_leave]; simp [Ab.leave])
          ⟨⟨q.w, a.pay q, s :: r⟩, by
            simp only [Ab.leave, Ab.up, List.length_set]
            rw [Nat.mod_add_mod, show a.at_ + 1 + (a.qs.length - 1) = a.at_ + a.qs.length by omega, Nat.add_mod_right, Nat.mod_eq_of_lt hlt]
            simp [hlt], by simp⟩
        exact ⟨k + 1, r', by rw [takeF_short hq hw hd]; exact hk⟩
      · by_cases hr : r = []
        · subst hr; exact ⟨1, _, takeF_last hq hw hd⟩
        · exact ⟨1, _, takeF_more hq hw hr hd⟩

theorem take_ends (m : Nat) : ∀ (t : Nat) (a : Ab), a.wf → needs a + a.paid.toNat ≤ m → (∃ q, a.qs[(a.at_ + t) % a.qs.length]? = some q ∧ q.ws ≠ []) → ∃ k r, takeF k a = some r := by
  induction m using Nat.strongRecOn with
  | ind m ihm =>
  intro t
  induction t with
  | zero =>
    intro a hwf hm hne
    obtain ⟨q, hq, hn⟩ := hne
    have hlt := hwf.at_
    rw [Nat.add_zero, Nat.mod_eq_of_lt hlt] at hq
    exact take_here m ihm a hwf hm hq hn
  | succ t iht =>
    intro a hwf hm hne
    have hlt := hwf.at_
    by_cases hz : ∃ q, a.qs[a.at_]? = some q ∧ q.ws ≠ []
    · obtain ⟨q, hq, hn⟩ := hz
      exact take_here m ihm a hwf hm hq hn
    · obtain ⟨k, r', hk⟩ := iht a.leave (by
        refine wf_nil (q := a.qs[a.at_]) hwf (List.getElem?_eq_getElem hlt) (Classical.byContradiction fun h => hz ⟨_, List.getElem?_eq_getElem hlt, h⟩)) (by rw [needs_leave]; simp [Ab.leave]; omega) (by
        simp only [Ab.leave]
        rw [Nat.mod_add_mod, show a.at_ + 1 + t = a.at_ + (t + 1) by omega]
        exact hne)
      exact ⟨k + 1, r', by rw [takeF_nil (q := a.qs[a.at_]) (List.getElem?_eq_getElem hlt) (Classical.byContradiction fun h => hz ⟨_, List.getElem?_eq_getElem hlt, h⟩)]; exact hk⟩

/-- As long as a queue has a string, Take finds one. -/
theorem take_found {a : Ab} (hwf : a.wf) (h : ∃ q ∈ a.qs, q.ws ≠ []) : ∃ k i s a', takeF k a = some (i, s, a') := by
  obtain ⟨q, hq, hn⟩ := h
  obtain ⟨j, hj⟩ := List.getElem?_of_mem hq
  have hjl : j < a.qs.length := by
    rcases Nat.lt_or_ge j a.qs.length with h | h
    · exact h
    · rw [List.getElem?_eq_none h] at hj; cases hj
  have hlt := hwf.at_
  obtain ⟨k, ⟨i, s, a'⟩, hk⟩ := take_ends _ (j + a.qs.length - a.at_) a hwf (Nat.le_refl _) ⟨q, by
    rw [show a.at_ + (j + a.qs.length - a.at_) = j + a.qs.length by omega, Nat.add_mod_right, Nat.mod_eq_of_lt hjl]; exact hj, hn⟩
  exact ⟨k, i, s, a', hk⟩
end Go.Proofs.Ytohomijijipfdaa
