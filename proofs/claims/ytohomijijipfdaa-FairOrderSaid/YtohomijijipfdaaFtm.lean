/- Facts on the functions and types of this seat that its laws are proved from: contracts under the premises that each theorem names. -/
import Derived.Test.YtohomijijipfdaaFtl
set_option linter.unusedSimpArgs false
set_option linter.unusedVariables false
set_option linter.unnecessarySimpa false
namespace Go.Proofs.Ytohomijijipfdaa
open Go Go.RowKit PB
set_option linter.unusedVariables false

/-! ### The shares -/
def vis (a : Ab) (j : Nat) : Int := if j < a.at_ ∨ (j = a.at_ ∧ a.paid = true) then 1 else 0
def cur (a : Ab) (j : Nat) : Bool := a.paid && j == a.at_

structure ShAt (a : Ab) (V : Int) (j : Nat) (q : Q3) (x : Int) : Prop where
  eq : x = (V + vis a j) * (q.w * a.Q) - q.d
  d0 : 0 ≤ q.d
  d1 : q.d ≤ 100 + (if cur a j then q.w * a.Q else 0)
  s_ : ∀ s ∈ q.ws, s.size ≤ 100
  x0 : 0 ≤ x
  x1 : x + 100 * q.ws.length ≤ 5000
  ne : q.ws ≠ []

structure Sh (a : Ab) (V : Int) (sv : List Int) : Prop where
  len : sv.length = a.qs.length
  at_ : ∀ (j : Nat) (q : Q3) (x : Int), a.qs[j]? = some q → sv[j]? = some x → ShAt a V j q x

/-- What the law asks of the served bytes. -/
structure Share (ws : List Int) (Q : Int) (sv : List Int) : Prop where
  len : sv.length = ws.length
  at_ : ∃ V : Int, ∀ (j : Nat) (w x : Int), ws[j]? = some w → sv[j]? = some x → ∃ c d : Int, 0 ≤ c ∧ c ≤ 1 ∧ x = (V + c) * (w * Q) - d ∧ 0 ≤ d ∧ d ≤ 100 + w * Q ∧ 0 ≤ x ∧ x ≤ 5000

theorem vis_bd (a : Ab) (j : Nat) : 0 ≤ vis a j ∧ vis a j ≤ 1 := by unfold vis; split <;> omega

def wsOf (a : Ab) : List Int := a.qs.map Q3.w
theorem wsOf_up {a : Ab} {q q' : Q3} {p : Bool} (hq : a.qs[a.at_]? = some q) (h : q'.w = q.w) : wsOf (a.up q' p) = wsOf a := by
  simp only [wsOf, Ab.up, List.map_set]
  exact set_self (by simp [hq, h])
theorem wsOf_leave (a : Ab) : wsOf a.leave = wsOf a := rfl
theorem wsOf_put {a : Ab} {q : Q3} {i : Nat} {s : ByteArray} (hq : a.qs[i]? = some q) : wsOf (a.put i q s) = wsOf a := by
  simp only [wsOf, Ab.put, List.map_set]
  exact set_self (by simp [hq])

theorem some_of_len {α β : Type} {l : List α} {m : List β} {j : Nat} {x : α} (h : m.length = l.length) (hx : l[j]? = some x) : ∃ y, m[j]? = some y := by
  obtain ⟨hl, _⟩ := List.getElem?_eq_some_iff.1 hx
  exact ⟨m[j], List.getElem?_eq_getElem (by omega)⟩

/-- The current queue is paid. -/
theorem sh_pay {a : Ab} {V : Int} {sv : List Int} (h : Sh a V sv) (hwf : a.wf) {q : Q3} (hq : a.qs[a.at_]? = some q) : Sh (a.up ⟨q.w, a.pay q, q.ws⟩ true) V sv := by
  refine ⟨by rw [h.len]; simp [Ab.up], fun j q' x hj hx => ?_⟩
  have hb := wQ_bd (hwf.qs _ _ hq) hwf.q1 hwf.q2
  rcases up_get hwf.at_ hj with ⟨rfl, rfl⟩ | ⟨hne, hj⟩
  · have H := h.at_ _ _ _ hq hx
    have e := H.eq
    have d0 := H.d0
    have d1 := H.d1
    refine ⟨?_, ?_, ?_, H.s_, H.x0, H.x1, H.ne⟩ <;> simp only [vis, cur, Ab.up, Ab.pay] at * <;> cases hp : a.paid <;> simp [hp] at * <;> first | grind | omega
  · have H := h.at_ _ _ _ hj hx
    have e := H.eq
    have d0 := H.d0
    have d1 := H.d1
    refine ⟨?_, ?_, ?_, H.s_, H.x0, H.x1, H.ne⟩ <;> simp only [vis, cur, Ab.up] at * <;> simp [hne] at * <;> first | grind | omega

/-- The visit of a paid queue ends. -/
theorem sh_leave {a : Ab} {V : Int} {sv : List Int} (h : Sh a V sv) (hat : a.at_ < a.qs.length) (hp : a.paid = true) {q : Q3} (hq : a.qs[a.at_]? = some q) (hd : q.d ≤ 100) : ∃ V', Sh a.leave V' sv := by
  by_cases c : a.at_ + 1 < a.qs.length
  · refine ⟨V, by rw [h.len]; rfl, fun j q' x hj hx => ?_⟩
    have H := h.at_ _ _ _ hj hx
    have e := H.eq
    have d1 := H.d1
    have hm : (a.at_ + 1) % a.qs.length = a.at_ + 1 := Nat.mod_eq_of_lt c
    refine ⟨?_, H.d0, ?_, H.s_, H.x0, H.x1, H.ne⟩
    · rw [e]
      have : vis a j = vis a.leave j := by
        simp only [vis, Ab.leave, hm, hp]
        by_cases h1 : j < a.at_ + 1
        · rw [if_pos (by rcases Nat.lt_or_ge j a.at_ with h | h; exact .inl h; exact .inr ⟨by omega, by simp⟩), if_pos (.inl h1)]
        · rw [if_neg (by rintro (h | ⟨h, _⟩) <;> omega), if_neg (by rintro (h | ⟨_, h⟩) <;> first | omega | cases h)]
      rw [this]; rfl
    · by_cases hj2 : j = a.at_
      · subst hj2
        have hj' : a.qs[a.at_]? = some q' := hj
        rw [hq] at hj'; cases hj'
        simp [cur, Ab.leave]; exact hd
      · simp [cur, Ab.leave, hj2] at d1 ⊢; exact d1
  · refine ⟨V + 1, by rw [h.len]; rfl, fun j q' x hj hx => ?_⟩
    have H := h.at_ _ _ _ hj hx
    have e := H.eq
    have d1 := H.d1
    have hjl : j < a.qs.length := (List.getElem?_eq_some_iff.1 (show a.qs[j]? = some q' from hj)).1
    have hm : (a.at_ + 1) % a.qs.length = 0 := by rw [show a.at_ + 1 = a.qs.length by omega]; exact Nat.mod_self _
    refine ⟨?_, H.d0, ?_, H.s_, H.x0, H.x1, H.ne⟩
    · rw [e]
      have h1 : vis a j = 1 := by
        simp only [vis, hp]
        rw [if_pos (by rcases Nat.lt_or_ge j a.at_ with h | h; exact .inl h; exact .inr ⟨by omega, by simp⟩)]
      have h2 : vis a.leave j = 0 := by
        simp only [vis, Ab.leave, hm]
        rw [if_neg (by simp)]
      rw [h1, h2, Int.add_zero]; rfl
    · by_cases hj2 : j = a.at_
      · subst hj2
        have hj' : a.qs[a.at_]? = some q' := hj
        rw [hq] at hj'; cases hj'
        simp [cur, Ab.leave]; exact hd
      · simp [cur, Ab.leave, hj2] at d1 ⊢; exact d1

theorem sh_finAt {a : Ab} {V : Int} {sv : List Int} (h : Sh a V sv) (hwf : a.wf) {j : Nat} {w x : Int} (hj : (wsOf a)[j]? = some w) (hx : sv[j]? = some x) : ∃ c d : Int, 0 ≤ c ∧ c ≤ 1 ∧ x = (V + c) * (w * a.Q) - d ∧ 0 ≤ d ∧ d ≤ 100 + w * a.Q ∧ 0 ≤ x ∧ x ≤ 5000 := by
  simp only [wsOf, List.getElem?_map, Option.map_eq_some_iff] at hj
  obtain ⟨q, hq, rfl⟩ := hj
  have H := h.at_ _ _ _ hq hx
  have hb := wQ_bd (hwf.qs _ _ hq) hwf.q1 hwf.q2
  have := vis_bd a j
  have d1 := H.d1
  have x1 := H.x1
  exact ⟨vis a j, q.d, this.1, this.2, H.eq, H.d0, by split at d1 <;> omega, H.x0, by omega⟩

/-- A Take while all queues have strings. -/
theorem sh_take : ∀ (k : Nat) {a : Ab} {i : Nat} {s : ByteArray} {a' : Ab} {V : Int} {sv : List Int}, a.wf → Sh a V sv → takeF k a = some (i, s, a') →
    ∃ x, sv[i]? = some x ∧ s.size ≤ 100 ∧ 0 ≤ x ∧ x ≤ 5000 ∧ wsOf a' = wsOf a ∧ a'.Q = a.Q ∧ ((∃ q, a'.qs[i]? = some q ∧ q.ws = [] ∧ Share (wsOf a) a.Q (sv.set i (x + s.size))) ∨ (∃ q, a'.qs[i]? = some q ∧ q.ws ≠ [] ∧ ∃ V', Sh a' V' (sv.set i (x + s.size))))
  | 0, _, _, _, _, _, _, _, _, h => by cases h
  | k + 1, a, i, s, a', V, sv, hwf, hsh, h => by
    have hlt := hwf.at_
    have hq : a.qs[a.at_]? = some a.qs[a.at_] := List.getElem?_eq_getElem hlt
    generalize a.qs[a.at_] = q at hq
    obtain ⟨x, hx⟩ := some_of_len hsh.len hq
    have hpay := sh_pay hsh hwf hq
    have hne := (hsh.at_ _ _ _ hq hx).ne
    have hql := hwf.qs _ _ hq
    have hpb := pay_bd hwf hq
    have hb := wQ_bd hql hwf.q1 hwf.q2
    have hup : (a.up ⟨q.w, a.pay q, q.ws⟩ true).qs[a.at_]? = some ⟨q.w, a.pay q, q.ws⟩ := by simp [Ab.up, hlt]
    have H := hpay.at_ _ _ _ hup hx
    cases hw : q.ws with
    | nil => exact absurd hw hne
    | cons s0 r =>
      have hs0 : s0.size ≤ 100 := H.s_ s0 (by rw [hw]; simp)
      have hx1 := H.x1
      have hlen : q.ws.length = r.length + 1 := by rw [hw]; rfl
      have hx1' : x + 100 * (q.ws.length : Int) ≤ 5000 := hx1
      by_cases hd : a.pay q < s0.size
      · rw [takeF_short hq hw hd] at h
        obtain ⟨V', hl⟩ := sh_leave hpay (by simpa [Ab.up] using hlt) rfl hup (by show a.pay q ≤ 100; omega)
        rw [hw] at hl
        obtain ⟨y, h1, h2, h3, h4, h5, h6, h7⟩ := sh_take k (wf_short hwf hq hw hd) hl h
        have hws : wsOf (a.up ⟨q.w, a.pay q, s0 :: r⟩ true).leave = wsOf a := by rw [wsOf_leave]; exact wsOf_up hq rfl
        rw [hws] at h5 h7
        exact ⟨y, h1, h2, h3, h4, h5, h6, h7⟩
      · by_cases hr : r = []
        · subst hr
          rw [takeF_last hq hw hd] at h
          cases h
          refine ⟨x, hx, hs0, H.x0, by omega, by rw [wsOf_leave]; exact wsOf_up hq rfl, rfl, .inl ⟨⟨q.w, 0, []⟩, by simp [Ab.leave, Ab.up, hlt], rfl, ?_⟩⟩
          refine ⟨by rw [List.length_set, hsh.len]; simp [wsOf], V, fun j w y hj hy => ?_⟩
          rw [List.getElem?_set] at hy
          by_cases c : a.at_ = j
          · subst c
            have hw' : w = q.w := by simp [wsOf, hq] at hj; exact hj.symm
            subst hw'
            have hl : a.at_ < sv.length := by rw [hsh.len]; exact hlt
            simp [hl] at hy
            subst hy
            have e := H.eq
            have d1 := H.d1
            have hv : vis (a.up ⟨q.w, a.pay q, q.ws⟩ true) a.at_ = 1 := by simp [vis, Ab.up]
            rw [hv] at e
            have e' : x = (V + 1) * (q.w * a.Q) - a.pay q := e
            have d1' : a.pay q ≤ 100 + q.w * a.Q := by simpa [cur, Ab.up] using d1
            have x0 := H.x0
            exact ⟨1, a.pay q - s.size, by omega, by omega, by rw [e']; omega, by omega, by omega, by omega, by omega⟩
          · rw [if_neg c] at hy
            exact sh_finAt hsh hwf hj hy
        · rw [takeF_more hq hw hr hd] at h
          cases h
          refine ⟨x, hx, hs0, H.x0, by omega, wsOf_up hq rfl, rfl, .inr ⟨_, by simp [Ab.up, hlt]; rfl, hr, V, ?_, ?_⟩⟩
          · rw [List.length_set, hsh.len]; simp [Ab.up]
          · intro j q' y hj hy
            rw [List.getElem?_set] at hy
            rcases up_get hlt hj with ⟨rfl, rfl⟩ | ⟨hne2, hj2⟩
            · have hl : a.at_ < sv.length := by rw [hsh.len]; exact hlt
              simp [hl] at hy
              subst hy
              have e := H.eq
              have d1 := H.d1
              have hv : ∀ q2, vis (a.up q2 true) a.at_ = 1 := fun q2 => by simp [vis, Ab.up]
              rw [hv] at e
              have e' : x = (V + 1) * (q.w * a.Q) - a.pay q := e
              have d1' : a.pay q ≤ 100 + q.w * a.Q := by simpa [cur, Ab.up] using d1
              have x0 := H.x0
              refine ⟨?_, by show 0 ≤ a.pay q - _; omega, by simp [cur, Ab.up]; omega, fun s' h' => H.s_ s' (by rw [hw]; exact List.mem_cons_of_mem _ h'), by omega, by show x + s.size + 100 * (r.length : Int) ≤ 5000; omega, hr⟩
              rw [hv]
              show x + s.size = (V + 1) * (q.w * a.Q) - (a.pay q - s.size)
              omega
            · rw [if_neg (fun e => hne2 e.symm)] at hy
              have hj3 : (a.up ⟨q.w, a.pay q, q.ws⟩ true).qs[j]? = some q' := by
                simp only [Ab.up, List.getElem?_set]
                rw [if_neg (fun e => hne2 e.symm)]; exact hj2
              have H := hpay.at_ _ _ _ hj3 hy
              exact ⟨H.eq, H.d0, H.d1, H.s_, H.x0, H.x1, H.ne⟩
end Go.Proofs.Ytohomijijipfdaa
