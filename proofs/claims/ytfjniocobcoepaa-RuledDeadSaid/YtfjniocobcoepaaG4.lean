/- Facts on the functions and types of this seat that its laws are proved from: contracts under the premises that each theorem names. -/
import Derived.Test.YtfjniocobcoepaaG3
set_option linter.unusedSimpArgs false
set_option linter.unusedVariables false
set_option linter.unnecessarySimpa false
namespace Go.Proofs.Ytfjniocobcoepaa
open Go Go.RowKit PB
set_option linter.unusedVariables false
set_option linter.unusedSimpArgs false

/-! ### What a diagram says -/
def evF (s : DS) (env : Nat → Bool) : Nat → Nat → Bool
  | 0, a => decide (a = 1)
  | f + 1, a => if a < 2 then decide (a = 1) else evF s env f (if env (s.nd a).1 then (s.nd a).2.2 else (s.nd a).2.1)
def ev (s : DS) (a : Nat) (env : Nat → Bool) : Bool := evF s env (s.vars + 1) a

structure Ord (s : DS) : Prop extends Wf0 s where
  c0 : (s.nd 0).1 = s.vars
  c1 : (s.nd 1).1 = s.vars
  ord : ∀ a, 2 ≤ a → a < s.nodes.length → (s.nd a).1 < s.vars ∧ (s.nd a).1 < (s.nd (s.nd a).2.1).1 ∧ (s.nd a).1 < (s.nd (s.nd a).2.2).1

theorem evF_up {s : DS} (h : Ord s) (env : Nat → Bool) : ∀ (f a : Nat), a < s.nodes.length → s.vars ≤ f + (s.nd a).1 → evF s env f a = evF s env (f + 1) a := by
  intro f
  induction f with
  | zero =>
    intro a ha hv
    by_cases c : a < 2
    · simp [evF, c]
    · have := (h.ord a (by omega) ha).1; omega
  | succ f ih =>
    intro a ha hv
    by_cases c : a < 2
    · simp [evF, c]
    · have o := h.ord a (by omega) ha
      have hl := h.lo a ha
      have hh := h.hi a ha
      rw [evF, evF, if_neg c, if_neg c]
      split
      · exact ih _ hh (by omega)
      · exact ih _ hl (by omega)
theorem evF_ev {s : DS} (h : Ord s) (env : Nat → Bool) {f a : Nat} (ha : a < s.nodes.length) (hf : s.vars ≤ f + (s.nd a).1) : evF s env f a = ev s a env := by
  have key : ∀ k, evF s env f a = evF s env (f + k) a := by
    intro k
    induction k with
    | zero => rfl
    | succ k ih => rw [ih, evF_up h env (f + k) a ha (by omega)]; rfl
  have key2 : ∀ k, ev s a env = evF s env (s.vars + 1 + k) a := by
    intro k
    induction k with
    | zero => rfl
    | succ k ih => rw [ih, evF_up h env (s.vars + 1 + k) a ha (by omega)]; rfl
  rw [key (s.vars + 1), key2 f, Nat.add_comm]
theorem ev_0 (s : DS) (env : Nat → Bool) : ev s 0 env = false := by simp [ev, evF]
theorem ev_1 (s : DS) (env : Nat → Bool) : ev s 1 env = true := by simp [ev, evF]
theorem ev_step {s : DS} (h : Ord s) (env : Nat → Bool) {a : Nat} (h2 : 2 ≤ a) (ha : a < s.nodes.length) : ev s a env = if env (s.nd a).1 then ev s (s.nd a).2.2 env else ev s (s.nd a).2.1 env := by
  have o := h.ord a h2 ha
  have hl := h.lo a ha
  have hh := h.hi a ha
  rw [ev, evF, if_neg (by omega)]
  split
  · exact evF_ev h env hh (by omega)
  · exact evF_ev h env hl (by omega)
theorem ev_ext {s s' : DS} (h : Wf0 s) (e : Ext s s') (env : Nat → Bool) {a : Nat} (ha : a < s.nodes.length) : ev s' a env = ev s a env := by
  have key : ∀ (f a : Nat), a < s.nodes.length → evF s' env f a = evF s env f a := by
    intro f
    induction f with
    | zero => intro a ha; rfl
    | succ f ih =>
      intro a ha
      rw [evF, evF, e.nd ha]
      split
      · rfl
      · split
        · exact ih _ (h.hi a ha)
        · exact ih _ (h.lo a ha)
  unfold ev
  rw [e.vars]
  exact key _ a ha
/-- A diagram does not look at variables ahead of its own. -/
theorem ev_indep {s : DS} (h : Ord s) {v : Nat} {x y : Nat → Bool} (hxy : ∀ i, i ≠ v → x i = y i) : ∀ (m a : Nat), a < s.nodes.length → s.vars - (s.nd a).1 ≤ m → v < (s.nd a).1 → ev s a x = ev s a y := by
  intro m
  induction m with
  | zero =>
    intro a ha hm hv
    by_cases c : a < 2
    · have : a = 0 ∨ a = 1 := by omega
      rcases this with rfl | rfl
      · rw [ev_0, ev_0]
      · rw [ev_1, ev_1]
    · have := (h.ord a (by omega) ha).1; omega
  | succ m ih =>
    intro a ha hm hv
    by_cases c : a < 2
    · have : a = 0 ∨ a = 1 := by omega
      rcases this with rfl | rfl
      · rw [ev_0, ev_0]
      · rw [ev_1, ev_1]
    · have o := h.ord a (by omega) ha
      rw [ev_step h x (by omega) ha, ev_step h y (by omega) ha, hxy (s.nd a).1 (by omega), ih _ (h.hi a ha) (by omega) (by omega), ih _ (h.lo a ha) (by omega) (by omega)]
theorem side_var {s : DS} (h : Ord s) {a v : Nat} (ha : a < s.nodes.length) (hv : v ≤ (s.nd a).1) (hvv : v < s.vars) (hi : Bool) : v < (s.nd (sideF s a v hi)).1 := by
  unfold sideF
  split
  · omega
  · rename_i e
    have e : (s.nd a).1 = v := Classical.not_not.1 e
    have h2 : 2 ≤ a := by
      rcases Nat.lt_or_ge a 2 with c | c
      · have : a = 0 ∨ a = 1 := by omega
        rcases this with rfl | rfl
        · have := h.c0; omega
        · have := h.c1; omega
      · exact c
    have o := h.ord a h2 ha
    split <;> omega
theorem side_ev {s : DS} (h : Ord s) {a v : Nat} (ha : a < s.nodes.length) (hv : v ≤ (s.nd a).1) (hvv : v < s.vars) {env : Nat → Bool} {hi : Bool} (he : env v = hi) : ev s (sideF s a v hi) env = ev s a env := by
  unfold sideF
  split
  · rfl
  · rename_i e
    have e : (s.nd a).1 = v := Classical.not_not.1 e
    have h2 : 2 ≤ a := by
      rcases Nat.lt_or_ge a 2 with c | c
      · have : a = 0 ∨ a = 1 := by omega
        rcases this with rfl | rfl
        · have := h.c0; omega
        · have := h.c1; omega
      · exact c
    rw [ev_step h env h2 ha, e, he]
    cases hi <;> rfl

structure Inv (s : DS) : Prop extends Ord s where
  red : ∀ a, 2 ≤ a → a < s.nodes.length → (s.nd a).2.1 ≠ (s.nd a).2.2
  uniq : ∀ t a, lookN s.idx t = some a ↔ (2 ≤ a ∧ a < s.nodes.length ∧ s.nd a = t)
  dn : ∀ a b c r, lookN s.done (a, b, c) = some r → a < s.nodes.length ∧ b < s.nodes.length ∧ c < s.nodes.length ∧ topV s a b c ≤ (s.nd r).1 ∧ ∀ env, ev s r env = if ev s a env then ev s b env else ev s c env

theorem canon {s : DS} (h : Inv s) : ∀ (m a b : Nat), a < s.nodes.length → b < s.nodes.length → s.vars - min (s.nd a).1 (s.nd b).1 ≤ m → (∀ env, ev s a env = ev s b env) → a = b := by
  intro m
  have lowcase : ∀ a b : Nat, a < 2 → b < 2 → (∀ env, ev s a env = ev s b env) → a = b := by
    intro a b ha hb he
    have ha' : a = 0 ∨ a = 1 := by omega
    have hb' : b = 0 ∨ b = 1 := by omega
    have := he (fun _ => false)
    rcases ha' with rfl | rfl <;> rcases hb' with rfl | rfl
    · rfl
    · rw [ev_0, ev_1] at this; cases this
    · rw [ev_0, ev_1] at this; cases this
    · rfl
  induction m with
  | zero =>
    intro a b ha hb hm he
    refine lowcase a b ?_ ?_ he
    · rcases Nat.lt_or_ge a 2 with c | c
      · exact c
      · have := (h.ord a c ha).1; have := h.v b hb; omega
    · rcases Nat.lt_or_ge b 2 with c | c
      · exact c
      · have := (h.ord b c hb).1; have := h.v a ha; omega
  | succ m ih =>
    have main : ∀ a b : Nat, a < s.nodes.length → b < s.nodes.length → s.vars - min (s.nd a).1 (s.nd b).1 ≤ m + 1 → (∀ env, ev s a env = ev s b env) → (s.nd a).1 ≤ (s.nd b).1 → 2 ≤ a → a = b := by
      intro a b ha hb hm he hle h2
      have o := h.ord a h2 ha
      have hv := o.1
      have hva : (s.nd a).1 ≤ (s.nd a).1 := Nat.le_refl _
      have key : ∀ hi, sideF s a (s.nd a).1 hi = sideF s b (s.nd a).1 hi := by
        intro hi
        have sa := side_var h.toOrd ha hva hv hi
        have sb := side_var h.toOrd hb hle hv hi
        refine ih _ _ (sideF_lt h.toWf0 ha hi) (sideF_lt h.toWf0 hb hi) (by omega) fun env => ?_
        let env' : Nat → Bool := fun i => if i = (s.nd a).1 then hi else env i
        have hne : ∀ i, i ≠ (s.nd a).1 → env i = env' i := fun i hi' => by simp only [env']; rw [if_neg hi']
        have hat : env' (s.nd a).1 = hi := by simp [env']
        rw [ev_indep h.toOrd hne _ _ (sideF_lt h.toWf0 ha hi) (Nat.le_refl _) sa, ev_indep h.toOrd hne _ _ (sideF_lt h.toWf0 hb hi) (Nat.le_refl _) sb, side_ev h.toOrd ha hva hv hat, side_ev h.toOrd hb hle hv hat]
        exact he env'
      have kt := key true
      have kf := key false
      have ea1 : sideF s a (s.nd a).1 true = (s.nd a).2.2 := by unfold sideF; rw [if_neg (by simp)]; rfl
      have ea2 : sideF s a (s.nd a).1 false = (s.nd a).2.1 := by unfold sideF; rw [if_neg (by simp)]; rfl
      rw [ea1] at kt
      rw [ea2] at kf
      by_cases c : (s.nd b).1 = (s.nd a).1
      · have h2b : 2 ≤ b := by
          rcases Nat.lt_or_ge b 2 with c' | c'
          · have : b = 0 ∨ b = 1 := by omega
            rcases this with rfl | rfl
            · have := h.c0; omega
            · have := h.c1; omega
          · exact c'
        have eb1 : sideF s b (s.nd a).1 true = (s.nd b).2.2 := by unfold sideF; rw [if_neg (by simp [c])]; rfl
        have eb2 : sideF s b (s.nd a).1 false = (s.nd b).2.1 := by unfold sideF; rw [if_neg (by simp [c])]; rfl
        rw [eb1] at kt
        rw [eb2] at kf
        have hnd : s.nd a = s.nd b := Prod.ext c.symm (Prod.ext kf kt)
        have u1 := (h.uniq (s.nd a) a).2 ⟨h2, ha, rfl⟩
        have u2 := (h.uniq (s.nd a) b).2 ⟨h2b, hb, hnd.symm⟩
        rw [u1] at u2
        exact Option.some.inj u2
      · have eb : ∀ hi, sideF s b (s.nd a).1 hi = b := fun hi => by unfold sideF; rw [if_pos c]
        rw [eb] at kt kf
        exact absurd (kf.trans kt.symm) (h.red a h2 ha)
    intro a b ha hb hm he
    by_cases c : (s.nd a).1 ≤ (s.nd b).1
    · by_cases h2 : 2 ≤ a
      · exact main a b ha hb hm he c h2
      · have : a = 0 ∨ a = 1 := by omega
        have hav : (s.nd a).1 = s.vars := by rcases this with rfl | rfl; exact h.c0; exact h.c1
        refine lowcase a b (by omega) ?_ he
        rcases Nat.lt_or_ge b 2 with c' | c'
        · exact c'
        · have := (h.ord b c' hb).1; omega
    · by_cases h2 : 2 ≤ b
      · exact (main b a hb ha (by omega) (fun env => (he env).symm) (by omega) h2).symm
      · have : b = 0 ∨ b = 1 := by omega
        have hbv : (s.nd b).1 = s.vars := by rcases this with rfl | rfl; exact h.c0; exact h.c1
        have := h.v a ha
        omega
theorem canon' {s : DS} (h : Inv s) {a b : Nat} (ha : a < s.nodes.length) (hb : b < s.nodes.length) (he : ∀ env, ev s a env = ev s b env) : a = b := canon h _ a b ha hb (Nat.le_refl _) he
end Go.Proofs.Ytfjniocobcoepaa
