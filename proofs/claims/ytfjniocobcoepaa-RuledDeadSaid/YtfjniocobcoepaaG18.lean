/- Facts on the functions and types of this seat that its laws are proved from: contracts under the premises that each theorem names. -/
import Derived.Test.YtfjniocobcoepaaG13
set_option linter.unusedSimpArgs false
set_option linter.unusedVariables false
set_option linter.unnecessarySimpa false
namespace Go.Proofs.Ytfjniocobcoepaa
open Go Go.RowKit PB
set_option linter.unusedVariables false
set_option linter.unusedSimpArgs false

/-! ### What the new nodes of choose stand for -/
def mix (u : Nat → Bool) (v : Nat) (e : Nat → Bool) : Nat → Bool := fun i => if i < v then u i else e i
theorem mix_lt {u e : Nat → Bool} {v i : Nat} (h : i < v) : mix u v e i = u i := if_pos h
theorem mix_ge {u e : Nat → Bool} {v i : Nat} (h : v ≤ i) : mix u v e i = e i := if_neg (by omega)
/-- A diagram looks at its own variable and those behind it. -/
theorem ev_from {s : DS} (h : Ord s) {x y : Nat → Bool} : ∀ (m a : Nat), a < s.nodes.length → s.vars - (s.nd a).1 ≤ m → (∀ i, (s.nd a).1 ≤ i → x i = y i) → ev s a x = ev s a y := by
  intro m
  induction m with
  | zero =>
    intro a ha hm hxy
    by_cases c : a < 2
    · have : a = 0 ∨ a = 1 := by omega
      rcases this with rfl | rfl
      · rw [ev_0, ev_0]
      · rw [ev_1, ev_1]
    · have := (h.ord a (by omega) ha).1; omega
  | succ m ih =>
    intro a ha hm hxy
    by_cases c : a < 2
    · have : a = 0 ∨ a = 1 := by omega
      rcases this with rfl | rfl
      · rw [ev_0, ev_0]
      · rw [ev_1, ev_1]
    · have o := h.ord a (by omega) ha
      rw [ev_step h x (by omega) ha, ev_step h y (by omega) ha, hxy (s.nd a).1 (Nat.le_refl _), ih _ (h.hi a ha) (by omega) (fun i hi => hxy i (by omega)), ih _ (h.lo a ha) (by omega) (fun i hi => hxy i (by omega))]
theorem ev_mix {s : DS} (h : Ord s) {a v : Nat} (ha : a < s.nodes.length) (hv : v ≤ (s.nd a).1) (u e : Nat → Bool) : ev s a (mix u v e) = ev s a e :=
  ev_from h _ a ha (Nat.le_refl _) fun i hi => mix_ge (by omega)
def setb (u : Nat → Bool) (v : Nat) (b : Bool) : Nat → Bool := fun i => if i = v then b else u i
theorem side_mix {s : DS} (h : Ord s) {a v w : Nat} (ha : a < s.nodes.length) (hv : v ≤ (s.nd a).1) (hvv : v < s.vars) (hvw : v < w) (b : Bool) (u e : Nat → Bool) : ev s (sideF s a v b) (mix u w e) = ev s a (mix (setb u v b) w e) := by
  have hl := sideF_lt h.toWf0 ha (v := v) b
  have hvar := side_var h ha hv hvv b
  rw [ev_indep h (v := v) (x := mix u w e) (y := mix (setb u v b) w e) (fun i hi => by
    unfold mix setb
    by_cases c : i < w
    · rw [if_pos c, if_pos c, if_neg hi]
    · rw [if_neg c, if_neg c]) _ _ hl (Nat.le_refl _) hvar]
  exact side_ev h ha hv hvv (by rw [mix_lt hvw]; simp [setb])

theorem nodeF_new (s : DS) (t : N3) : (nodeF s t).1.nodes = s.nodes ∨ ((nodeF s t).1.nodes = s.nodes ++ [t] ∧ (nodeF s t).2 = s.nodes.length) := by
  unfold nodeF
  split
  · exact .inl rfl
  · split
    · exact .inl rfl
    · exact .inr ⟨rfl, rfl⟩

/-- R with the first variables given. -/
abbrev iteF (s : DS) (a b c : Nat) (e : Nat → Bool) : Bool := if ev s a e then ev s b e else ev s c e
theorem choose_new : ∀ (f : Nat) {s : DS} {a b c : Nat}, Inv s → a < s.nodes.length → b < s.nodes.length → c < s.nodes.length → s.vars - topV s a b c < f →
    ∃ s' r, chooseF f s a b c = some (s', r) ∧ ∀ n, s.nodes.length ≤ n → n < s'.nodes.length → topV s a b c ≤ (s'.nd n).1 ∧ ∃ u, ∀ e, ev s' n e = iteF s a b c (mix u (s'.nd n).1 e) := by
  intro f
  induction f with
  | zero => intro s a b c _ _ _ _ hf; omega
  | succ f ih =>
    intro s a b c h ha hb hc hf
    have htl : topV s a b c ≤ (s.nd a).1 ∧ topV s a b c ≤ (s.nd b).1 ∧ topV s a b c ≤ (s.nd c).1 := by unfold topV; omega
    simp only [chooseF]
    by_cases c1 : a = 1 ∨ b = c
    · rw [if_pos c1]; exact ⟨s, b, rfl, fun n h1 h2 => absurd h2 (by omega)⟩
    rw [if_neg c1]
    by_cases c2 : a = 0
    · rw [if_pos c2]; exact ⟨s, c, rfl, fun n h1 h2 => absurd h2 (by omega)⟩
    rw [if_neg c2]
    by_cases c3 : b = 1 ∧ c = 0
    · rw [if_pos c3]; exact ⟨s, a, rfl, fun n h1 h2 => absurd h2 (by omega)⟩
    rw [if_neg c3]
    cases hd : lookN s.done (a, b, c) with
    | some r => exact ⟨s, r, rfl, fun n h1 h2 => absurd h2 (by omega)⟩
    | none =>
      have a2 : 2 ≤ a := by
        rcases Nat.lt_or_ge a 2 with q | q
        · exfalso; have : a = 0 ∨ a = 1 := by omega
          rcases this with e | e
          · exact c2 e
          · exact c1 (.inl e)
        · exact q
      have hva := (h.ord a a2 ha).1
      have hvv : topV s a b c < s.vars := by omega
      simp only
      generalize hv : topV s a b c = v at *
      have la := sideF_lt h.toWf0 ha (v := v) false
      have lb := sideF_lt h.toWf0 hb (v := v) false
      have lc := sideF_lt h.toWf0 hc (v := v) false
      have va := side_var h.toOrd ha htl.1 hvv false
      have vb := side_var h.toOrd hb htl.2.1 hvv false
      have vc := side_var h.toOrd hc htl.2.2 hvv false
      have t1 : v + 1 ≤ topV s (sideF s a v false) (sideF s b v false) (sideF s c v false) := by unfold topV; omega
      obtain ⟨s1, r1, q1, S1⟩ := choose_spec f h la lb lc (by omega)
      obtain ⟨s1', r1', q1', N1⟩ := ih h la lb lc (by omega)
      rw [q1] at q1'
      obtain ⟨rfl, rfl⟩ : s1 = s1' ∧ r1 = r1' := by simpa using q1'
      rw [q1]
      simp only [Option.bind_some]
      have e1 := S1.ext
      have hl1 := e1.len
      have ha1 : a < s1.nodes.length := by omega
      have hb1 : b < s1.nodes.length := by omega
      have hc1 : c < s1.nodes.length := by omega
      have hvv1 : v < s1.vars := by rw [e1.vars]; exact hvv
      have xa : v ≤ (s1.nd a).1 := by rw [e1.nd ha]; exact htl.1
      have xb : v ≤ (s1.nd b).1 := by rw [e1.nd hb]; exact htl.2.1
      have xc : v ≤ (s1.nd c).1 := by rw [e1.nd hc]; exact htl.2.2
      have la' := sideF_lt S1.inv.toWf0 ha1 (v := v) true
      have lb' := sideF_lt S1.inv.toWf0 hb1 (v := v) true
      have lc' := sideF_lt S1.inv.toWf0 hc1 (v := v) true
      have va' := side_var S1.inv.toOrd ha1 xa hvv1 true
      have vb' := side_var S1.inv.toOrd hb1 xb hvv1 true
      have vc' := side_var S1.inv.toOrd hc1 xc hvv1 true
      have t2 : v + 1 ≤ topV s1 (sideF s1 a v true) (sideF s1 b v true) (sideF s1 c v true) := by unfold topV; omega
      have hvs := e1.vars
      obtain ⟨s2, r2, q2, S2⟩ := choose_spec f S1.inv la' lb' lc' (by omega)
      obtain ⟨s2', r2', q2', N2⟩ := ih S1.inv la' lb' lc' (by omega)
      rw [q2] at q2'
      obtain ⟨rfl, rfl⟩ : s2 = s2' ∧ r2 = r2' := by simpa using q2'
      rw [q2]
      simp only [Option.bind_some]
      have e2 := S2.ext
      have hl2 := e2.len
      have N := node_spec S2.inv (v := v) (lo := r1) (hi := r2) (by rw [e2.vars]; exact hvv1) (by have := S1.lt; omega) S2.lt (by rw [e2.nd S1.lt]; have := S1.var; omega) (by have := S2.var; omega)
      have NN := nodeF_new s2 (v, r1, r2)
      generalize nodeF s2 (v, r1, r2) = q3 at *
      obtain ⟨s3, r3⟩ := q3
      dsimp only at N NN ⊢
      have e3 := N.ext
      refine ⟨_, _, rfl, fun n hn1 hn2 => ?_⟩
      have hn2 : n < s3.nodes.length := hn2
      have e4 : Ext s3 { s3 with done := putN s3.done (a, b, c) r3 } := ⟨rfl, [], by simp⟩
      have k1 : ({ s3 with done := putN s3.done (a, b, c) r3 } : DS).nd n = s3.nd n := rfl
      rw [k1]
      have k2 : ∀ e, ev { s3 with done := putN s3.done (a, b, c) r3 } n e = ev s3 n e := fun e => ev_ext N.inv.toWf0 e4 e hn2
      simp only [k2]
      rcases Nat.lt_or_ge n s1.nodes.length with d1 | d1
      · obtain ⟨w1, u, hu⟩ := N1 n hn1 d1
        have d2 : n < s2.nodes.length := by omega
        rw [e3.nd d2, e2.nd d1]
        refine ⟨by omega, setb u v false, fun e => ?_⟩
        rw [ev_ext S2.inv.toWf0 e3 e d2, ev_ext S1.inv.toWf0 e2 e d1, hu e]
        simp only [iteF]
        rw [side_mix h.toOrd ha htl.1 hvv (by omega), side_mix h.toOrd hb htl.2.1 hvv (by omega), side_mix h.toOrd hc htl.2.2 hvv (by omega)]
      · rcases Nat.lt_or_ge n s2.nodes.length with d2 | d2
        · obtain ⟨w2, u, hu⟩ := N2 n d1 d2
          rw [e3.nd d2]
          refine ⟨by omega, setb u v true, fun e => ?_⟩
          rw [ev_ext S2.inv.toWf0 e3 e d2, hu e]
          simp only [iteF]
          rw [side_mix S1.inv.toOrd ha1 xa hvv1 (by omega), side_mix S1.inv.toOrd hb1 xb hvv1 (by omega), side_mix S1.inv.toOrd hc1 xc hvv1 (by omega), ev_ext h.toWf0 e1 _ ha, ev_ext h.toWf0 e1 _ hb, ev_ext h.toWf0 e1 _ hc]
        · rcases NN with NN | ⟨NN, hr⟩
          · rw [NN] at hn2; omega
          · have hn : n = s2.nodes.length := by rw [NN, List.length_append] at hn2; simp at hn2; omega
            have hnd : (s3.nd n).1 = v := by
              unfold DS.nd
              rw [NN, hn]; simp [List.getD_eq_getElem?_getD]
            refine ⟨by omega, fun _ => false, fun e => ?_⟩
            rw [hnd]
            simp only [iteF]
            rw [ev_mix h.toOrd ha htl.1, ev_mix h.toOrd hb htl.2.1, ev_mix h.toOrd hc htl.2.2]
            have hn' : n = r3 := by rw [hn, hr]
            rw [hn', N.sem e]
            cases hev : e v with
            | true =>
              simp only [if_true]
              rw [S2.sem e, side_ev S1.inv.toOrd ha1 xa hvv1 hev, side_ev S1.inv.toOrd hb1 xb hvv1 hev, side_ev S1.inv.toOrd hc1 xc hvv1 hev, ev_ext h.toWf0 e1 e ha, ev_ext h.toWf0 e1 e hb, ev_ext h.toWf0 e1 e hc]
            | false =>
              simp only [Bool.false_eq_true, if_false]
              rw [ev_ext S1.inv.toWf0 e2 e S1.lt, S1.sem e, side_ev h.toOrd ha htl.1 hvv hev, side_ev h.toOrd hb htl.2.1 hvv hev, side_ev h.toOrd hc htl.2.2 hvv hev]
end Go.Proofs.Ytfjniocobcoepaa
