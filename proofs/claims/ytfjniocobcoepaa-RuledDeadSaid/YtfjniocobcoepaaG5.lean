/- Facts on the functions and types of this seat that its laws are proved from: contracts under the premises that each theorem names. -/
import Derived.Test.YtfjniocobcoepaaG4
set_option linter.unusedSimpArgs false
set_option linter.unusedVariables false
set_option linter.unnecessarySimpa false
namespace Go.Proofs.Ytfjniocobcoepaa
open Go Go.RowKit PB
set_option linter.unusedVariables false
set_option linter.unusedSimpArgs false

theorem topV_ext {s s' : DS} (e : Ext s s') {a b c : Nat} (ha : a < s.nodes.length) (hb : b < s.nodes.length) (hc : c < s.nodes.length) : topV s' a b c = topV s a b c := by
  unfold topV; rw [e.nd ha, e.nd hb, e.nd hc]

structure NodeSpec (s : DS) (v lo hi : Nat) (s' : DS) (r : Nat) : Prop where
  inv : Inv s'
  ext : Ext s s'
  lt : r < s'.nodes.length
  var : v ≤ (s'.nd r).1
  sem : ∀ env, ev s' r env = if env v then ev s hi env else ev s lo env
  cnt : s'.nodes.length ≤ s.nodes.length + 1

theorem node_spec {s : DS} (h : Inv s) {v lo hi : Nat} (hv : v < s.vars) (hl : lo < s.nodes.length) (hh : hi < s.nodes.length) (vl : v < (s.nd lo).1) (vh : v < (s.nd hi).1) :
    NodeSpec s v lo hi (nodeF s (v, lo, hi)).1 (nodeF s (v, lo, hi)).2 := by
  have ok := node_ok h.toWf0 (t := (v, lo, hi)) (Nat.le_of_lt hv) hl hh
  unfold nodeF at ok ⊢
  by_cases c : lo = hi
  · simp only [if_pos c]
    exact ⟨h, Ext.refl s, hl, by show v ≤ (s.nd lo).1; omega, fun env => by show ev s lo env = _; subst c; simp, by simp⟩
  simp only [if_neg c] at ok ⊢
  cases hk : lookN s.idx (v, lo, hi) with
  | some i =>
    rw [hk] at ok
    obtain ⟨h2, hi', hnd⟩ := (h.uniq _ _).1 hk
    refine ⟨h, Ext.refl s, hi', by show v ≤ (s.nd i).1; rw [hnd]; exact Nat.le_refl _, fun env => ?_, by simp⟩
    show ev s i env = _
    rw [ev_step h.toOrd env h2 hi', hnd]
  | none =>
    rw [hk] at ok
    simp only at ok ⊢
    obtain ⟨w', e, l'⟩ := ok
    generalize hs' : ({ s with nodes := s.nodes ++ [(v, lo, hi)], idx := putN s.idx (v, lo, hi) s.nodes.length } : DS) = s' at *
    have hvars : s'.vars = s.vars := e.vars
    have hlen : s'.nodes.length = s.nodes.length + 1 := by rw [← hs']; simp
    have hnew : s'.nd s.nodes.length = (v, lo, hi) := by rw [← hs']; simp [DS.nd]
    have hidx : s'.idx = putN s.idx (v, lo, hi) s.nodes.length := by rw [← hs']
    have hdone : s'.done = s.done := by rw [← hs']
    have h2 := h.n2
    have hO : Ord s' := by
      refine ⟨w', by rw [e.nd (by omega), hvars]; exact h.c0, by rw [e.nd (by omega), hvars]; exact h.c1, fun a a2 ha => ?_⟩
      by_cases ca : a < s.nodes.length
      · have o := h.ord a a2 ca
        rw [e.nd ca, e.nd (h.lo a ca), e.nd (h.hi a ca), hvars]
        exact o
      · have : a = s.nodes.length := by omega
        subst this
        rw [hnew, hvars, e.nd hl, e.nd hh]
        exact ⟨hv, vl, vh⟩
    have hI : Inv s' := by
      refine ⟨hO, fun a a2 ha => ?_, fun t a => ?_, fun a b c r hd => ?_⟩
      · by_cases ca : a < s.nodes.length
        · rw [e.nd ca]; exact h.red a a2 ca
        · have : a = s.nodes.length := by omega
          subst this
          rw [hnew]; exact c
      · rw [hidx, lookN_put]
        by_cases ct : t = (v, lo, hi)
        · rw [if_pos ct]
          constructor
          · intro hq
            cases hq
            exact ⟨by omega, by omega, by rw [hnew, ct]⟩
          · rintro ⟨q1, q2, q3⟩
            by_cases ca : a < s.nodes.length
            · rw [e.nd ca] at q3
              have := (h.uniq t a).2 ⟨q1, ca, q3⟩
              rw [ct, hk] at this; cases this
            · have : a = s.nodes.length := by omega
              rw [this]
        · rw [if_neg ct, h.uniq t a]
          constructor
          · rintro ⟨q1, q2, q3⟩
            exact ⟨q1, by omega, by rw [e.nd q2]; exact q3⟩
          · rintro ⟨q1, q2, q3⟩
            by_cases ca : a < s.nodes.length
            · rw [e.nd ca] at q3; exact ⟨q1, ca, q3⟩
            · have : a = s.nodes.length := by omega
              subst this
              rw [hnew] at q3
              exact absurd q3.symm ct
      · rw [hdone] at hd
        obtain ⟨qa, qb, qc, qv, qe⟩ := h.dn a b c r hd
        have qr := h.done _ _ hd
        refine ⟨by omega, by omega, by omega, by rw [topV_ext e qa qb qc, e.nd qr]; exact qv, fun env => ?_⟩
        rw [ev_ext h.toWf0 e env qr, ev_ext h.toWf0 e env qa, ev_ext h.toWf0 e env qb, ev_ext h.toWf0 e env qc]
        exact qe env
    refine ⟨hI, e, by omega, by show v ≤ (s'.nd s.nodes.length).1; rw [hnew]; exact Nat.le_refl _, fun env => ?_, by show s'.nodes.length ≤ _; omega⟩
    show ev s' s.nodes.length env = _
    rw [ev_step hO env h2 (by omega), hnew]
    show (if env v then ev s' hi env else ev s' lo env) = _
    rw [ev_ext h.toWf0 e env hl, ev_ext h.toWf0 e env hh]

structure ChSpec (s : DS) (a b c : Nat) (s' : DS) (r : Nat) : Prop where
  inv : Inv s'
  ext : Ext s s'
  lt : r < s'.nodes.length
  var : topV s a b c ≤ (s'.nd r).1
  sem : ∀ env, ev s' r env = if ev s a env then ev s b env else ev s c env
  cnt : s'.nodes.length + 1 ≤ s.nodes.length + 2 ^ (s.vars - topV s a b c)

theorem two_le (k : Nat) : 1 ≤ 2 ^ k := Nat.one_le_two_pow

theorem choose_spec : ∀ (f : Nat) {s : DS} {a b c : Nat}, Inv s → a < s.nodes.length → b < s.nodes.length → c < s.nodes.length → s.vars - topV s a b c < f →
    ∃ s' r, chooseF f s a b c = some (s', r) ∧ ChSpec s a b c s' r := by
  intro f
  induction f with
  | zero => intro s a b c _ _ _ _ hf; omega
  | succ f ih =>
    intro s a b c h ha hb hc hf
    have hp := two_le (s.vars - topV s a b c)
    have htl : topV s a b c ≤ (s.nd a).1 ∧ topV s a b c ≤ (s.nd b).1 ∧ topV s a b c ≤ (s.nd c).1 := by unfold topV; omega
    simp only [chooseF]
    by_cases c1 : a = 1 ∨ b = c
    · rw [if_pos c1]
      refine ⟨s, b, rfl, h, Ext.refl s, hb, htl.2.1, fun env => ?_, by omega⟩
      rcases c1 with c1 | c1
      · rw [c1, ev_1]; simp
      · rw [c1]; simp
    rw [if_neg c1]
    by_cases c2 : a = 0
    · rw [if_pos c2]
      exact ⟨s, c, rfl, h, Ext.refl s, hc, htl.2.2, fun env => by rw [c2, ev_0]; simp, by omega⟩
    rw [if_neg c2]
    by_cases c3 : b = 1 ∧ c = 0
    · rw [if_pos c3]
      exact ⟨s, a, rfl, h, Ext.refl s, ha, htl.1, fun env => by rw [c3.1, c3.2, ev_0, ev_1]; simp, by omega⟩
    rw [if_neg c3]
    cases hd : lookN s.done (a, b, c) with
    | some r =>
      obtain ⟨_, _, _, qv, qe⟩ := h.dn a b c r hd
      exact ⟨s, r, rfl, h, Ext.refl s, h.done _ _ hd, qv, qe, by omega⟩
    | none =>
      have a2 : 2 ≤ a := by
        rcases Nat.lt_or_ge a 2 with q | q
        · exfalso; have : a = 0 ∨ a = 1 := by omega
          rcases this with e | e
          · exact c2 e
          · exact c1 (.inl e)
        · exact q
      have hva := (h.ord a a2 ha).1
      have hvv : topV s a b c < s.vars := by omega
      simp only
      generalize hv : topV s a b c = v at *
      have la := sideF_lt h.toWf0 ha (v := v) false
      have lb := sideF_lt h.toWf0 hb (v := v) false
      have lc := sideF_lt h.toWf0 hc (v := v) false
      have va := side_var h.toOrd ha htl.1 hvv false
      have vb := side_var h.toOrd hb htl.2.1 hvv false
      have vc := side_var h.toOrd hc htl.2.2 hvv false
      have t1 : v + 1 ≤ topV s (sideF s a v false) (sideF s b v false) (sideF s c v false) := by unfold topV; omega
      obtain ⟨s1, r1, q1, S1⟩ := ih h la lb lc (by omega)
      rw [q1]
      simp only [Option.bind_some]
      have e1 := S1.ext
      have hl1 := e1.len
      have ha1 : a < s1.nodes.length := by omega
      have hb1 : b < s1.nodes.length := by omega
      have hc1 : c < s1.nodes.length := by omega
      have hvv1 : v < s1.vars := by rw [e1.vars]; exact hvv
      have xa : v ≤ (s1.nd a).1 := by rw [e1.nd ha]; exact htl.1
      have xb : v ≤ (s1.nd b).1 := by rw [e1.nd hb]; exact htl.2.1
      have xc : v ≤ (s1.nd c).1 := by rw [e1.nd hc]; exact htl.2.2
      have la' := sideF_lt S1.inv.toWf0 ha1 (v := v) true
      have lb' := sideF_lt S1.inv.toWf0 hb1 (v := v) true
      have lc' := sideF_lt S1.inv.toWf0 hc1 (v := v) true
      have va' := side_var S1.inv.toOrd ha1 xa hvv1 true
      have vb' := side_var S1.inv.toOrd hb1 xb hvv1 true
      have vc' := side_var S1.inv.toOrd hc1 xc hvv1 true
      have t2 : v + 1 ≤ topV s1 (sideF s1 a v true) (sideF s1 b v true) (sideF s1 c v true) := by unfold topV; omega
      have hvs := e1.vars
      obtain ⟨s2, r2, q2, S2⟩ := ih S1.inv la' lb' lc' (by omega)
      rw [q2]
      simp only [Option.bind_some]
      have e2 := S2.ext
      have hl2 := e2.len
      have N := node_spec S2.inv (v := v) (lo := r1) (hi := r2) (by rw [e2.vars]; exact hvv1) (by have := S1.lt; omega) S2.lt (by rw [e2.nd S1.lt]; have := S1.var; omega) (by have := S2.var; omega)
      generalize nodeF s2 (v, r1, r2) = q3 at *
      obtain ⟨s3, r3⟩ := q3
      dsimp only at N ⊢
      have e3 := N.ext
      have hl3 := e3.len
      have e13 := (e1.trans e2).trans e3
      have e4 : Ext s3 { s3 with done := putN s3.done (a, b, c) r3 } := ⟨rfl, [], by simp⟩
      have esem : ∀ env, ev s3 r3 env = if ev s a env then ev s b env else ev s c env := by
        intro env
        rw [N.sem env]
        cases hev : env v with
        | true =>
          simp only [if_true]
          rw [S2.sem env, side_ev S1.inv.toOrd ha1 xa hvv1 hev, side_ev S1.inv.toOrd hb1 xb hvv1 hev, side_ev S1.inv.toOrd hc1 xc hvv1 hev, ev_ext h.toWf0 e1 env ha, ev_ext h.toWf0 e1 env hb, ev_ext h.toWf0 e1 env hc]
        | false =>
          simp only [Bool.false_eq_true, if_false]
          rw [ev_ext S1.inv.toWf0 e2 env S1.lt, S1.sem env, side_ev h.toOrd ha htl.1 hvv hev, side_ev h.toOrd hb htl.2.1 hvv hev, side_ev h.toOrd hc htl.2.2 hvv hev]
      have hnd : ∀ x, ({ s3 with done := putN s3.done (a, b, c) r3 } : DS).nd x = s3.nd x := fun x => rfl
      have hev4 : ∀ x env, x < s3.nodes.length → ev { s3 with done := putN s3.done (a, b, c) r3 } x env = ev s3 x env := fun x env hx => ev_ext N.inv.toWf0 e4 env hx
      have ha3 : a < s3.nodes.length := by omega
      have hb3 : b < s3.nodes.length := by omega
      have hc3 : c < s3.nodes.length := by omega
      have hw4 := done_ok N.inv.toWf0 (k := (a, b, c)) N.lt
      have htop : topV s3 a b c = v := by rw [topV_ext e13 ha hb hc]; exact hv
      have hI : Inv { s3 with done := putN s3.done (a, b, c) r3 } := by
        refine ⟨⟨hw4, N.inv.c0, N.inv.c1, N.inv.ord⟩, N.inv.red, N.inv.uniq, fun x y z r hq => ?_⟩
        have hq' : lookN (putN s3.done (a, b, c) r3) (x, y, z) = some r := hq
        rw [lookN_put] at hq'
        split at hq'
        · rename_i hk
          cases hq'
          cases hk
          refine ⟨ha3, hb3, hc3, by show topV s3 a b c ≤ (s3.nd r3).1; rw [htop]; exact N.var, fun env => ?_⟩
          rw [hev4 r3 env N.lt, hev4 a env ha3, hev4 b env hb3, hev4 c env hc3, esem env, ev_ext h.toWf0 e13 env ha, ev_ext h.toWf0 e13 env hb, ev_ext h.toWf0 e13 env hc]
        · obtain ⟨qa, qb, qc, qv, qe⟩ := N.inv.dn x y z r hq'
          have qr := N.inv.done _ _ hq'
          refine ⟨qa, qb, qc, qv, fun env => ?_⟩
          rw [hev4 r env qr, hev4 x env qa, hev4 y env qb, hev4 z env qc]
          exact qe env
      refine ⟨_, r3, rfl, hI, ⟨e13.vars, e13.nodes⟩, N.lt, by rw [hv]; exact N.var, fun env => ?_, ?_⟩
      · rw [hev4 r3 env N.lt]; exact esem env
      · show s3.nodes.length + 1 ≤ _
        rw [hv]
        have k1 := S1.cnt
        have k2 := S2.cnt
        have k3 := N.cnt
        have p1 : 2 ^ (s.vars - topV s (sideF s a v false) (sideF s b v false) (sideF s c v false)) ≤ 2 ^ (s.vars - v - 1) := Nat.pow_le_pow_right (by decide) (by omega)
        have p2 : 2 ^ (s1.vars - topV s1 (sideF s1 a v true) (sideF s1 b v true) (sideF s1 c v true)) ≤ 2 ^ (s.vars - v - 1) := Nat.pow_le_pow_right (by decide) (by omega)
        have p3 : 2 ^ (s.vars - v) = 2 * 2 ^ (s.vars - v - 1) := by
          rw [show s.vars - v = (s.vars - v - 1) + 1 by omega, Nat.pow_succ, Nat.mul_comm]; simp
        omega
end Go.Proofs.Ytfjniocobcoepaa
