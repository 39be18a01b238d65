/- Facts on the functions and types of this seat that its laws are proved from: contracts under the premises that each theorem names. -/
import Derived.Test.YtfjniocobcoepaaG25
set_option linter.unusedSimpArgs false
set_option linter.unusedVariables false
set_option linter.unnecessarySimpa false
namespace Go.Proofs.Ytfjniocobcoepaa
open Go Go.RowKit PB
set_option linter.unusedVariables false
set_option linter.unusedSimpArgs false

section
variable {n : Nat} {B : Nat → Bx} {R : (Nat → Bool) → Bool} {s : DS} {v : Nat} {u u' : Nat → Bool}
/-- The protocol of a living box is known once its bits are read. -/
theorem live_proto {b : Bx} (h : b.alive v u) (hp : b.pm = 8) (hv : 8 ≤ v) : numB u 0 8 = b.pv := by
  obtain ⟨e, he⟩ := h
  have := he.p
  rw [hp, numB_lo (by omega)] at this
  exact this
theorem tctx_same (hB : Bxs n B) (hv : 8 ≤ v) {i : Nat} (hi : i < n) (h : (B i).alive v u) (h' : (B i).alive v u') (ht : tctx n B v u i = tctx n B v u' i) (k : Nat) (hk : k < n) (e : Nat → Bool) :
    numB (mix u v e) 0 (B k).pm = numB (mix u' v e) 0 (B k).pm ∨ (¬ (B k).on (mix u v e) ∧ ¬ (B k).on (mix u' v e)) := by
  unfold tctx at ht
  by_cases c : (B i).pm ≠ 0
  · left
    have p8 : (B i).pm = 8 := (hB.pm i hi).resolve_left c
    have e1 := live_proto h p8 hv
    have e2 := live_proto h' p8 hv
    rcases hB.pm k hk with q | q
    · rw [q]; rfl
    · rw [q, numB_lo (by omega), numB_lo (by omega), e1, e2]
  · rw [if_neg c, if_neg c] at ht
    exact proto_same hB ht k hk e
theorem side_same {x y lo hi : Nat} (h : x = lo ∨ x = hi) (h' : y = lo ∨ y = hi) (hk : (if x = lo then 0 else 1) = (if y = lo then 0 else 1)) : x = y := by
  by_cases q : x = lo <;> by_cases q' : y = lo
  · omega
  · rw [if_pos q, if_neg q'] at hk; cases hk
  · rw [if_neg q, if_pos q'] at hk; cases hk
  · rw [h.resolve_left q, h'.resolve_left q']
theorem boxs_same (hB : Bxs n B) (hR : Of n B R) (h : Fresh s R v u) (h' : Fresh s R v u') (hk : boxsK n B v u = boxsK n B v u') (e : Nat → Bool) : R (mix u v e) = R (mix u' v e) := by
  have t := tix_ok (fresh_some hB hR h)
  have t' := tix_ok (fresh_some hB hR h')
  refine hR.of _ _ fun k hkn => ?_
  unfold boxsK at hk
  by_cases c1 : v < 9
  · simp only [if_pos c1, Prod.mk.injEq, and_true] at hk
    exact all_on hB (by omega) (fun _ => by omega) (fun k hkn e => proto_same hB hk k hkn e) (fun _ _ _ _ => by omega) (fun _ _ _ _ => by omega) k hkn e
  simp only [if_neg c1] at hk
  by_cases c2 : v < 25
  · simp only [if_pos c2, Prod.mk.injEq, and_true] at hk
    obtain ⟨k1, k2, k3⟩ := hk
    rw [← k2] at k1 k3 t'
    have f := t.2.f (by omega) c2
    have f' := t'.2.f (by omega) c2
    have nf := hB.nf _ t.1
    have p8 : u 8 = true := f.2.1.resolve_left (by rw [nf]; simp)
    have p8' : u' 8 = true := f'.2.1.resolve_left (by rw [nf]; simp)
    have pre := side_same f.2.2 f'.2.2 k3
    refine all_on hB (by omega) (fun _ => by rw [p8, p8']) (fun k hkn e => tctx_same hB (by omega) t.1 t.2.live t'.2.live k1 k hkn e) (fun k _ e h9 => ?_) (fun _ _ _ _ => by omega) k hkn e
    unfold rngP
    rw [mix_lt (by omega), mix_lt (by omega), p8, p8', pfx_num' (by omega) (by omega), pfx_num' (by omega) (by omega), pre]
  simp only [if_neg c2] at hk
  by_cases c3 : v < 41
  · simp only [if_pos c3, Prod.mk.injEq] at hk
    obtain ⟨k1, k2, k3, k4⟩ := hk
    rw [← k2] at k1 k3 t'
    have f := t.2.t (by omega) c3
    have f' := t'.2.t (by omega) c3
    have nt := hB.nt _ t.1
    have p8 : u 8 = true := f.2.1.resolve_left (by rw [nt]; simp)
    have p8' : u' 8 = true := f'.2.1.resolve_left (by rw [nt]; simp)
    have pre := side_same f.2.2 f'.2.2 k3
    refine all_on hB (by omega) (fun _ => by rw [p8, p8']) (fun k hkn e => tctx_same hB (by omega) t.1 t.2.live t'.2.live k1 k hkn e) (fun k hkn e _ => ?_) (fun k _ e h9 => ?_) k hkn e
    · have := rankN_eq (fun k => (B k).fl) (fun k => (B k).fh) k4 k hkn
      unfold rngP
      rw [mix_lt (by omega), mix_lt (by omega), p8, p8', numB_lo (by omega), numB_lo (by omega)]
      rw [this]
    · unfold rngP
      rw [mix_lt (by omega), mix_lt (by omega), p8, p8', pfx_num' (by omega) (by omega), pfx_num' (by omega) (by omega), pre]
  simp only [if_neg c3, Prod.mk.injEq, true_and] at hk
  have hm := numB_inj n hk k hkn
  rw [Nat.zero_add] at hm
  by_cases a1 : (B k).alive v u
  · have a2 : (B k).alive v u' := by simpa [a1] using hm
    exact (B k).same a1 a2 (fun f hf h1 h2 => by omega) e
  · have a2 : ¬ (B k).alive v u' := by simpa [a1] using hm
    exact ⟨fun q => absurd ⟨e, q⟩ a1, fun q => absurd ⟨e, q⟩ a2⟩

/-- How many matches name a protocol; how many pairs of context and match. -/
def nzB (n : Nat) (B : Nat → Bx) : Nat := ((List.range n).filter fun k => decide ((B k).pm ≠ 0)).length
theorem sum_ite (w : Nat) (p : Nat → Bool) : ∀ (l : List Nat), ((l.map fun i => if p i then 1 else w + 1).sum) = (l.filter p).length + (l.length - (l.filter p).length) * (w + 1)
  | [] => by simp
  | x :: l => by
    have h1 : (l.filter p).length ≤ l.length := List.length_filter_le ..
    rw [List.map_cons, List.sum_cons, sum_ite w p l]
    cases hx : p x
    · simp [hx]
      rw [show l.length + 1 - (l.filter p).length = (l.length - (l.filter p).length) + 1 by omega, Nat.add_mul]
      omega
    · simp [hx]
      omega
theorem sum_const (c : Nat) : ∀ (l : List Nat), (l.map fun _ => c).sum = l.length * c
  | [] => by simp
  | x :: l => by rw [List.map_cons, List.sum_cons, sum_const c l, List.length_cons, Nat.add_mul]; omega
def pairsN (n w : Nat) : Nat := w + (n - w) * (w + 1)
theorem tightL_len (n : Nat) (B : Nat → Bx) (m : Nat) : (tightL n B m).length = 2 * m * pairsN n (nzB n B) := by
  have h1 : ∀ i, ((ctxL n B i).flatMap fun t => (List.range m).flatMap fun q => [(t, i, 0, q), (t, i, 1, q)]).length = (if decide ((B i).pm ≠ 0) then 1 else nzB n B + 1) * (2 * m) := by
    intro i
    have h2 : ∀ t : Nat, ((List.range m).flatMap fun q => [(t, i, 0, q), (t, i, 1, q)]).length = 2 * m := by
      intro t
      rw [List.length_flatMap]
      show ((List.range m).map fun _ => 2).sum = _
      rw [sum_const, List.length_range, Nat.mul_comm]
    rw [List.length_flatMap]
    simp only [h2]
    rw [sum_const]
    unfold ctxL nzB
    by_cases c : (B i).pm = 0 <;> simp [c]
  unfold tightL
  rw [List.length_flatMap]
  simp only [h1]
  have h3 : ∀ (l : List Nat) (f : Nat → Nat), (l.map fun i => f i * (2 * m)).sum = (l.map f).sum * (2 * m) := by
    intro l f
    induction l with
    | nil => simp
    | cons x l ih => rw [List.map_cons, List.sum_cons, ih, List.map_cons, List.sum_cons, Nat.add_mul]
  rw [h3, sum_ite]
  unfold pairsN nzB
  rw [List.length_range, Nat.mul_comm]
def boxsN (n w : Nat) : Nat := 9 * (n + 1) + (32 * pairsN n w + (32 * (2 * n + 1) * pairsN n w + 64 * 2 ^ n))
theorem boxsT_sum (n : Nat) (B : Nat → Bx) : ((List.range 105).map fun v => (boxsT n B v).length).sum ≤ boxsN n (nzB n B) := by
  rw [sum105]
  have k1 : ((List.range 8).map fun v => (boxsT n B v).length).sum ≤ 8 * (n + 1) := sum_le 8 fun i hi => by unfold boxsT; rw [if_pos (by omega)]; simp
  have k2 : (boxsT n B 8).length = n + 1 := by unfold boxsT; rw [if_pos (by omega)]; simp
  have k3 : ((List.range 16).map fun i => (boxsT n B (9 + i)).length).sum ≤ 16 * (2 * 1 * pairsN n (nzB n B)) := sum_le 16 fun i hi => by unfold boxsT; rw [if_neg (by omega), if_pos (by omega), tightL_len]; exact Nat.le_refl _
  have k4 : ((List.range 16).map fun i => (boxsT n B (25 + i)).length).sum ≤ 16 * (2 * (2 * n + 1) * pairsN n (nzB n B)) := sum_le 16 fun i hi => by unfold boxsT; rw [if_neg (by omega), if_neg (by omega), if_pos (by omega), tightL_len]; exact Nat.le_refl _
  have k5 : ((List.range 32).map fun i => (boxsT n B (41 + i)).length).sum ≤ 32 * 2 ^ n := sum_le 32 fun i hi => by unfold boxsT; rw [if_neg (by omega), if_neg (by omega), if_neg (by omega)]; simp
  have k6 : ((List.range 32).map fun i => (boxsT n B (73 + i)).length).sum ≤ 32 * 2 ^ n := sum_le 32 fun i hi => by unfold boxsT; rw [if_neg (by omega), if_neg (by omega), if_neg (by omega)]; simp
  unfold boxsN
  have e1 : 16 * (2 * 1 * pairsN n (nzB n B)) = 32 * pairsN n (nzB n B) := by omega
  have e2 : 16 * (2 * (2 * n + 1) * pairsN n (nzB n B)) = 32 * (2 * n + 1) * pairsN n (nzB n B) := by rw [← Nat.mul_assoc, ← Nat.mul_assoc]
  omega
theorem if_boxs (h : Inv s) (h105 : s.vars = 105) {a b c : Nat} (ha : a < s.nodes.length) (hb : b < s.nodes.length) (hc : c < s.nodes.length) (hB : Bxs n B) (hR : Of n B (iteF s a b c)) :
    (ifF s a b c).1.nodes.length ≤ s.nodes.length + boxsN n (nzB n B) := by
  have key := if_count h ha hb hc (boxsT n B) (boxsK n B) (fun v u _ hf => boxs_mem hB hR hf) (fun v u u' _ hf hf' hk => boxs_same hB hR hf hf' hk)
  rw [h105] at key
  exact Nat.le_trans key (Nat.add_le_add_left (boxsT_sum n B) _)
end
end Go.Proofs.Ytfjniocobcoepaa
