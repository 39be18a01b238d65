/- Facts on the functions and types of this seat that its laws are proved from: contracts under the premises that each theorem names. -/
import Derived.Test.YtfjniocobcoepaaG33
set_option linter.unusedSimpArgs false
set_option linter.unusedVariables false
set_option linter.unnecessarySimpa false
namespace Go.Proofs.Ytfjniocobcoepaa
open Go Go.RowKit PB
set_option linter.unusedVariables false
set_option linter.unusedSimpArgs false

/-! ### The values of packets, and what is new under them -/
def realP (e : Nat → Bool) : Prop := (e 8 = true ∧ (numB e 0 8 = 6 ∨ numB e 0 8 = 17)) ∨ (e 8 = false ∧ numB e 9 16 = 0 ∧ numB e 25 16 = 0)
instance (e : Nat → Bool) : Decidable (realP e) := by unfold realP; infer_instance
theorem numB_0 {e : Nat → Bool} {f : Nat} : ∀ n, numB e f n = 0 ↔ ∀ i, f ≤ i → i < f + n → e i = false
  | 0 => ⟨fun _ i h1 h2 => by omega, fun _ => rfl⟩
  | n + 1 => by
    rw [numB]
    have ih := numB_0 (e := e) (f := f) n
    constructor
    · intro h i h1 h2
      have h3 : numB e f n = 0 := by omega
      by_cases c : i = f + n
      · subst c
        cases hb : e (f + n)
        · rfl
        · rw [hb] at h; simp at h
      · exact ih.1 h3 i h1 (by omega)
    · intro h
      rw [ih.2 fun i h1 h2 => h i h1 (by omega), h (f + n) (by omega) (by omega)]
      simp
/-- A cofactor of a diagram of the store is a diagram of the store. -/
theorem cof {s : DS} (h : Ord s) (u : Nat → Bool) (v : Nat) : ∀ (m a : Nat), a < s.nodes.length → s.vars - (s.nd a).1 ≤ m → ∃ n, n < s.nodes.length ∧ ∀ e, ev s n e = ev s a (mix u v e) := by
  intro m
  induction m with
  | zero =>
    intro a ha hm
    by_cases c : a < 2
    · refine ⟨a, ha, fun e => ?_⟩
      have : a = 0 ∨ a = 1 := by omega
      rcases this with rfl | rfl
      · rw [ev_0, ev_0]
      · rw [ev_1, ev_1]
    · have := (h.ord a (by omega) ha).1; omega
  | succ m ih =>
    intro a ha hm
    by_cases c : a < 2
    · refine ⟨a, ha, fun e => ?_⟩
      have : a = 0 ∨ a = 1 := by omega
      rcases this with rfl | rfl
      · rw [ev_0, ev_0]
      · rw [ev_1, ev_1]
    · have o := h.ord a (by omega) ha
      by_cases cv : v ≤ (s.nd a).1
      · exact ⟨a, ha, fun e => (ev_mix h ha cv u e).symm⟩
      · cases hb : u (s.nd a).1 with
        | true =>
          obtain ⟨n, h1, h2⟩ := ih (s.nd a).2.2 (h.hi a ha) (by omega)
          exact ⟨n, h1, fun e => by rw [h2, ev_step h (mix u v e) (by omega) ha, mix_lt (by omega), hb, if_pos rfl]⟩
        | false =>
          obtain ⟨n, h1, h2⟩ := ih (s.nd a).2.1 (h.lo a ha) (by omega)
          exact ⟨n, h1, fun e => by rw [h2, ev_step h (mix u v e) (by omega) ha, mix_lt (by omega), hb, if_neg (by decide)]⟩

def bxP (v : Nat) : Bx := ⟨8, v, true, false, 0, 0, true, false, 0, 0, 0, 0, 0, 0⟩
theorem bxP_on (v : Nat) (e : Nat → Bool) : (bxP v).on e ↔ numB e 0 8 = v := by rw [Bx.on_iff]; simp [bxP, rngP, numB]
def addP (n : Nat) (B : Nat → Bx) (i : Nat) : Bx := if i < n then B i else if i = n then bxP 6 else bxP 17
theorem addP_lt {n : Nat} {B : Nat → Bx} {i : Nat} (h : i < n) : addP n B i = B i := if_pos h
theorem addP_6 (n : Nat) (B : Nat → Bx) : addP n B n = bxP 6 := by unfold addP; rw [if_neg (by omega), if_pos rfl]
theorem addP_17 (n : Nat) (B : Nat → Bx) : addP n B (n + 1) = bxP 17 := by unfold addP; rw [if_neg (by omega), if_neg (by omega)]
theorem addP_bxs {n : Nat} {B : Nat → Bx} (h : Bxs n B) : Bxs (n + 2) (addP n B) := by
  have key : ∀ i, i < n + 2 → ((addP n B i).ok ∧ (addP n B i).nf = false ∧ (addP n B i).nt = false ∧ ((addP n B i).pm = 0 ∨ (addP n B i).pm = 8)) := by
    intro i hi
    unfold addP
    split
    · rename_i c; exact ⟨h.ok i c, h.nf i c, h.nt i c, h.pm i c⟩
    · split
      · exact ⟨⟨Nat.le_refl _, Nat.zero_le _, Nat.zero_le _⟩, rfl, rfl, .inr rfl⟩
      · exact ⟨⟨Nat.le_refl _, Nat.zero_le _, Nat.zero_le _⟩, rfl, rfl, .inr rfl⟩
  exact ⟨fun i hi => (key i hi).1, fun i hi => (key i hi).2.1, fun i hi => (key i hi).2.2.1, fun i hi => (key i hi).2.2.2⟩

section
variable {s : DS} {n a : Nat} {B : Nat → Bx} {A R : (Nat → Bool) → Bool} {v : Nat} {u u' : Nat → Bool}
theorem real_not (h : Inv s) (hA : Kn s a A) (hR : ∀ e, R e = (A e && decide (realP e))) (hf : Fresh s R v u) (hc : ∀ e e', realP (mix u v e) ↔ realP (mix u v e')) : False := by
  by_cases c : realP (mix u v u)
  · obtain ⟨m, h1, h2⟩ := cof h.toOrd u v _ a hA.lt (Nat.le_refl _)
    exact hf.new_ m h1 fun e => by rw [h2, hA.sem, hR, decide_eq_true ((hc e u).2 c), Bool.and_true]
  · exact hf.new_ 0 (by have := h.n2; omega) fun e => by rw [ev_0, hR, decide_eq_false (fun hh => c ((hc e u).1 hh)), Bool.and_false]
theorem real_41 (hv : 41 ≤ v) (e e' : Nat → Bool) : realP (mix u v e) ↔ realP (mix u v e') := by
  unfold realP
  rw [mix_lt (by omega), mix_lt (by omega), numB_lo (by omega), numB_lo (by omega), numB_lo (by omega), numB_lo (by omega), numB_lo (by omega), numB_lo (by omega)]
theorem real_9 (hv : 9 ≤ v) (h8 : u 8 = true) (e e' : Nat → Bool) : realP (mix u v e) ↔ realP (mix u v e') := by
  unfold realP
  rw [mix_lt (by omega), mix_lt (by omega), numB_lo (f := 0) (by omega), numB_lo (f := 0) (by omega), h8]
  simp
/-- Behind the protocol the bits so far are 0. -/
theorem real_zero (h : Inv s) (hA : Kn s a A) (hR : ∀ e, R e = (A e && decide (realP e))) (hf : Fresh s R v u) (hv : 9 ≤ v) (hv2 : v < 41) : ∀ i, 8 ≤ i → i < v → u i = false := by
  have h8 : u 8 = false := by
    cases hb : u 8
    · rfl
    · exact (real_not h hA hR hf (real_9 hv hb)).elim
  have hex : ∃ e, R (mix u v e) = true := by
    refine Classical.byContradiction fun hn => hf.new_ 0 (by have := h.n2; omega) fun e => ?_
    rw [ev_0]
    cases hb : R (mix u v e)
    · rfl
    · exact absurd ⟨e, hb⟩ hn
  obtain ⟨e, he⟩ := hex
  rw [hR, Bool.and_eq_true] at he
  have hr := of_decide_eq_true he.2
  unfold realP at hr
  rw [mix_lt (by omega), h8] at hr
  simp at hr
  intro i h1 h2
  by_cases c : i = 8
  · rw [c]; exact h8
  · by_cases c2 : i < 25
    · have := (numB_0 16).1 hr.1 i (by omega) (by omega)
      rwa [mix_lt h2] at this
    · have := (numB_0 16).1 hr.2 i (by omega) (by omega)
      rwa [mix_lt h2] at this
theorem real_same (h : Inv s) (hA : Kn s a A) (hB : Bxs n B) (hAo : Of n B A) (hR : ∀ e, R e = (A e && decide (realP e))) (hf : Fresh s R v u) (hf' : Fresh s R v u') (hv : v < 41) (hk : ctxB (n + 2) (addP n B) v u = ctxB (n + 2) (addP n B) v u') (e : Nat → Bool) :
    R (mix u v e) = R (mix u' v e) := by
  have hi : ∀ i, 8 ≤ i → mix u v e i = mix u' v e i := by
    intro i h8
    rcases Nat.lt_or_ge i v with c | c
    · rw [mix_lt c, mix_lt c, real_zero h hA hR hf (by omega) hv i h8 c, real_zero h hA hR hf' (by omega) hv i h8 c]
    · rw [mix_ge c, mix_ge c]
  have hi' : ∀ x i, 8 ≤ i → mix u v x i = mix u' v x i := by
    intro x i h8
    rcases Nat.lt_or_ge i v with c | c
    · rw [mix_lt c, mix_lt c, real_zero h hA hR hf (by omega) hv i h8 c, real_zero h hA hR hf' (by omega) hv i h8 c]
    · rw [mix_ge c, mix_ge c]
  have hB2 := addP_bxs hB
  have rg : ∀ (full np : Bool) (f lo hi : Nat) (x : Nat → Bool), 8 < f → (rngP full np f lo hi (mix u v x) ↔ rngP full np f lo hi (mix u' v x)) := by
    intro full np f lo hi2 x h8
    unfold rngP
    rw [hi' x 8 (Nat.le_refl _), numB_congr 16 fun i h1 h2 => hi' x i (by omega)]
  have on := all_on hB2 (by omega) (fun h8 => by rw [real_zero h hA hR hf (by omega) hv 8 (by omega) h8, real_zero h hA hR hf' (by omega) hv 8 (by omega) h8]) (fun k hkn x => proto_same hB2 hk k hkn x)
    (fun k _ x _ => rg _ _ _ _ _ x (by decide)) (fun k _ x _ => rg _ _ _ _ _ x (by decide))
  have p6 := on n (by omega) e
  rw [addP_6, bxP_on, bxP_on] at p6
  have p17 := on (n + 1) (by omega) e
  rw [addP_17, bxP_on, bxP_on] at p17
  have eA := hAo.of (mix u v e) (mix u' v e) fun k hk => by have := on k (by omega) e; rwa [addP_lt hk] at this
  have er : realP (mix u v e) ↔ realP (mix u' v e) := by
    unfold realP
    rw [hi 8 (Nat.le_refl _), p6, p17, numB_congr 16 (fun i h1 h2 => hi i (by omega)), numB_congr (f := 25) 16 (fun i h1 h2 => hi i (by omega))]
  rw [hR, hR, eA, decide_eq_decide.2 er]
theorem if_real (h : Inv s) (h105 : s.vars = 105) {x y z : Nat} (hx : x < s.nodes.length) (hy : y < s.nodes.length) (hz : z < s.nodes.length) (hA : Kn s a A) (hB : Bxs n B) (hAo : Of n B A) (hR : ∀ e, iteF s x y z e = (A e && decide (realP e))) :
    (ifF s x y z).1.nodes.length ≤ s.nodes.length + 41 * (n + 3) := by
  have key := if_count h hx hy hz (fun v => if v < 41 then List.range (n + 3) else []) (fun v u => ctxB (n + 2) (addP n B) v u) (fun v u _ hf => ?_) (fun v u u' _ hf hf' hk => ?_)
  · rw [h105] at key
    have e : ((List.range 105).map fun v => (if v < 41 then List.range (n + 3) else []).length).sum ≤ 41 * (n + 3) := by
      have : (105 : Nat) = 41 + 64 := rfl
      rw [this, List.range_add (n := 41) (m := 64), List.map_append, List.sum_append]
      have s1 := sum_le (c := fun v => (if v < 41 then List.range (n + 3) else []).length) (k := n + 3) 41 (fun i hi => by simp [hi])
      have s2 := sum_le (c := fun v => (if 41 + v < 41 then List.range (n + 3) else []).length) (k := 0) 64 (fun i hi => by simp)
      rw [List.map_map]
      simp only [Function.comp_def]
      omega
    omega
  · have hv : v < 41 := by
      rcases Nat.lt_or_ge v 41 with c | c
      · exact c
      · exact (real_not h hA hR hf (real_41 c)).elim
    simp only [if_pos hv]
    refine List.mem_range.2 ?_
    rcases ctx_cases (n + 2) (addP n B) v u with ⟨q, _⟩ | ⟨q, _⟩ <;> omega
  · have hv : v < 41 := by
      rcases Nat.lt_or_ge v 41 with c | c
      · exact c
      · exact (real_not h hA hR hf (real_41 c)).elim
    exact real_same h hA hB hAo hR hf hf' hv hk
end
end Go.Proofs.Ytfjniocobcoepaa
