/- Facts on the functions and types of this seat that its laws are proved from: contracts under the premises that each theorem names. -/
import Derived.Test.YtkmkebobalfheaaHa
set_option linter.unusedSimpArgs false
set_option linter.unusedVariables false
set_option linter.unnecessarySimpa false
namespace Go.Proofs.Ytkmkebobalfheaa
open Go Go.RowKit PB
set_option linter.unusedVariables false
set_option linter.unusedSimpArgs false

def halfJ (r : RuleV) : Nat := (31 - r.sb).toNat
def halfA (r : RuleV) : RuleV := { r with sb := r.sb + 1 }
def halfB (r : RuleV) : RuleV := { r with sb := r.sb + 1, sa := r.sa + 2 ^ halfJ r }

structure Halves (r : RuleV) : Prop where
  fits : r.fits
  c1 : aChk r.sa r.sb = 0
  c2 : aChk r.da r.db = 0
  c3 : ¬ rBad r
  lt : r.sb ≤ 31

theorem lowB_succ {n : Int} (h0 : 0 ≤ n) (h : n ≤ 31) : lowB n = (31 - n).toNat + 1 ∧ lowB (n + 1) = (31 - n).toNat := by
  unfold lowB; constructor <;> omega

theorem Halves.nums {r : RuleV} (h : Halves r) : ∃ M q : Nat, 2 ^ halfJ r = M ∧ 0 < M ∧ 2 ^ lowB r.sb = 2 * M ∧ 2 ^ lowB (r.sb + 1) = M ∧ r.sa = 2 * M * q ∧ r.sa + 2 * M ≤ 4294967296 := by
  obtain ⟨n0, n1, hm⟩ := aChk_0 h.c1
  have hlt := h.lt
  obtain ⟨l1, l2⟩ := lowB_succ n0 hlt
  have hj : halfJ r = (31 - r.sb).toNat := rfl
  have hM : 0 < 2 ^ halfJ r := Nat.pow_pos (by decide)
  have e1 : 2 ^ lowB r.sb = 2 * 2 ^ halfJ r := by rw [l1, hj, Nat.pow_succ, Nat.mul_comm]
  have e2 : 2 ^ lowB (r.sb + 1) = 2 ^ halfJ r := by rw [l2, hj]
  have e3 : r.sa = 2 * 2 ^ halfJ r * (r.sa / (2 * 2 ^ halfJ r)) := by
    have := Nat.div_add_mod r.sa (2 * 2 ^ halfJ r)
    rw [← e1, hm] at this
    rw [← e1]; omega
  refine ⟨_, _, rfl, hM, e1, e2, e3, ?_⟩
  have hf := h.fits.s
  have ek : 4294967296 = 2 * 2 ^ halfJ r * 2 ^ (31 - halfJ r) := by
    have h1 : 2 * 2 ^ halfJ r = 2 ^ (halfJ r + 1) := by rw [Nat.pow_succ, Nat.mul_comm]
    rw [h1, ← Nat.pow_add, show halfJ r + 1 + (31 - halfJ r) = 32 by rw [hj]; omega]
  generalize 2 * 2 ^ halfJ r = D at *
  generalize r.sa / D = q at *
  generalize 2 ^ (31 - halfJ r) = T at *
  rw [e3] at hf ⊢
  rw [ek] at hf ⊢
  have : q < T := Nat.lt_of_mul_lt_mul_left hf
  have h4 : D * (q + 1) ≤ D * T := Nat.mul_le_mul_left _ this
  rw [Nat.mul_add, Nat.mul_one] at h4
  exact h4

theorem halves_law {r : RuleV} (h : Halves r) (p : PktV) :
    (halfA r).fits ∧ (halfB r).fits ∧ lChk [halfA r, halfB r] = 0 ∧ (matchP r p ↔ (matchP (halfA r) p ∨ matchP (halfB r) p)) ∧ ¬ (matchP (halfA r) p ∧ matchP (halfB r) p) ∧ r.sa ||| 2 ^ halfJ r = r.sa + 2 ^ halfJ r ∧ 2 ^ halfJ r < 4294967296 := by
  obtain ⟨M, q, hM, h0, e1, e2, e3, e4⟩ := h.nums
  obtain ⟨n0, n1, hm⟩ := aChk_0 h.c1
  have hlt := h.lt
  have hl := lowB_succ n0 hlt
  have c2 := h.c2
  have c3 := h.c3
  have hA : aChk r.sa (r.sb + 1) = 0 := by
    unfold aChk
    rw [if_neg (by omega), if_neg]
    rw [e2, e3, Nat.mul_comm 2 M, Nat.mul_assoc, Nat.mul_mod_right]
    simp
  have hB : aChk (r.sa + M) (r.sb + 1) = 0 := by
    unfold aChk
    rw [if_neg (by omega), if_neg]
    rw [e2, e3, Nat.mul_comm 2 M, Nat.mul_assoc, Nat.add_mod_right, Nat.mul_mod_right]
    simp
  have dA : r.sa / M = 2 * q := by rw [e3, Nat.mul_comm 2 M, Nat.mul_assoc, Nat.mul_div_cancel_left _ h0]
  have dB : (r.sa + M) / M = 2 * q + 1 := by rw [Nat.add_div_right _ h0, dA]
  have dR : r.sa / (2 * M) = q := by rw [e3, Nat.mul_div_cancel_left _ (by omega)]
  have hx : ∀ x : Nat, x / (2 * M) = x / M / 2 := fun x => by rw [Nat.mul_comm, Nat.div_div_eq_div_mul]
  have iA : hasP r.sa (r.sb + 1) p.src ↔ p.src / M = 2 * q := by unfold hasP; rw [e2, dA]; simp [hA]
  have iB : hasP (r.sa + M) (r.sb + 1) p.src ↔ p.src / M = 2 * q + 1 := by unfold hasP; rw [e2, dB]; simp [hB]
  have iR : hasP r.sa r.sb p.src ↔ p.src / M / 2 = q := by unfold hasP; rw [e1, dR, hx]; simp [h.c1]
  have key : hasP r.sa r.sb p.src ↔ (hasP r.sa (r.sb + 1) p.src ∨ hasP (r.sa + M) (r.sb + 1) p.src) := by rw [iA, iB, iR]; omega
  have key2 : ¬ (hasP r.sa (r.sb + 1) p.src ∧ hasP (r.sa + M) (r.sb + 1) p.src) := by rw [iA, iB]; omega
  have mA : matchP (halfA r) p ↔ (r.proto = 0 ∨ r.proto = p.proto) ∧ hasP r.sa (r.sb + 1) p.src ∧ hasP r.da r.db p.dst ∧ ((hasPorts p ∧ portsIn r p) ∨ (¬ hasPorts p ∧ portsAll r)) := Iff.rfl
  have mB : matchP (halfB r) p ↔ (r.proto = 0 ∨ r.proto = p.proto) ∧ hasP (r.sa + M) (r.sb + 1) p.src ∧ hasP r.da r.db p.dst ∧ ((hasPorts p ∧ portsIn r p) ∨ (¬ hasPorts p ∧ portsAll r)) := by rw [← hM]; exact Iff.rfl
  have mR : matchP r p ↔ (r.proto = 0 ∨ r.proto = p.proto) ∧ hasP r.sa r.sb p.src ∧ hasP r.da r.db p.dst ∧ ((hasPorts p ∧ portsIn r p) ∨ (¬ hasPorts p ∧ portsAll r)) := Iff.rfl
  have hfs := h.fits.s
  have hfd := h.fits.d
  have bA : ¬ rBad (halfA r) := c3
  have bB : ¬ rBad (halfB r) := c3
  have rA : rChk (halfA r) = 0 := by
    unfold rChk
    rw [if_neg (by show ¬ (aChk r.sa (r.sb + 1) ≠ 0); rw [hA]; simp), if_neg (by show ¬ (aChk r.da r.db ≠ 0); rw [c2]; simp), if_neg bA]
  have rB : rChk (halfB r) = 0 := by
    unfold rChk
    rw [if_neg (by show ¬ (aChk (r.sa + 2 ^ halfJ r) (r.sb + 1) ≠ 0); rw [hM, hB]; simp), if_neg (by show ¬ (aChk r.da r.db ≠ 0); rw [c2]; simp), if_neg bB]
  refine ⟨⟨hfs, hfd⟩, ⟨?_, hfd⟩, ?_, ?_, ?_, ?_, ?_⟩
  · show r.sa + 2 ^ halfJ r < 4294967296
    rw [hM]; omega
  · show (if 16 < 2 then (2 : Int) else lErr [halfA r, halfB r]) = 0
    rw [if_neg (by decide)]
    simp [lErr, rA, rB]
  · rw [mA, mB, mR, key]
    constructor
    · rintro ⟨a, b | b, c⟩
      · exact .inl ⟨a, b, c⟩
      · exact .inr ⟨a, b, c⟩
    · rintro (⟨a, b, c⟩ | ⟨a, b, c⟩)
      · exact ⟨a, .inl b, c⟩
      · exact ⟨a, .inr b, c⟩
  · rw [mA, mB]
    rintro ⟨⟨_, a, _⟩, ⟨_, b, _⟩⟩
    exact key2 ⟨a, b⟩
  · refine or_next ?_
    show r.sa % 2 ^ ((31 - r.sb).toNat + 1) = 0
    rw [← hl.1]; exact hm
  · rw [hM]; omega
end Go.Proofs.Ytkmkebobalfheaa
