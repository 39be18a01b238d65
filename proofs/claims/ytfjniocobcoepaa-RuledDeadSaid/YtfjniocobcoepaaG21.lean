/- Facts on the functions and types of this seat that its laws are proved from: contracts under the premises that each theorem names. -/
import Derived.Test.YtfjniocobcoepaaG20
set_option linter.unusedSimpArgs false
set_option linter.unusedVariables false
set_option linter.unnecessarySimpa false
namespace Go.Proofs.Ytfjniocobcoepaa
open Go Go.RowKit PB
set_option linter.unusedVariables false
set_option linter.unusedSimpArgs false

/-! ### Boxes: what one match looks at -/
/-- A range of ports; np: it does not ask whether there are ports. -/
def rngP (full np : Bool) (f lo hi : Nat) (e : Nat → Bool) : Prop := full = true ∨ ((np = true ∨ e 8 = true) ∧ lo ≤ numB e f 16 ∧ numB e f 16 ≤ hi)
instance (full np : Bool) (f lo hi : Nat) (e : Nat → Bool) : Decidable (rngP full np f lo hi e) := by unfold rngP; infer_instance
structure Bx where
  pm : Nat
  pv : Nat
  ff : Bool
  nf : Bool
  fl : Nat
  fh : Nat
  tf : Bool
  nt : Bool
  tl : Nat
  th : Nat
  sm : Nat
  sv : Nat
  dm : Nat
  dv : Nat
structure Bx.ok (b : Bx) : Prop where
  p : b.pm ≤ 8
  s : b.sm ≤ 32
  d : b.dm ≤ 32
structure Bx.on (b : Bx) (e : Nat → Bool) : Prop where
  p : numB e 0 b.pm = b.pv
  f : rngP b.ff b.nf 9 b.fl b.fh e
  t : rngP b.tf b.nt 25 b.tl b.th e
  s : numB e 41 b.sm = b.sv
  d : numB e 73 b.dm = b.dv
theorem Bx.on_iff (b : Bx) (e : Nat → Bool) : b.on e ↔ (numB e 0 b.pm = b.pv ∧ rngP b.ff b.nf 9 b.fl b.fh e ∧ rngP b.tf b.nt 25 b.tl b.th e ∧ numB e 41 b.sm = b.sv ∧ numB e 73 b.dm = b.dv) :=
  ⟨fun h => ⟨h.p, h.f, h.t, h.s, h.d⟩, fun h => ⟨h.1, h.2.1, h.2.2.1, h.2.2.2.1, h.2.2.2.2⟩⟩
instance (b : Bx) (e : Nat → Bool) : Decidable (b.on e) := decidable_of_iff _ (b.on_iff e).symm

theorem pfx_num {u e : Nat → Bool} {v f m val : Nat} (h1 : f < v) (h2 : v < f + m) : numB (mix u v e) f m = numB u f (v - f) * 2 ^ (f + m - v) + numB e v (f + m - v) := by
  have : m = (v - f) + (f + m - v) := by omega
  conv => lhs; rw [this]
  exact numB_mid (by omega)
theorem pfx_same {u u' : Nat → Bool} {v f m val : Nat} (h : ∃ e, numB (mix u v e) f m = val) (h' : ∃ e, numB (mix u' v e) f m = val) (e : Nat → Bool) : (numB (mix u v e) f m = val ↔ numB (mix u' v e) f m = val) := by
  obtain ⟨a, ha⟩ := h
  obtain ⟨a', ha'⟩ := h'
  rcases Nat.lt_or_ge f v with c | c
  · rcases Nat.lt_or_ge v (f + m) with d | d
    · rw [pfx_num (val := val) c d] at ha ha' ⊢
      rw [pfx_num (val := val) c d]
      have q1 := div_num (a := numB u f (v - f)) (numB_lt a v (f + m - v))
      have q2 := div_num (a := numB u' f (v - f)) (numB_lt a' v (f + m - v))
      rw [ha] at q1
      rw [ha'] at q2
      rw [← q1, ← q2]
    · rw [numB_lo d] at ha ha' ⊢
      rw [numB_lo d]
      exact ⟨fun _ => ha', fun _ => ha⟩
  · rw [numB_hi c, numB_hi c]
theorem rng_same {u u' : Nat → Bool} {v f lo hi : Nat} {full np : Bool} (hf : 8 < f) (h : ∃ e, rngP full np f lo hi (mix u v e)) (h' : ∃ e, rngP full np f lo hi (mix u' v e))
    (hp : f < v → v < f + 16 → numB u f (v - f) = numB u' f (v - f)) (e : Nat → Bool) : (rngP full np f lo hi (mix u v e) ↔ rngP full np f lo hi (mix u' v e)) := by
  obtain ⟨a, ha⟩ := h
  obtain ⟨a', ha'⟩ := h'
  unfold rngP at *
  rcases ha with ha | ⟨ha1, ha2⟩
  · exact ⟨fun _ => .inl ha, fun _ => .inl ha⟩
  rcases ha' with ha' | ⟨ha1', ha2'⟩
  · exact ⟨fun _ => .inl ha', fun _ => .inl ha'⟩
  have hport : (np = true ∨ mix u v e 8 = true) ↔ (np = true ∨ mix u' v e 8 = true) := by
    rcases Nat.lt_or_ge 8 v with c | c
    · rw [mix_lt c] at ha1 ha1' ⊢
      rw [mix_lt c]
      exact ⟨fun _ => ha1', fun _ => ha1⟩
    · rw [mix_ge c, mix_ge c]
  rw [hport]
  rcases Nat.lt_or_ge f v with c | c
  · rcases Nat.lt_or_ge v (f + 16) with d | d
    · rw [pfx_num (val := lo) c d, pfx_num (val := lo) c d, hp c d]
    · rw [numB_lo d] at ha2 ha2' ⊢
      rw [numB_lo d]
      exact ⟨fun h => h.imp_right fun h => ⟨h.1, ha2'⟩, fun h => h.imp_right fun h => ⟨h.1, ha2⟩⟩
  · rw [numB_hi c, numB_hi c]

/-- A box that some packet behind u can still meet. -/
def Bx.alive (b : Bx) (v : Nat) (u : Nat → Bool) : Prop := ∃ e, b.on (mix u v e)
/-- L1: two living cofactors with the same port bits so far are equal. -/
theorem Bx.same (b : Bx) {v : Nat} {u u' : Nat → Bool} (h : b.alive v u) (h' : b.alive v u')
    (hp : ∀ f, f = 9 ∨ f = 25 → f < v → v < f + 16 → numB u f (v - f) = numB u' f (v - f)) (e : Nat → Bool) : (b.on (mix u v e) ↔ b.on (mix u' v e)) := by
  obtain ⟨a, ha⟩ := h
  obtain ⟨a', ha'⟩ := h'
  rw [b.on_iff, b.on_iff, pfx_same ⟨a, ha.p⟩ ⟨a', ha'.p⟩ e, pfx_same ⟨a, ha.s⟩ ⟨a', ha'.s⟩ e, pfx_same ⟨a, ha.d⟩ ⟨a', ha'.d⟩ e,
    rng_same (by decide) ⟨a, ha.f⟩ ⟨a', ha'.f⟩ (hp 9 (.inl rfl)) e, rng_same (by decide) ⟨a, ha.t⟩ ⟨a', ha'.t⟩ (hp 25 (.inr rfl)) e]
end Go.Proofs.Ytfjniocobcoepaa
