/- Facts on the functions and types of this seat that its laws are proved from: contracts under the premises that each theorem names. -/
import Derived.Test.YtfjniocobcoepaaG39
set_option linter.unusedSimpArgs false
set_option linter.unusedVariables false
set_option linter.unnecessarySimpa false
namespace Go.Proofs.Ytfjniocobcoepaa
open Go Go.RowKit PB
set_option linter.unusedVariables false
set_option linter.unusedSimpArgs false

/-! ### Packets and their bits -/
structure PkE (p : PktV) (e : Nat → Bool) : Prop where
  proto : p.proto = (numB e 0 8 : Nat)
  src : p.src = numB e 41 32
  dst : p.dst = numB e 73 32
  ports : hasPorts p ↔ e 8 = true
  a : hasPorts p → portA p = numB e 9 16
  b : hasPorts p → portB p = numB e 25 16
theorem pre_num {e : Nat → Bool} {f m : Nat} (hm : m ≤ 32) : numB e f 32 / 2 ^ (32 - m) = numB e f m := by
  have h := numB_add e f m (32 - m)
  rw [show m + (32 - m) = 32 by omega] at h
  rw [h, div_num (numB_lt e (f + m) (32 - m))]
theorem has_iff {a : Nat} {n : Int} {e : Nat → Bool} {f : Nat} (hz : aChk a n = 0) (h0 : 0 ≤ n ∧ n ≤ 32) : hasP a n (numB e f 32) ↔ numB e f n.toNat = a / 2 ^ (32 - n.toNat) := by
  unfold hasP
  have hl : lowB n = 32 - n.toNat := by unfold lowB; omega
  rw [hl, pre_num (by omega)]
  exact ⟨fun h => h.2, fun h => ⟨hz, h⟩⟩
theorem match_iff {r : RuleV} {p : PktV} {e : Nat → Bool} (hr : RuleOk r) (h : PkE p e) : matchP r p ↔ (boxR r).on e := by
  obtain ⟨hp, hsrc, hdst, hport, ha, hb⟩ := h
  have h1 := hr.p
  have h2 := hr.f
  have h3 := hr.t
  rw [Bx.on_iff]
  unfold matchP
  rw [hsrc, hdst, has_iff hr.sz hr.sb, has_iff hr.dz hr.db]
  have e1 : (r.proto = 0 ∨ r.proto = p.proto) ↔ numB e 0 (boxR r).pm = (boxR r).pv := by
    show _ ↔ numB e 0 (if r.proto = 0 then 0 else 8) = r.proto.toNat
    by_cases c : r.proto = 0
    · rw [if_pos c, c]; simp [numB]
    · rw [if_neg c, hp]; omega
  have e2 : ((hasPorts p ∧ portsIn r p) ∨ (¬ hasPorts p ∧ portsAll r)) ↔ (rngP (boxR r).ff (boxR r).nf 9 (boxR r).fl (boxR r).fh e ∧ rngP (boxR r).tf (boxR r).nt 25 (boxR r).tl (boxR r).th e) := by
    show _ ↔ (rngP (decide (r.fs = 0 ∧ r.ls = 65535)) false 9 r.fs.toNat r.ls.toNat e ∧ rngP (decide (r.fd = 0 ∧ r.ld = 65535)) false 25 r.fd.toNat r.ld.toNat e)
    have l1 := numB_lt e 9 16
    have l2 := numB_lt e 25 16
    unfold rngP
    by_cases c : hasPorts p
    · have c8 := hport.1 c
      have a1 := ha c
      have b1 := hb c
      unfold portsIn
      rw [a1, b1]
      simp only [c, c8, decide_eq_true_eq]
      constructor
      · rintro (⟨_, q⟩ | ⟨q, _⟩)
        · exact ⟨.inr ⟨.inr trivial, by omega, by omega⟩, .inr ⟨.inr trivial, by omega, by omega⟩⟩
        · exact absurd trivial q
      · rintro ⟨q1, q2⟩
        refine .inl ⟨trivial, ?_, ?_⟩
        · rcases q1 with q | ⟨_, q⟩ <;> omega
        · rcases q2 with q | ⟨_, q⟩ <;> omega
    · have c8 : ¬ e 8 = true := fun h => c (hport.2 h)
      unfold portsAll
      simp only [c, c8, decide_eq_true_eq]
      constructor
      · rintro (⟨q, _⟩ | ⟨_, q⟩)
        · exact q.elim
        · exact ⟨.inl (by omega), .inl (by omega)⟩
      · rintro ⟨q1, q2⟩
        rcases q1 with q1 | ⟨q1, _⟩
        · rcases q2 with q2 | ⟨q2, _⟩
          · exact .inr ⟨fun h => h, by omega⟩
          · rcases q2 with q2 | q2
            · cases q2
            · cases q2
        · rcases q1 with q1 | q1
          · cases q1
          · cases q1
  rw [e1, e2]
  constructor
  · rintro ⟨q1, q2, q3, q4, q5⟩; exact ⟨q1, q4, q5, q2, q3⟩
  · rintro ⟨q1, q2, q3, q4, q5⟩; exact ⟨q1, q4, q5, q2, q3⟩

theorem byte_strB (a b c d : Nat) : byteF (strB [a, b, c, d]) 0 = a % 256 ∧ byteF (strB [a, b, c, d]) 1 = b % 256 ∧ byteF (strB [a, b, c, d]) 2 = c % 256 ∧ byteF (strB [a, b, c, d]) 3 = d % 256 := by
  have hsz : (strB [a, b, c, d]).size = 4 := by rw [strB_size]; rfl
  refine ⟨?_, ?_, ?_, ?_⟩ <;> (unfold byteF; rw [dif_pos (by rw [hsz]; decide)])
  · show (UInt8.ofNat a).toNat = _; exact UInt8.toNat_ofNat'
  · show (UInt8.ofNat b).toNat = _; exact UInt8.toNat_ofNat'
  · show (UInt8.ofNat c).toNat = _; exact UInt8.toNat_ofNat'
  · show (UInt8.ofNat d).toNat = _; exact UInt8.toNat_ofNat'
/-- The packet of the bits of a packet. -/
theorem pkV_ok {e : Nat → Bool} (h : realP e) : PkE (pkV e) e ∧ (pkV e).fits ∧ pChk (pkV e) = 0 := by
  have k1 := numB_lt e 41 32
  have k2 := numB_lt e 73 32
  have k3 := numB_lt e 0 8
  have k4 := numB_lt e 9 16
  have k5 := numB_lt e 25 16
  have hsz : (pkV e).body.size = if e 8 = true then 4 else 0 := by
    unfold pkV
    split
    · show (strB _).size = 4; rw [strB_size]; rfl
    · rfl
  have hport : hasPorts (pkV e) ↔ e 8 = true := by
    unfold hasPorts
    rw [hsz]
    show ((((numB e 0 8 : Nat) : Int) = 6 ∨ ((numB e 0 8 : Nat) : Int) = 17) ∧ (0 : Int) = 0 ∧ _) ↔ _
    unfold realP at h
    by_cases c : e 8 = true
    · simp [c] at h ⊢; omega
    · simp [c]
  have hbody : e 8 = true → (pkV e).body = strB [numB e 9 16 / 256 % 256, numB e 9 16 % 256, numB e 25 16 / 256 % 256, numB e 25 16 % 256] := fun c => by unfold pkV; rw [if_pos c]
  refine ⟨⟨rfl, rfl, rfl, hport, fun c => ?_, fun c => ?_⟩, ⟨k1, k2, by rw [hsz]; split <;> omega⟩, ?_⟩
  · have hb := byte_strB (numB e 9 16 / 256 % 256) (numB e 9 16 % 256) (numB e 25 16 / 256 % 256) (numB e 25 16 % 256)
    unfold portA
    rw [if_pos c, hbody (hport.1 c), hb.1, hb.2.1]; omega
  · have hb := byte_strB (numB e 9 16 / 256 % 256) (numB e 9 16 % 256) (numB e 25 16 / 256 % 256) (numB e 25 16 % 256)
    unfold portB
    rw [if_pos c, hbody (hport.1 c), hb.2.2.1, hb.2.2.2]; omega
  · have b1 : ¬ bad1 (pkV e) := by
      unfold bad1
      show ¬ (((numB e 0 8 : Nat) : Int) < 0 ∨ 255 < ((numB e 0 8 : Nat) : Int) ∨ (64 : Int) < 1 ∨ (255 : Int) < 64 ∨ (0 : Int) < 0 ∨ (65535 : Int) < 0 ∨ (0 : Int) < 0 ∨ (65528 : Int) < 0)
      omega
    have b2 : ¬ bad2 (pkV e) := by
      unfold bad2
      rw [hsz]
      show ¬ (_ ∨ 65535 < (0 : Int) + _)
      split <;> omega
    have b3 : ¬ bad3 (pkV e) := by
      unfold bad3
      show ¬ ((0 : Int) % 8 ≠ 0 ∨ (false = true ∧ _) ∨ ((false = true ∨ (0 : Int) < 0) ∧ _))
      simp
    unfold pChk
    rw [if_neg b1, if_neg b2, if_neg b3]

theorem bits_num {e : Nat → Bool} {f size x : Nat} (he : ∀ i, i < size → e (f + i) = decide (x / 2 ^ (size - 1 - i) % 2 = 1)) (hx : x < 2 ^ size) : numB e f size = x := by
  have key : ∀ n, n ≤ size → numB e f n = x / 2 ^ (size - n) := by
    intro n
    induction n with
    | zero => intro _; rw [Nat.sub_zero, Nat.div_eq_of_lt hx]; rfl
    | succ n ih =>
      intro hn
      rw [numB, ih (by omega), he n (by omega)]
      have e1 : size - n = (size - 1 - n) + 1 := by omega
      have e2 : size - (n + 1) = size - 1 - n := by omega
      rw [e1, e2, Nat.pow_succ, ← Nat.div_div_eq_div_mul]
      generalize x / 2 ^ (size - 1 - n) = y
      by_cases c : y % 2 = 1 <;> simp [c] <;> omega
  have := key size (Nat.le_refl _)
  rwa [Nat.sub_self, Nat.pow_zero, Nat.div_one] at this
/-- The bits of a packet. -/
theorem bits_of {p : PktV} (hf : p.fits) (hc : pChk p = 0) : ∃ e, PkE p e ∧ realP e := by
  have hb1 : ¬ bad1 p := fun h => by unfold pChk at hc; rw [if_pos h] at hc; cases hc
  unfold bad1 at hb1
  have hs := hf.s
  have hd := hf.d
  obtain ⟨pn, hpn⟩ : ∃ n : Nat, p.proto = n := ⟨p.proto.toNat, by omega⟩
  have hp8 : pn < 256 := by omega
  let bit (x size i : Nat) : Bool := decide (x / 2 ^ (size - 1 - i) % 2 = 1)
  let e : Nat → Bool := fun i => if i < 8 then bit pn 8 i else if i = 8 then decide (hasPorts p) else if i < 25 then bit (portA p) 16 (i - 9) else if i < 41 then bit (portB p) 16 (i - 25) else if i < 73 then bit p.src 32 (i - 41) else bit p.dst 32 (i - 73)
  have pa : portA p < 65536 := by
    unfold portA; split
    · have := byteF_lt p.body 0; have := byteF_lt p.body 1; omega
    · decide
  have pb : portB p < 65536 := by
    unfold portB; split
    · have := byteF_lt p.body 2; have := byteF_lt p.body 3; omega
    · decide
  have n0 : numB e 0 8 = pn := bits_num (fun i hi => by simp only [e]; rw [if_pos (by omega), Nat.zero_add]) hp8
  have n9 : numB e 9 16 = portA p := bits_num (fun i hi => by simp only [e]; rw [if_neg (by omega), if_neg (by omega), if_pos (by omega), Nat.add_sub_cancel_left]) pa
  have n25 : numB e 25 16 = portB p := bits_num (fun i hi => by simp only [e]; rw [if_neg (by omega), if_neg (by omega), if_neg (by omega), if_pos (by omega), Nat.add_sub_cancel_left]) pb
  have n41 : numB e 41 32 = p.src := bits_num (fun i hi => by simp only [e]; rw [if_neg (by omega), if_neg (by omega), if_neg (by omega), if_neg (by omega), if_pos (by omega), Nat.add_sub_cancel_left]) hs
  have n73 : numB e 73 32 = p.dst := bits_num (fun i hi => by simp only [e]; rw [if_neg (by omega), if_neg (by omega), if_neg (by omega), if_neg (by omega), if_neg (by omega), Nat.add_sub_cancel_left]) hd
  have e8 : e 8 = decide (hasPorts p) := rfl
  refine ⟨e, ⟨by rw [n0]; exact hpn, n41.symm, n73.symm, by rw [e8]; simp, fun _ => n9.symm, fun _ => n25.symm⟩, ?_⟩
  unfold realP
  rw [e8, n0, n9, n25]
  by_cases c : hasPorts p
  · left
    have := c.1
    exact ⟨decide_eq_true c, by omega⟩
  · right
    exact ⟨decide_eq_false c, by unfold portA; rw [if_neg c], by unfold portB; rw [if_neg c]⟩
end Go.Proofs.Ytfjniocobcoepaa
