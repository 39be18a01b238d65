/- Facts on the functions and types of this seat that its laws are proved from: contracts under the premises that each theorem names. -/
import Derived.Test.YtfjniocobcoepaaG28
set_option linter.unusedSimpArgs false
set_option linter.unusedVariables false
set_option linter.unnecessarySimpa false
namespace Go.Proofs.Ytfjniocobcoepaa
open Go Go.RowKit PB
set_option linter.unusedVariables false
set_option linter.unusedSimpArgs false

/-! ### equal -/
section
variable {P : Program} {w : World} {ρ : Operand → Value} {x y : Operand} {t s : TypeId} {ty : TypeId}
theorem y_shrn {n k : Nat} {z : Int} (hx : ρ x = .int .i64 (n : Int)) (hy : ρ y = .int .i64 z) (hz : z = (k : Nat)) (hk : k ≤ 62) : Yld P ρ (.binOp .shr t x y s) ty w (.int .i64 ((n / 2 ^ k : Nat) : Int)) := by
  subst hz
  refine y_shr hx hy (by omega) ?_
  have h1 : min ((k : Nat) : Int).toNat IntKind.i64.bits = k := by show min ((k : Nat) : Int).toNat 64 = k; omega
  rw [h1, Int.fdiv_eq_ediv_of_nonneg _ (by exact_mod_cast Nat.zero_le _)]
  push_cast
  rfl
theorem y_and1 {n : Nat} (hx : ρ x = .int .i64 (n : Int)) (hy : ρ y = .int .i64 1) (hn : n < 9223372036854775808) : Yld P ρ (.binOp .and t x y s) ty w (.int .i64 ((n % 2 : Nat) : Int)) := by
  have := y_and64 (P := P) (w := w) (t := t) (s := s) (ty := ty) (a := n) (b := 1) hx hy hn (by decide)
  rwa [Nat.and_one_is_mod] at this
end
theorem numB_one (e : Nat → Bool) (f : Nat) (j : Nat) : numB e f (j + 1) = (if e f then 1 else 0) * 2 ^ j + numB e (f + 1) j := by
  rw [Nat.add_comm j 1, numB_add e f 1 j]
  simp [numB]
theorem mod_bit (x j : Nat) : x % 2 ^ (j + 1) = x / 2 ^ j % 2 * 2 ^ j + x % 2 ^ j := by
  rw [Nat.pow_succ, Nat.mod_mul, Nat.mul_comm, Nat.add_comm]
/-- The last j bits of a field against those of a number. -/
def eqF (p j x : Nat) (e : Nat → Bool) : Bool := decide (numB e p j = x % 2 ^ j)
theorem eq_step (p j x : Nat) (e : Nat → Bool) : eqF p (j + 1) x e = if x / 2 ^ j % 2 = 1 then (if e p then eqF (p + 1) j x e else false) else (if e p then false else eqF (p + 1) j x e) := by
  unfold eqF
  have h1 := numB_one e p j
  have h2 := numB_lt e (p + 1) j
  have h3 := Nat.mod_lt x (Nat.two_pow_pos j)
  rw [h1, mod_bit]
  have hb : x / 2 ^ j % 2 = 0 ∨ x / 2 ^ j % 2 = 1 := by omega
  generalize 2 ^ j = q at *
  generalize x % q = y at *
  generalize numB e (p + 1) j = z at *
  cases he : e p <;> rcases hb with hb | hb <;> simp [hb] <;> omega

theorem equal_k {W0 w : World} {M : MB} {mb : Nat} {s : DS} {R : List (Nat × MObj)} {f size many n : Nat} [im : InL mb (mkO M) R] (I : Inv s) (h105 : s.vars = 105) (hf : f + many ≤ 105) (hm : many ≤ size) (hsz : size ≤ 32) (hnn : n < 2 ^ size)
    (hn : s.nodes.length + 2 * many ≤ 60000) (hd : Dg W0 w M s R) :
    FnC Try.prog 60 [mkP mb, I64 f, I64 size, I64 many, I64 n] w (fun x w' => ∃ s' r, x = I64 (r : Nat) ∧ Nx s s' (2 * many) ∧ Kv s' r f (fun e => decide (numB e f many = n / 2 ^ (size - many))) ∧ Dg W0 w' M s' R) := by
  have hn32 : n < 4294967296 := Nat.lt_of_lt_of_le hnn (Nat.pow_le_pow_right (by decide) hsz : 2 ^ size ≤ 2 ^ 32)
  refine FnC.enter Try.func60 rfl Try.ntmps60 rfl fun ρ => ?_
  refine s_seq ?_
  refine s_reg ?_
  refine l_q (by exact y_as_int rfl) ?_
  refine l_end ?_
  refine e_then ?_
  refine s_seq ?_
  refine s_reg ?_
  refine l_q (by exact y_as_int rfl) ?_
  refine l_end ?_
  refine e_then ?_
  refine s_seq ?_
  refine s_seq ?_
  refine s_reg ?_
  refine l_q (by exact y_mv_int rfl) ?_
  refine l_q (by first | exact y_subn rfl rfl (by omega) | exact y_sub rfl rfl rfl) ?_
  refine l_q (by exact y_as_int rfl) ?_
  refine l_end ?_
  refine e_then ?_
  refine s_block ?_
  refine loop_st (X := Nat × DS × Nat) (fun y => [(0, mkP mb), (1, I64 f), (2, I64 size), (3, I64 many), (4, I64 n), (11, I64 (y.2.2 : Nat)), (12, I64 ((y.1 : Int) - 1))])
    (fun y w => y.1 ≤ many ∧ Nx s y.2.1 (2 * (many - y.1)) ∧ Kv y.2.1 y.2.2 (f + y.1) (eqF (f + y.1) (many - y.1) (n / 2 ^ (size - many))) ∧ Dg W0 w M y.2.1 R) (fun y => y.1) (many, s, 1) ⟨rfl, rfl, rfl, rfl, rfl, rfl, rfl, trivial⟩
    ⟨Nat.le_refl _, by rw [Nat.sub_self]; exact Nx.refl I, by rw [Nat.sub_self]; exact (kv1 I _ (by omega)).fn (fun e => by simp [eqF, numB, Nat.mod_one]), hd⟩ ?_
  clear hd
  rintro ⟨k, s1, r1⟩ ρ w ⟨hk, N, K, hd⟩
  dsimp only at hk N K hd ⊢
  obtain ⟨os, hos, hs⟩ := hd.ex
  have hv1 := N.ext.vars
  have hc1 := N.cnt
  by_cases c : 0 < k
  · have K' : Kv s1 r1 (f + (k - 1) + 1) (eqF (f + k) (many - k) (n / 2 ^ (size - many))) := by rw [show f + (k - 1) + 1 = f + k by omega]; exact K
    have hstep := eq_step (f + (k - 1)) (many - k) (n / 2 ^ (size - many))
    have hbit : n / 2 ^ (size - many) / 2 ^ (many - k) = n / 2 ^ (size - k) := by rw [Nat.div_div_eq_div_mul, ← Nat.pow_add, show size - many + (many - k) = size - k by omega]
    rw [hbit, show f + (k - 1) + 1 = f + k by omega, show many - k + 1 = many - (k - 1) by omega] at hstep
    have hdiv : n / 2 ^ (size - k) ≤ n := Nat.div_le_self _ _
    by_cases cb : n / 2 ^ (size - k) % 2 = 1
    · refine s_seq ?_
      refine s_seq ?_
      refine s_reg ?_
      refine l_q (by exact y_mv_int rfl) ?_
      refine l_q (by first | exact y_geq rfl rfl (decide_eq_true (by omega)) | exact y_geq rfl rfl (decide_eq_false (by omega)) | exact y_geq rfl rfl rfl) ?_
      refine l_q (by exact y_mv_bool rfl) ?_
      first | refine l_gskip rfl rfl ?_ | refine l_gskip_u rfl rfl ?_ | refine l_gdo rfl rfl (by exact y_mv_ptr rfl) ?_
      first | refine l_gskip rfl rfl ?_ | refine l_gskip_u rfl rfl ?_ | refine l_gdo rfl rfl (by first | exact y_nil rfl | exact y_nilf rfl) ?_
      first | refine l_gskip rfl rfl ?_ | refine l_gskip_u rfl rfl ?_ | refine l_gdo rfl rfl (by exact y_field rfl) ?_
      first | refine l_gskip rfl rfl ?_ | refine l_gskip_u rfl rfl ?_ | refine l_gdo rfl rfl (by exact y_ld hs rfl rfl) ?_
      first | refine l_gskip rfl rfl ?_ | refine l_gskip_u rfl rfl ?_ | refine l_gdo rfl rfl (by first | exact y_eql rfl rfl (decide_eq_true (by omega)) | exact y_eql rfl rfl (decide_eq_false (by omega)) | exact y_eql rfl rfl rfl) ?_
      refine l_q (by first | exact y_pk_bt rfl rfl | exact y_pk_bf rfl rfl) ?_
      refine l_end ?_
      refine e_then ?_
      refine cond_t rfl ?_
      refine s_skip ?_
      refine e_then ?_
      refine s_seq ?_
      refine s_block ?_
      refine s_seq ?_
      refine s_reg ?_
      refine l_q (by exact y_mv_int rfl) ?_
      refine l_q (by exact y_mv_int rfl) ?_
      refine l_q (by first | exact y_subn rfl rfl (by omega) | exact y_sub rfl rfl rfl) ?_
      refine l_q (by exact y_mv_int rfl) ?_
      refine l_q (by first | exact y_subn rfl rfl (by omega) | exact y_sub rfl rfl rfl) ?_
      refine l_q (by exact y_shrn (n := n) (k := size - k) rfl rfl (by omega) (by omega)) ?_
      refine l_q (by exact y_and1 (n := n / 2 ^ (size - k)) rfl rfl (by omega)) ?_
      refine l_q (by first | exact y_eql rfl rfl (decide_eq_true (by omega)) | exact y_eql rfl rfl (decide_eq_false (by omega)) | exact y_eql rfl rfl rfl) ?_
      refine l_end ?_
      refine e_then ?_
      refine cond_t rfl ?_
      refine s_reg ?_
      refine l_q (by exact y_mv_ptr rfl) ?_
      refine l_q (by exact y_mv_int rfl) ?_
      refine l_q (by exact y_mv_int rfl) ?_
      refine l_q (by exact y_toInt (b := ((f + (k - 1) : Nat) : Int)) (y_addn rfl rfl (by omega)) (by omega)) ?_
      refine l_q (by exact y_mv_int rfl) ?_
      refine l_w (w_call rfl (bit_k N.inv (N.ext.vars.trans h105) (v := f + (k - 1)) (by omega) (kv0 N.inv _ (by omega)) K' (by omega) ⟨os, hos, hs⟩) rfl (fun _ w h => ?_))
      obtain ⟨s2, r2, rfl, N2, K2, hd⟩ := h
      refine l_q (by exact y_as_int rfl) ?_
      refine l_end ?_
      refine e_blk ?_
      refine e_then ?_
      refine s_reg ?_
      refine l_q (by exact y_mv_int rfl) ?_
      refine l_q (by exact y_toInt (b := ((k - 1 : Nat) : Int) - 1) (y_subn rfl rfl (by omega)) (by omega)) ?_
      refine l_q (by exact y_as_int rfl) ?_
      refine l_end ?_
      refine e_then ?_
      refine ⟨(k - 1, s2, r2), _, nx ⟨rfl, rfl, rfl, rfl, rfl, rfl, rfl, trivial⟩, ⟨by dsimp only; omega, (N.trans N2).mono (by dsimp only; omega), ?_, hd⟩, by dsimp only; omega⟩
      refine K2.fn fun e => ?_
      rw [hstep, if_pos cb]
    · refine s_seq ?_
      refine s_seq ?_
      refine s_reg ?_
      refine l_q (by exact y_mv_int rfl) ?_
      refine l_q (by first | exact y_geq rfl rfl (decide_eq_true (by omega)) | exact y_geq rfl rfl (decide_eq_false (by omega)) | exact y_geq rfl rfl rfl) ?_
      refine l_q (by exact y_mv_bool rfl) ?_
      first | refine l_gskip rfl rfl ?_ | refine l_gskip_u rfl rfl ?_ | refine l_gdo rfl rfl (by exact y_mv_ptr rfl) ?_
      first | refine l_gskip rfl rfl ?_ | refine l_gskip_u rfl rfl ?_ | refine l_gdo rfl rfl (by first | exact y_nil rfl | exact y_nilf rfl) ?_
      first | refine l_gskip rfl rfl ?_ | refine l_gskip_u rfl rfl ?_ | refine l_gdo rfl rfl (by exact y_field rfl) ?_
      first | refine l_gskip rfl rfl ?_ | refine l_gskip_u rfl rfl ?_ | refine l_gdo rfl rfl (by exact y_ld hs rfl rfl) ?_
      first | refine l_gskip rfl rfl ?_ | refine l_gskip_u rfl rfl ?_ | refine l_gdo rfl rfl (by first | exact y_eql rfl rfl (decide_eq_true (by omega)) | exact y_eql rfl rfl (decide_eq_false (by omega)) | exact y_eql rfl rfl rfl) ?_
      refine l_q (by first | exact y_pk_bt rfl rfl | exact y_pk_bf rfl rfl) ?_
      refine l_end ?_
      refine e_then ?_
      refine cond_t rfl ?_
      refine s_skip ?_
      refine e_then ?_
      refine s_seq ?_
      refine s_block ?_
      refine s_seq ?_
      refine s_reg ?_
      refine l_q (by exact y_mv_int rfl) ?_
      refine l_q (by exact y_mv_int rfl) ?_
      refine l_q (by first | exact y_subn rfl rfl (by omega) | exact y_sub rfl rfl rfl) ?_
      refine l_q (by exact y_mv_int rfl) ?_
      refine l_q (by first | exact y_subn rfl rfl (by omega) | exact y_sub rfl rfl rfl) ?_
      refine l_q (by exact y_shrn (n := n) (k := size - k) rfl rfl (by omega) (by omega)) ?_
      refine l_q (by exact y_and1 (n := n / 2 ^ (size - k)) rfl rfl (by omega)) ?_
      refine l_q (by first | exact y_eql rfl rfl (decide_eq_true (by omega)) | exact y_eql rfl rfl (decide_eq_false (by omega)) | exact y_eql rfl rfl rfl) ?_
      refine l_end ?_
      refine e_then ?_
      refine cond_f rfl ?_
      refine s_reg ?_
      refine l_q (by exact y_mv_ptr rfl) ?_
      refine l_q (by exact y_mv_int rfl) ?_
      refine l_q (by exact y_mv_int rfl) ?_
      refine l_q (by exact y_toInt (b := ((f + (k - 1) : Nat) : Int)) (y_addn rfl rfl (by omega)) (by omega)) ?_
      refine l_q (by exact y_mv_int rfl) ?_
      refine l_w (w_call rfl (bit_k N.inv (N.ext.vars.trans h105) (v := f + (k - 1)) (by omega) K' (kv0 N.inv _ (by omega)) (by omega) ⟨os, hos, hs⟩) rfl (fun _ w h => ?_))
      obtain ⟨s2, r2, rfl, N2, K2, hd⟩ := h
      refine l_q (by exact y_as_int rfl) ?_
      refine l_end ?_
      refine e_blk ?_
      refine e_then ?_
      refine s_reg ?_
      refine l_q (by exact y_mv_int rfl) ?_
      refine l_q (by exact y_toInt (b := ((k - 1 : Nat) : Int) - 1) (y_subn rfl rfl (by omega)) (by omega)) ?_
      refine l_q (by exact y_as_int rfl) ?_
      refine l_end ?_
      refine e_then ?_
      refine ⟨(k - 1, s2, r2), _, nx ⟨rfl, rfl, rfl, rfl, rfl, rfl, rfl, trivial⟩, ⟨by dsimp only; omega, (N.trans N2).mono (by dsimp only; omega), ?_, hd⟩, by dsimp only; omega⟩
      refine K2.fn fun e => ?_
      rw [hstep, if_neg cb]
  · refine s_seq ?_
    refine s_seq ?_
    refine s_reg ?_
    refine l_q (by exact y_mv_int rfl) ?_
    refine l_q (by first | exact y_geq rfl rfl (decide_eq_true (by omega)) | exact y_geq rfl rfl (decide_eq_false (by omega)) | exact y_geq rfl rfl rfl) ?_
    refine l_q (by exact y_mv_bool rfl) ?_
    first | refine l_gskip rfl rfl ?_ | refine l_gskip_u rfl rfl ?_ | refine l_gdo rfl rfl (by exact y_mv_ptr rfl) ?_
    first | refine l_gskip rfl rfl ?_ | refine l_gskip_u rfl rfl ?_ | refine l_gdo rfl rfl (by first | exact y_nil rfl | exact y_nilf rfl) ?_
    first | refine l_gskip rfl rfl ?_ | refine l_gskip_u rfl rfl ?_ | refine l_gdo rfl rfl (by exact y_field rfl) ?_
    first | refine l_gskip rfl rfl ?_ | refine l_gskip_u rfl rfl ?_ | refine l_gdo rfl rfl (by exact y_ld hs rfl rfl) ?_
    first | refine l_gskip rfl rfl ?_ | refine l_gskip_u rfl rfl ?_ | refine l_gdo rfl rfl (by first | exact y_eql rfl rfl (decide_eq_true (by omega)) | exact y_eql rfl rfl (decide_eq_false (by omega)) | exact y_eql rfl rfl rfl) ?_
    refine l_q (by first | exact y_pk_bt rfl rfl | exact y_pk_bf rfl rfl) ?_
    refine l_end ?_
    refine e_then ?_
    refine cond_f rfl ?_
    refine s_exit ?_
    refine e_then_x ?_
    refine e_then_x ?_
    refine e_blk_x ?_
    refine e_then ?_
    refine s_seq ?_
    refine s_reg ?_
    refine l_q (by exact y_mv_int rfl) ?_
    refine l_q (by exact y_as_int rfl) ?_
    refine l_end ?_
    refine e_then ?_
    refine s_ret ?_
    have k0 : k = 0 := by omega
    subst k0
    have hlt : n / 2 ^ (size - many) < 2 ^ many := by
      rw [Nat.div_lt_iff_lt_mul (Nat.two_pow_pos _), ← Nat.pow_add, show many + (size - many) = size by omega]; exact hnn
    refine ret_ [.int .i64 _] rfl ⟨rfl, trivial⟩ ⟨s1, r1, rfl, N.mono (by omega), ?_, ⟨os, hos, hs⟩⟩
    rw [Nat.add_zero, Nat.sub_zero] at K
    exact K.fn fun e => by unfold eqF; rw [Nat.mod_eq_of_lt hlt]
end Go.Proofs.Ytfjniocobcoepaa
