/- Facts on the functions and types of this seat that its laws are proved from: contracts under the premises that each theorem names. -/
import Derived.Test.YtfjniocobcoepaaG29
set_option linter.unusedSimpArgs false
set_option linter.unusedVariables false
set_option linter.unnecessarySimpa false
namespace Go.Proofs.Ytfjniocobcoepaa
open Go Go.RowKit PB
set_option linter.unusedVariables false
set_option linter.unusedSimpArgs false

/-- A guard that is not decided. -/
theorem l_gif {P : Program} {Q : Exit → Act → World → Prop} {n : Nat} {Γ : Fr} {ρ : Nat → Value} {ds : List Deferred} {w : World} {l rest : List Oper} {op : Op} {ty : TypeId} {pos : String} {after : Array Edge} {d : Nat} {v : Value} {j t : Nat} {b : Bool}
    (hj' : dstAt l j = some t) (hb : PB.ev n Γ ρ (.tmp t) = .bool b) (h : b = true → Yld P (PB.ev n Γ ρ) op ty w v) (hk : WL P l Q rest (act n ((d, if b = true then v else undef) :: Γ) ρ ds) w) :
    WL P l Q (⟨some d, op, ty, pos, after, some (j, true)⟩ :: rest) (act n Γ ρ ds) w := by
  cases b with
  | true => exact l_gdo hj' hb (h rfl) hk
  | false => exact l_gskip hj' hb hk

theorem y_pk_and {P : Program} {ρ : Operand → Value} {c x y : Operand} {p q : Bool} {ty : TypeId} {w : World} {r : Bool} (hc : ρ c = .bool p) (hx : ρ x = if p = true then .bool q else undef) (hy : ρ y = .bool false) (hr : (p && q) = r) : Yld P ρ (.pick c x y) ty w (.bool r) := by
  subst hr
  cases p with
  | true => exact y_pk_bt hc hx
  | false => exact y_pk_bf hc hy

/-! ### and with a box for its result -/
theorem if_one {s : DS} (h : Inv s) {a : Nat} (ha : a < s.nodes.length) : ifF s a 1 0 = (s, a) := by
  have h2 := h.n2
  have hq := (if_some h ha (b := 1) (c := 0) (by omega) (by omega)).1
  simp only [chooseF] at hq
  by_cases c1 : a = 1
  · subst c1
    simp only [true_or, if_true, Option.some.injEq] at hq
    exact Prod.ext (congrArg Prod.fst hq).symm (congrArg Prod.snd hq).symm
  · by_cases c0 : a = 0
    · subst c0
      have e1 : ¬ ((0 : Nat) = 1 ∨ (1 : Nat) = 0) := by omega
      rw [if_neg e1, if_pos rfl] at hq
      have hq := Option.some.inj hq
      exact Prod.ext (congrArg Prod.fst hq).symm (congrArg Prod.snd hq).symm
    · have e1 : ¬ (a = 1 ∨ (1 : Nat) = 0) := by omega
      rw [if_neg e1, if_neg c0, if_pos ⟨trivial, trivial⟩] at hq
      have hq := Option.some.inj hq
      exact Prod.ext (congrArg Prod.fst hq).symm (congrArg Prod.snd hq).symm
section
variable {s : DS} {a b c : Nat} {f g : (Nat → Bool) → Bool}
theorem and_box (h : Inv s) (h105 : s.vars = 105) (A : Kn s a f) (B : Kn s b g) {x : Bx} (hx : x.ok) (hR : ∀ e, (f e && g e) = decide (x.on e)) :
    Nx s (ifF s a b 0).1 (boxN x) ∧ Kn (ifF s a b 0).1 (ifF s a b 0).2 (fun e => f e && g e) := by
  have hz := if_box h h105 A.lt B.lt (kn0 h).lt hx (fun e => by rw [← hR e]; simp only [iteF]; rw [A.sem, B.sem, ev_0]; cases f e <;> rfl)
  obtain ⟨N, K⟩ := if_n h A B (kn0 h) hz
  exact ⟨N, K.fn fun e => by cases f e <;> rfl⟩

/-! ### within -/
def geF (p j x : Nat) (e : Nat → Bool) : Bool := decide (x % 2 ^ j ≤ numB e p j)
def leF (p j x : Nat) (e : Nat → Bool) : Bool := decide (numB e p j ≤ x % 2 ^ j)
theorem ge_step (p j x : Nat) (e : Nat → Bool) : geF p (j + 1) x e = if x / 2 ^ j % 2 = 1 then (if e p then geF (p + 1) j x e else false) else (if e p then true else geF (p + 1) j x e) := by
  unfold geF
  have h1 := numB_one e p j
  have h2 := numB_lt e (p + 1) j
  have h3 := Nat.mod_lt x (Nat.two_pow_pos j)
  rw [h1, mod_bit]
  have hb : x / 2 ^ j % 2 = 0 ∨ x / 2 ^ j % 2 = 1 := by omega
  generalize 2 ^ j = q at *
  generalize x % q = y at *
  generalize numB e (p + 1) j = z at *
  cases he : e p <;> rcases hb with hb | hb <;> simp [hb] <;> omega
theorem le_step (p j x : Nat) (e : Nat → Bool) : leF p (j + 1) x e = if x / 2 ^ j % 2 = 1 then (if e p then leF (p + 1) j x e else true) else (if e p then false else leF (p + 1) j x e) := by
  unfold leF
  have h1 := numB_one e p j
  have h2 := numB_lt e (p + 1) j
  have h3 := Nat.mod_lt x (Nat.two_pow_pos j)
  rw [h1, mod_bit]
  have hb : x / 2 ^ j % 2 = 0 ∨ x / 2 ^ j % 2 = 1 := by omega
  generalize 2 ^ j = q at *
  generalize x % q = y at *
  generalize numB e (p + 1) j = z at *
  cases he : e p <;> rcases hb with hb | hb <;> simp [hb] <;> omega
/-- The box of one range of ports. -/
def bxR (f : Nat) (np : Bool) (lo hi : Nat) : Bx := if f = 9 then ⟨0, 0, false, np, lo, hi, true, true, 0, 0, 0, 0, 0, 0⟩ else ⟨0, 0, true, true, 0, 0, false, np, lo, hi, 0, 0, 0, 0⟩
theorem bxR_ok (f : Nat) (np : Bool) (lo hi : Nat) : (bxR f np lo hi).ok := by
  unfold bxR; split <;> exact ⟨Nat.zero_le _, Nat.zero_le _, Nat.zero_le _⟩
theorem bxR_n {f : Nat} (np : Bool) (lo hi : Nat) : boxN (bxR f np lo hi) ≤ if np then 32 else 33 := by
  unfold bxR boxN; split <;> cases np <;> simp
theorem bxR_on {f : Nat} (hf : f = 9 ∨ f = 25) (np : Bool) (lo hi : Nat) (e : Nat → Bool) : (bxR f np lo hi).on e ↔ rngP false np f lo hi e := by
  rw [Bx.on_iff]
  rcases hf with rfl | rfl
  · simp [bxR, numB, rngP]
  · simp [bxR, numB, rngP]
theorem within_both (h : Inv s) (h105 : s.vars = 105) {f0 lo hi p ab be : Nat} (hf : f0 = 9 ∨ f0 = 25) (P : Kn s p (fun e => e 8)) (A : Kn s ab (fun e => decide (lo ≤ numB e f0 16))) (B : Kn s be (fun e => decide (numB e f0 16 ≤ hi))) :
    Nx s (bothF s [p, ab, be]).1 65 ∧ Kn (bothF s [p, ab, be]).1 (bothF s [p, ab, be]).2 (fun e => decide (rngP false false f0 lo hi e)) := by
  simp only [bothF, if_one h B.lt]
  obtain ⟨N1, K1⟩ := and_box h h105 A B (x := bxR f0 true lo hi) (bxR_ok ..) (fun e => by
    rw [← Bool.decide_and]; exact decide_eq_decide.2 (by rw [bxR_on hf]; simp [rngP]))
  obtain ⟨N2, K2⟩ := and_box N1.inv (N1.ext.vars.trans h105) (P.up h N1) K1 (x := bxR f0 false lo hi) (bxR_ok ..) (fun e => by
    have : (e 8 && (decide (lo ≤ numB e f0 16) && decide (numB e f0 16 ≤ hi))) = decide (e 8 = true ∧ lo ≤ numB e f0 16 ∧ numB e f0 16 ≤ hi) := by simp
    rw [this]; exact decide_eq_decide.2 (by rw [bxR_on hf]; simp [rngP]))
  have b1 := bxR_n (f := f0) true lo hi
  have b2 := bxR_n (f := f0) false lo hi
  simp only [if_true] at b1
  simp only [Bool.false_eq_true, if_false] at b2
  refine ⟨(N1.trans N2).mono (by omega), K2.fn fun e => ?_⟩
  simp [rngP]
end

theorem within_k {W0 w : World} {M : MB} {mb : Nat} {s : DS} {R : List (Nat × MObj)} {f lo hi : Nat} [im : InL mb (mkO M) R] (I : Inv s) (h105 : s.vars = 105) (hf : f = 9 ∨ f = 25) (hlo : lo ≤ 65535) (hhi : hi ≤ 65535)
    (hn : s.nodes.length + 131 ≤ 60000) (hd : Dg W0 w M s R) :
    FnC Try.prog 63 [mkP mb, I64 f, I64 lo, I64 hi] w (fun x w' => ∃ s' r, x = I64 (r : Nat) ∧ Nx s s' 131 ∧ Kn s' r (fun e => decide (rngP (decide (lo = 0 ∧ hi = 65535)) false f lo hi e)) ∧ Dg W0 w' M s' R) := by
  refine FnC.enter Try.func63 rfl Try.ntmps63 rfl fun ρ => ?_
  by_cases cf : lo = 0 ∧ hi = 65535
  · obtain ⟨c1, c2⟩ := cf
    refine s_seq ?_
    refine s_reg ?_
    refine l_q (by exact y_as_int rfl) ?_
    refine l_end ?_
    refine e_then ?_
    refine s_seq ?_
    refine s_seq ?_
    refine s_reg ?_
    refine l_q (by exact y_mv_int rfl) ?_
    refine l_q (by exact y_eql (r := decide ((lo : Int) = 0)) rfl rfl rfl) ?_
    refine l_q (by exact y_mv_bool rfl) ?_
    refine l_gif (b := decide ((lo : Int) = 0)) rfl rfl (fun h => y_mv_int rfl) ?_
    refine l_gif (b := decide ((lo : Int) = 0)) rfl rfl (fun h => y_eql (a := hi) (r := decide ((hi : Int) = 65535)) (if_pos h) rfl rfl) ?_
    refine l_q (by first | exact y_pk_and (r := true) rfl rfl rfl (by simp; omega) | exact y_pk_and (r := false) rfl rfl rfl (by simp; omega)) ?_
    refine l_end ?_
    refine e_then ?_
    refine cond_t rfl ?_
    refine s_seq ?_
    refine s_reg ?_
    refine l_q (by exact y_as_int rfl) ?_
    refine l_end ?_
    refine e_then ?_
    refine s_ret ?_
    refine e_then_r ?_
    exact ret_ [.int .i64 _] rfl ⟨rfl, trivial⟩ ⟨s, 1, rfl, (Nx.refl I).mono (by omega), (kn1 I).fn (fun e => by simp [rngP, c1, c2]), hd⟩
  rw [decide_eq_false cf]
  refine s_seq ?_
  refine s_reg ?_
  refine l_q (by exact y_as_int rfl) ?_
  refine l_end ?_
  refine e_then ?_
  refine s_seq ?_
  refine s_seq ?_
  refine s_reg ?_
  refine l_q (by exact y_mv_int rfl) ?_
  refine l_q (by exact y_eql (r := decide ((lo : Int) = 0)) rfl rfl rfl) ?_
  refine l_q (by exact y_mv_bool rfl) ?_
  refine l_gif (b := decide ((lo : Int) = 0)) rfl rfl (fun h => y_mv_int rfl) ?_
  refine l_gif (b := decide ((lo : Int) = 0)) rfl rfl (fun h => y_eql (a := hi) (r := decide ((hi : Int) = 65535)) (if_pos h) rfl rfl) ?_
  refine l_q (by first | exact y_pk_and (r := true) rfl rfl rfl (by simp; omega) | exact y_pk_and (r := false) rfl rfl rfl (by simp; omega)) ?_
  refine l_end ?_
  refine e_then ?_
  refine cond_f rfl ?_
  refine s_skip ?_
  refine e_then ?_
  refine s_seq ?_
  refine s_reg ?_
  refine l_q (by exact y_as_int rfl) ?_
  refine l_q (by exact y_as_int rfl) ?_
  refine l_end ?_
  refine e_then ?_
  refine s_seq ?_
  refine s_seq ?_
  refine s_reg ?_
  refine l_q (by exact y_as_int rfl) ?_
  refine l_end ?_
  refine e_then ?_
  refine s_block ?_
  refine loop_st (X := Nat × DS × Nat × Nat) (fun y => [(0, mkP mb), (1, I64 f), (2, I64 lo), (3, I64 hi), (9, I64 (y.2.2.1 : Nat)), (10, I64 (y.2.2.2 : Nat)), (11, I64 ((y.1 : Int) - 1))])
    (fun y w => y.1 ≤ 16 ∧ Nx s y.2.1 (4 * (16 - y.1)) ∧ Kv y.2.1 y.2.2.1 (f + y.1) (geF (f + y.1) (16 - y.1) lo) ∧ Kv y.2.1 y.2.2.2 (f + y.1) (leF (f + y.1) (16 - y.1) hi) ∧ Dg W0 w M y.2.1 R) (fun y => y.1) (16, s, 1, 1) ⟨rfl, rfl, rfl, rfl, rfl, rfl, rfl, trivial⟩
    ⟨Nat.le_refl _, Nx.refl I, (kv1 I _ (by omega)).fn (fun e => by simp [geF, numB, Nat.mod_one]), (kv1 I _ (by omega)).fn (fun e => by simp [leF, numB, Nat.mod_one]), hd⟩ ?_
  clear hd
  rintro ⟨k, s1, ra, rb⟩ ρ w ⟨hk, N, A, B, hd⟩
  dsimp only at hk N A B hd ⊢
  obtain ⟨os, hos, hs⟩ := hd.ex
  have hv1 := N.ext.vars.trans h105
  have hc1 := N.cnt
  by_cases c : 0 < k
  · have A' : Kv s1 ra (f + (k - 1) + 1) (geF (f + k) (16 - k) lo) := by rw [show f + (k - 1) + 1 = f + k by omega]; exact A
    have B' : Kv s1 rb (f + (k - 1) + 1) (leF (f + k) (16 - k) hi) := by rw [show f + (k - 1) + 1 = f + k by omega]; exact B
    have hge := ge_step (f + (k - 1)) (16 - k) lo
    have hle := le_step (f + (k - 1)) (16 - k) hi
    rw [show f + (k - 1) + 1 = f + k by omega, show 16 - k + 1 = 16 - (k - 1) by omega] at hge hle
    have hd1 : lo / 2 ^ (16 - k) ≤ lo := Nat.div_le_self _ _
    have hd2 : hi / 2 ^ (16 - k) ≤ hi := Nat.div_le_self _ _
    by_cases ca : lo / 2 ^ (16 - k) % 2 = 1
    · by_cases cb : hi / 2 ^ (16 - k) % 2 = 1
      · refine s_seq ?_
        refine s_seq ?_
        refine s_reg ?_
        refine l_q (by exact y_mv_int rfl) ?_
        refine l_q (by first | exact y_geq rfl rfl (decide_eq_true (by omega)) | exact y_geq rfl rfl (decide_eq_false (by omega)) | exact y_geq rfl rfl rfl) ?_
        refine l_q (by exact y_mv_bool rfl) ?_
        first | refine l_gskip rfl rfl ?_ | refine l_gskip_u rfl rfl ?_ | refine l_gdo rfl rfl (by exact y_mv_ptr rfl) ?_
        first | refine l_gskip rfl rfl ?_ | refine l_gskip_u rfl rfl ?_ | refine l_gdo rfl rfl (by first | exact y_nil rfl | exact y_nilf rfl) ?_
        first | refine l_gskip rfl rfl ?_ | refine l_gskip_u rfl rfl ?_ | refine l_gdo rfl rfl (by exact y_field rfl) ?_
        first | refine l_gskip rfl rfl ?_ | refine l_gskip_u rfl rfl ?_ | refine l_gdo rfl rfl (by exact y_ld hs rfl rfl) ?_
        first | refine l_gskip rfl rfl ?_ | refine l_gskip_u rfl rfl ?_ | refine l_gdo rfl rfl (by first | exact y_eql rfl rfl (decide_eq_true (by omega)) | exact y_eql rfl rfl (decide_eq_false (by omega)) | exact y_eql rfl rfl rfl) ?_
        refine l_q (by first | exact y_pk_bt rfl rfl | exact y_pk_bf rfl rfl) ?_
        refine l_end ?_
        refine e_then ?_
        refine cond_t rfl ?_
        refine s_skip ?_
        refine e_then ?_
        refine s_seq ?_
        refine s_block ?_
        refine s_seq ?_
        refine s_seq ?_
        refine s_reg ?_
        refine l_q (by exact y_mv_int rfl) ?_
        refine l_q (by exact y_mv_int rfl) ?_
        refine l_q (by first | exact y_subn rfl rfl (by omega) | exact y_sub rfl rfl rfl) ?_
        refine l_q (by exact y_shrn (n := lo) (k := 16 - k) rfl rfl (by omega) (by omega)) ?_
        refine l_q (by exact y_and1 (n := lo / 2 ^ (16 - k)) rfl rfl (by omega)) ?_
        refine l_q (by first | exact y_eql rfl rfl (decide_eq_true (by omega)) | exact y_eql rfl rfl (decide_eq_false (by omega)) | exact y_eql rfl rfl rfl) ?_
        refine l_end ?_
        refine e_then ?_
        refine cond_t rfl ?_
        refine s_reg ?_
        refine l_q (by exact y_mv_ptr rfl) ?_
        refine l_q (by exact y_mv_int rfl) ?_
        refine l_q (by exact y_mv_int rfl) ?_
        refine l_q (by exact y_toInt (b := ((f + (k - 1) : Nat) : Int)) (y_addn rfl rfl (by omega)) (by omega)) ?_
        refine l_q (by exact y_mv_int rfl) ?_
        refine l_w (w_call rfl (bit_k N.inv hv1 (v := f + (k - 1)) (by omega) (kv0 N.inv _ (by omega)) A' (by omega) ⟨os, hos, hs⟩) rfl (fun _ w h => ?_))
        obtain ⟨s2, r2, rfl, N2, A2, hd⟩ := h; replace B' := B'.up N.inv N2; have hc2 := N2.cnt; have hv2 := N2.ext.vars
        refine l_q (by exact y_as_int rfl) ?_
        refine l_end ?_
        refine e_then ?_
        refine s_seq ?_
        refine s_reg ?_
        refine l_q (by exact y_mv_int rfl) ?_
        refine l_q (by exact y_mv_int rfl) ?_
        refine l_q (by first | exact y_subn rfl rfl (by omega) | exact y_sub rfl rfl rfl) ?_
        refine l_q (by exact y_shrn (n := hi) (k := 16 - k) rfl rfl (by omega) (by omega)) ?_
        refine l_q (by exact y_and1 (n := hi / 2 ^ (16 - k)) rfl rfl (by omega)) ?_
        refine l_q (by first | exact y_eql rfl rfl (decide_eq_true (by omega)) | exact y_eql rfl rfl (decide_eq_false (by omega)) | exact y_eql rfl rfl rfl) ?_
        refine l_end ?_
        refine e_then ?_
        refine cond_t rfl ?_
        refine s_reg ?_
        refine l_q (by exact y_mv_ptr rfl) ?_
        refine l_q (by exact y_mv_int rfl) ?_
        refine l_q (by exact y_mv_int rfl) ?_
        refine l_q (by exact y_toInt (b := ((f + (k - 1) : Nat) : Int)) (y_addn rfl rfl (by omega)) (by omega)) ?_
        refine l_q (by exact y_mv_int rfl) ?_
        refine l_w (w_call rfl (bit_k N2.inv (hv2.trans hv1) (v := f + (k - 1)) (by omega) (kv1 N2.inv _ (by omega)) B' (by omega) hd) rfl (fun _ w h => ?_))
        obtain ⟨s3, r3, rfl, N3, B3, hd⟩ := h; replace A2 := A2.up N2.inv N3
        refine l_q (by exact y_as_int rfl) ?_
        refine l_end ?_
        refine e_blk ?_
        refine e_then ?_
        refine s_reg ?_
        refine l_q (by exact y_mv_int rfl) ?_
        refine l_q (by exact y_toInt (b := ((k - 1 : Nat) : Int) - 1) (y_subn rfl rfl (by omega)) (by omega)) ?_
        refine l_q (by exact y_as_int rfl) ?_
        refine l_end ?_
        refine e_then ?_
        refine ⟨(k - 1, s3, r2, r3), _, nx ⟨rfl, rfl, rfl, rfl, rfl, rfl, rfl, trivial⟩, ⟨by dsimp only; omega, ((N.trans N2).trans N3).mono (by dsimp only; omega), A2.fn fun e => by rw [hge, if_pos ca], B3.fn fun e => by rw [hle, if_pos cb], hd⟩, by dsimp only; omega⟩
      · refine s_seq ?_
        refine s_seq ?_
        refine s_reg ?_
        refine l_q (by exact y_mv_int rfl) ?_
        refine l_q (by first | exact y_geq rfl rfl (decide_eq_true (by omega)) | exact y_geq rfl rfl (decide_eq_false (by omega)) | exact y_geq rfl rfl rfl) ?_
        refine l_q (by exact y_mv_bool rfl) ?_
        first | refine l_gskip rfl rfl ?_ | refine l_gskip_u rfl rfl ?_ | refine l_gdo rfl rfl (by exact y_mv_ptr rfl) ?_
        first | refine l_gskip rfl rfl ?_ | refine l_gskip_u rfl rfl ?_ | refine l_gdo rfl rfl (by first | exact y_nil rfl | exact y_nilf rfl) ?_
        first | refine l_gskip rfl rfl ?_ | refine l_gskip_u rfl rfl ?_ | refine l_gdo rfl rfl (by exact y_field rfl) ?_
        first | refine l_gskip rfl rfl ?_ | refine l_gskip_u rfl rfl ?_ | refine l_gdo rfl rfl (by exact y_ld hs rfl rfl) ?_
        first | refine l_gskip rfl rfl ?_ | refine l_gskip_u rfl rfl ?_ | refine l_gdo rfl rfl (by first | exact y_eql rfl rfl (decide_eq_true (by omega)) | exact y_eql rfl rfl (decide_eq_false (by omega)) | exact y_eql rfl rfl rfl) ?_
        refine l_q (by first | exact y_pk_bt rfl rfl | exact y_pk_bf rfl rfl) ?_
        refine l_end ?_
        refine e_then ?_
        refine cond_t rfl ?_
        refine s_skip ?_
        refine e_then ?_
        refine s_seq ?_
        refine s_block ?_
        refine s_seq ?_
        refine s_seq ?_
        refine s_reg ?_
        refine l_q (by exact y_mv_int rfl) ?_
        refine l_q (by exact y_mv_int rfl) ?_
        refine l_q (by first | exact y_subn rfl rfl (by omega) | exact y_sub rfl rfl rfl) ?_
        refine l_q (by exact y_shrn (n := lo) (k := 16 - k) rfl rfl (by omega) (by omega)) ?_
        refine l_q (by exact y_and1 (n := lo / 2 ^ (16 - k)) rfl rfl (by omega)) ?_
        refine l_q (by first | exact y_eql rfl rfl (decide_eq_true (by omega)) | exact y_eql rfl rfl (decide_eq_false (by omega)) | exact y_eql rfl rfl rfl) ?_
        refine l_end ?_
        refine e_then ?_
        refine cond_t rfl ?_
        refine s_reg ?_
        refine l_q (by exact y_mv_ptr rfl) ?_
        refine l_q (by exact y_mv_int rfl) ?_
        refine l_q (by exact y_mv_int rfl) ?_
        refine l_q (by exact y_toInt (b := ((f + (k - 1) : Nat) : Int)) (y_addn rfl rfl (by omega)) (by omega)) ?_
        refine l_q (by exact y_mv_int rfl) ?_
        refine l_w (w_call rfl (bit_k N.inv hv1 (v := f + (k - 1)) (by omega) (kv0 N.inv _ (by omega)) A' (by omega) ⟨os, hos, hs⟩) rfl (fun _ w h => ?_))
        obtain ⟨s2, r2, rfl, N2, A2, hd⟩ := h; replace B' := B'.up N.inv N2; have hc2 := N2.cnt; have hv2 := N2.ext.vars
        refine l_q (by exact y_as_int rfl) ?_
        refine l_end ?_
        refine e_then ?_
        refine s_seq ?_
        refine s_reg ?_
        refine l_q (by exact y_mv_int rfl) ?_
        refine l_q (by exact y_mv_int rfl) ?_
        refine l_q (by first | exact y_subn rfl rfl (by omega) | exact y_sub rfl rfl rfl) ?_
        refine l_q (by exact y_shrn (n := hi) (k := 16 - k) rfl rfl (by omega) (by omega)) ?_
        refine l_q (by exact y_and1 (n := hi / 2 ^ (16 - k)) rfl rfl (by omega)) ?_
        refine l_q (by first | exact y_eql rfl rfl (decide_eq_true (by omega)) | exact y_eql rfl rfl (decide_eq_false (by omega)) | exact y_eql rfl rfl rfl) ?_
        refine l_end ?_
        refine e_then ?_
        refine cond_f rfl ?_
        refine s_reg ?_
        refine l_q (by exact y_mv_ptr rfl) ?_
        refine l_q (by exact y_mv_int rfl) ?_
        refine l_q (by exact y_mv_int rfl) ?_
        refine l_q (by exact y_toInt (b := ((f + (k - 1) : Nat) : Int)) (y_addn rfl rfl (by omega)) (by omega)) ?_
        refine l_q (by exact y_mv_int rfl) ?_
        refine l_w (w_call rfl (bit_k N2.inv (hv2.trans hv1) (v := f + (k - 1)) (by omega) B' (kv0 N2.inv _ (by omega)) (by omega) hd) rfl (fun _ w h => ?_))
        obtain ⟨s3, r3, rfl, N3, B3, hd⟩ := h; replace A2 := A2.up N2.inv N3
        refine l_q (by exact y_as_int rfl) ?_
        refine l_end ?_
        refine e_blk ?_
        refine e_then ?_
        refine s_reg ?_
        refine l_q (by exact y_mv_int rfl) ?_
        refine l_q (by exact y_toInt (b := ((k - 1 : Nat) : Int) - 1) (y_subn rfl rfl (by omega)) (by omega)) ?_
        refine l_q (by exact y_as_int rfl) ?_
        refine l_end ?_
        refine e_then ?_
        refine ⟨(k - 1, s3, r2, r3), _, nx ⟨rfl, rfl, rfl, rfl, rfl, rfl, rfl, trivial⟩, ⟨by dsimp only; omega, ((N.trans N2).trans N3).mono (by dsimp only; omega), A2.fn fun e => by rw [hge, if_pos ca], B3.fn fun e => by rw [hle, if_neg cb], hd⟩, by dsimp only; omega⟩
    · by_cases cb : hi / 2 ^ (16 - k) % 2 = 1
      · refine s_seq ?_
        refine s_seq ?_
        refine s_reg ?_
        refine l_q (by exact y_mv_int rfl) ?_
        refine l_q (by first | exact y_geq rfl rfl (decide_eq_true (by omega)) | exact y_geq rfl rfl (decide_eq_false (by omega)) | exact y_geq rfl rfl rfl) ?_
        refine l_q (by exact y_mv_bool rfl) ?_
        first | refine l_gskip rfl rfl ?_ | refine l_gskip_u rfl rfl ?_ | refine l_gdo rfl rfl (by exact y_mv_ptr rfl) ?_
        first | refine l_gskip rfl rfl ?_ | refine l_gskip_u rfl rfl ?_ | refine l_gdo rfl rfl (by first | exact y_nil rfl | exact y_nilf rfl) ?_
        first | refine l_gskip rfl rfl ?_ | refine l_gskip_u rfl rfl ?_ | refine l_gdo rfl rfl (by exact y_field rfl) ?_
        first | refine l_gskip rfl rfl ?_ | refine l_gskip_u rfl rfl ?_ | refine l_gdo rfl rfl (by exact y_ld hs rfl rfl) ?_
        first | refine l_gskip rfl rfl ?_ | refine l_gskip_u rfl rfl ?_ | refine l_gdo rfl rfl (by first | exact y_eql rfl rfl (decide_eq_true (by omega)) | exact y_eql rfl rfl (decide_eq_false (by omega)) | exact y_eql rfl rfl rfl) ?_
        refine l_q (by first | exact y_pk_bt rfl rfl | exact y_pk_bf rfl rfl) ?_
        refine l_end ?_
        refine e_then ?_
        refine cond_t rfl ?_
        refine s_skip ?_
        refine e_then ?_
        refine s_seq ?_
        refine s_block ?_
        refine s_seq ?_
        refine s_seq ?_
        refine s_reg ?_
        refine l_q (by exact y_mv_int rfl) ?_
        refine l_q (by exact y_mv_int rfl) ?_
        refine l_q (by first | exact y_subn rfl rfl (by omega) | exact y_sub rfl rfl rfl) ?_
        refine l_q (by exact y_shrn (n := lo) (k := 16 - k) rfl rfl (by omega) (by omega)) ?_
        refine l_q (by exact y_and1 (n := lo / 2 ^ (16 - k)) rfl rfl (by omega)) ?_
        refine l_q (by first | exact y_eql rfl rfl (decide_eq_true (by omega)) | exact y_eql rfl rfl (decide_eq_false (by omega)) | exact y_eql rfl rfl rfl) ?_
        refine l_end ?_
        refine e_then ?_
        refine cond_f rfl ?_
        refine s_reg ?_
        refine l_q (by exact y_mv_ptr rfl) ?_
        refine l_q (by exact y_mv_int rfl) ?_
        refine l_q (by exact y_mv_int rfl) ?_
        refine l_q (by exact y_toInt (b := ((f + (k - 1) : Nat) : Int)) (y_addn rfl rfl (by omega)) (by omega)) ?_
        refine l_q (by exact y_mv_int rfl) ?_
        refine l_w (w_call rfl (bit_k N.inv hv1 (v := f + (k - 1)) (by omega) A' (kv1 N.inv _ (by omega)) (by omega) ⟨os, hos, hs⟩) rfl (fun _ w h => ?_))
        obtain ⟨s2, r2, rfl, N2, A2, hd⟩ := h; replace B' := B'.up N.inv N2; have hc2 := N2.cnt; have hv2 := N2.ext.vars
        refine l_q (by exact y_as_int rfl) ?_
        refine l_end ?_
        refine e_then ?_
        refine s_seq ?_
        refine s_reg ?_
        refine l_q (by exact y_mv_int rfl) ?_
        refine l_q (by exact y_mv_int rfl) ?_
        refine l_q (by first | exact y_subn rfl rfl (by omega) | exact y_sub rfl rfl rfl) ?_
        refine l_q (by exact y_shrn (n := hi) (k := 16 - k) rfl rfl (by omega) (by omega)) ?_
        refine l_q (by exact y_and1 (n := hi / 2 ^ (16 - k)) rfl rfl (by omega)) ?_
        refine l_q (by first | exact y_eql rfl rfl (decide_eq_true (by omega)) | exact y_eql rfl rfl (decide_eq_false (by omega)) | exact y_eql rfl rfl rfl) ?_
        refine l_end ?_
        refine e_then ?_
        refine cond_t rfl ?_
        refine s_reg ?_
        refine l_q (by exact y_mv_ptr rfl) ?_
        refine l_q (by exact y_mv_int rfl) ?_
        refine l_q (by exact y_mv_int rfl) ?_
        refine l_q (by exact y_toInt (b := ((f + (k - 1) : Nat) : Int)) (y_addn rfl rfl (by omega)) (by omega)) ?_
        refine l_q (by exact y_mv_int rfl) ?_
        refine l_w (w_call rfl (bit_k N2.inv (hv2.trans hv1) (v := f + (k - 1)) (by omega) (kv1 N2.inv _ (by omega)) B' (by omega) hd) rfl (fun _ w h => ?_))
        obtain ⟨s3, r3, rfl, N3, B3, hd⟩ := h; replace A2 := A2.up N2.inv N3
        refine l_q (by exact y_as_int rfl) ?_
        refine l_end ?_
        refine e_blk ?_
        refine e_then ?_
        refine s_reg ?_
        refine l_q (by exact y_mv_int rfl) ?_
        refine l_q (by exact y_toInt (b := ((k - 1 : Nat) : Int) - 1) (y_subn rfl rfl (by omega)) (by omega)) ?_
        refine l_q (by exact y_as_int rfl) ?_
        refine l_end ?_
        refine e_then ?_
        refine ⟨(k - 1, s3, r2, r3), _, nx ⟨rfl, rfl, rfl, rfl, rfl, rfl, rfl, trivial⟩, ⟨by dsimp only; omega, ((N.trans N2).trans N3).mono (by dsimp only; omega), A2.fn fun e => by rw [hge, if_neg ca], B3.fn fun e => by rw [hle, if_pos cb], hd⟩, by dsimp only; omega⟩
      · refine s_seq ?_
        refine s_seq ?_
        refine s_reg ?_
        refine l_q (by exact y_mv_int rfl) ?_
        refine l_q (by first | exact y_geq rfl rfl (decide_eq_true (by omega)) | exact y_geq rfl rfl (decide_eq_false (by omega)) | exact y_geq rfl rfl rfl) ?_
        refine l_q (by exact y_mv_bool rfl) ?_
        first | refine l_gskip rfl rfl ?_ | refine l_gskip_u rfl rfl ?_ | refine l_gdo rfl rfl (by exact y_mv_ptr rfl) ?_
        first | refine l_gskip rfl rfl ?_ | refine l_gskip_u rfl rfl ?_ | refine l_gdo rfl rfl (by first | exact y_nil rfl | exact y_nilf rfl) ?_
        first | refine l_gskip rfl rfl ?_ | refine l_gskip_u rfl rfl ?_ | refine l_gdo rfl rfl (by exact y_field rfl) ?_
        first | refine l_gskip rfl rfl ?_ | refine l_gskip_u rfl rfl ?_ | refine l_gdo rfl rfl (by exact y_ld hs rfl rfl) ?_
        first | refine l_gskip rfl rfl ?_ | refine l_gskip_u rfl rfl ?_ | refine l_gdo rfl rfl (by first | exact y_eql rfl rfl (decide_eq_true (by omega)) | exact y_eql rfl rfl (decide_eq_false (by omega)) | exact y_eql rfl rfl rfl) ?_
        refine l_q (by first | exact y_pk_bt rfl rfl | exact y_pk_bf rfl rfl) ?_
        refine l_end ?_
        refine e_then ?_
        refine cond_t rfl ?_
        refine s_skip ?_
        refine e_then ?_
        refine s_seq ?_
        refine s_block ?_
        refine s_seq ?_
        refine s_seq ?_
        refine s_reg ?_
        refine l_q (by exact y_mv_int rfl) ?_
        refine l_q (by exact y_mv_int rfl) ?_
        refine l_q (by first | exact y_subn rfl rfl (by omega) | exact y_sub rfl rfl rfl) ?_
        refine l_q (by exact y_shrn (n := lo) (k := 16 - k) rfl rfl (by omega) (by omega)) ?_
        refine l_q (by exact y_and1 (n := lo / 2 ^ (16 - k)) rfl rfl (by omega)) ?_
        refine l_q (by first | exact y_eql rfl rfl (decide_eq_true (by omega)) | exact y_eql rfl rfl (decide_eq_false (by omega)) | exact y_eql rfl rfl rfl) ?_
        refine l_end ?_
        refine e_then ?_
        refine cond_f rfl ?_
        refine s_reg ?_
        refine l_q (by exact y_mv_ptr rfl) ?_
        refine l_q (by exact y_mv_int rfl) ?_
        refine l_q (by exact y_mv_int rfl) ?_
        refine l_q (by exact y_toInt (b := ((f + (k - 1) : Nat) : Int)) (y_addn rfl rfl (by omega)) (by omega)) ?_
        refine l_q (by exact y_mv_int rfl) ?_
        refine l_w (w_call rfl (bit_k N.inv hv1 (v := f + (k - 1)) (by omega) A' (kv1 N.inv _ (by omega)) (by omega) ⟨os, hos, hs⟩) rfl (fun _ w h => ?_))
        obtain ⟨s2, r2, rfl, N2, A2, hd⟩ := h; replace B' := B'.up N.inv N2; have hc2 := N2.cnt; have hv2 := N2.ext.vars
        refine l_q (by exact y_as_int rfl) ?_
        refine l_end ?_
        refine e_then ?_
        refine s_seq ?_
        refine s_reg ?_
        refine l_q (by exact y_mv_int rfl) ?_
        refine l_q (by exact y_mv_int rfl) ?_
        refine l_q (by first | exact y_subn rfl rfl (by omega) | exact y_sub rfl rfl rfl) ?_
        refine l_q (by exact y_shrn (n := hi) (k := 16 - k) rfl rfl (by omega) (by omega)) ?_
        refine l_q (by exact y_and1 (n := hi / 2 ^ (16 - k)) rfl rfl (by omega)) ?_
        refine l_q (by first | exact y_eql rfl rfl (decide_eq_true (by omega)) | exact y_eql rfl rfl (decide_eq_false (by omega)) | exact y_eql rfl rfl rfl) ?_
        refine l_end ?_
        refine e_then ?_
        refine cond_f rfl ?_
        refine s_reg ?_
        refine l_q (by exact y_mv_ptr rfl) ?_
        refine l_q (by exact y_mv_int rfl) ?_
        refine l_q (by exact y_mv_int rfl) ?_
        refine l_q (by exact y_toInt (b := ((f + (k - 1) : Nat) : Int)) (y_addn rfl rfl (by omega)) (by omega)) ?_
        refine l_q (by exact y_mv_int rfl) ?_
        refine l_w (w_call rfl (bit_k N2.inv (hv2.trans hv1) (v := f + (k - 1)) (by omega) B' (kv0 N2.inv _ (by omega)) (by omega) hd) rfl (fun _ w h => ?_))
        obtain ⟨s3, r3, rfl, N3, B3, hd⟩ := h; replace A2 := A2.up N2.inv N3
        refine l_q (by exact y_as_int rfl) ?_
        refine l_end ?_
        refine e_blk ?_
        refine e_then ?_
        refine s_reg ?_
        refine l_q (by exact y_mv_int rfl) ?_
        refine l_q (by exact y_toInt (b := ((k - 1 : Nat) : Int) - 1) (y_subn rfl rfl (by omega)) (by omega)) ?_
        refine l_q (by exact y_as_int rfl) ?_
        refine l_end ?_
        refine e_then ?_
        refine ⟨(k - 1, s3, r2, r3), _, nx ⟨rfl, rfl, rfl, rfl, rfl, rfl, rfl, trivial⟩, ⟨by dsimp only; omega, ((N.trans N2).trans N3).mono (by dsimp only; omega), A2.fn fun e => by rw [hge, if_neg ca], B3.fn fun e => by rw [hle, if_neg cb], hd⟩, by dsimp only; omega⟩
  · have k0 : k = 0 := by omega
    subst k0
    rw [Nat.add_zero, Nat.sub_zero] at A B
    have A' : Kn s1 ra (fun e => decide (lo ≤ numB e f 16)) := A.toKn.fn fun e => by unfold geF; rw [Nat.mod_eq_of_lt (by omega)]
    have B' : Kn s1 rb (fun e => decide (numB e f 16 ≤ hi)) := B.toKn.fn fun e => by unfold leF; rw [Nat.mod_eq_of_lt (by omega)]
    refine s_seq ?_
    refine s_seq ?_
    refine s_reg ?_
    refine l_q (by exact y_mv_int rfl) ?_
    refine l_q (by first | exact y_geq rfl rfl (decide_eq_true (by omega)) | exact y_geq rfl rfl (decide_eq_false (by omega)) | exact y_geq rfl rfl rfl) ?_
    refine l_q (by exact y_mv_bool rfl) ?_
    first | refine l_gskip rfl rfl ?_ | refine l_gskip_u rfl rfl ?_ | refine l_gdo rfl rfl (by exact y_mv_ptr rfl) ?_
    first | refine l_gskip rfl rfl ?_ | refine l_gskip_u rfl rfl ?_ | refine l_gdo rfl rfl (by first | exact y_nil rfl | exact y_nilf rfl) ?_
    first | refine l_gskip rfl rfl ?_ | refine l_gskip_u rfl rfl ?_ | refine l_gdo rfl rfl (by exact y_field rfl) ?_
    first | refine l_gskip rfl rfl ?_ | refine l_gskip_u rfl rfl ?_ | refine l_gdo rfl rfl (by exact y_ld hs rfl rfl) ?_
    first | refine l_gskip rfl rfl ?_ | refine l_gskip_u rfl rfl ?_ | refine l_gdo rfl rfl (by first | exact y_eql rfl rfl (decide_eq_true (by omega)) | exact y_eql rfl rfl (decide_eq_false (by omega)) | exact y_eql rfl rfl rfl) ?_
    refine l_q (by first | exact y_pk_bt rfl rfl | exact y_pk_bf rfl rfl) ?_
    refine l_end ?_
    refine e_then ?_
    refine cond_f rfl ?_
    refine s_exit ?_
    refine e_then_x ?_
    refine e_then_x ?_
    refine e_blk_x ?_
    refine e_then ?_
    refine s_seq ?_
    refine s_reg ?_
    refine l_q (by exact y_mv_ptr rfl) ?_
    refine l_q (by exact y_mv_ptr rfl) ?_
    refine l_w (w_call rfl (bit_k N.inv hv1 (v := 8) (by omega) (kv0 N.inv _ (by omega)) (kv1 N.inv _ (by omega)) (by omega) ⟨os, hos, hs⟩) rfl (fun _ w h => ?_))
    obtain ⟨s2, r2, rfl, N2, P2, hd⟩ := h; obtain ⟨os, hos, hs⟩ := hd.ex; have A2 := A'.up N.inv N2; have B2 := B'.up N.inv N2; obtain ⟨NB, KB⟩ := within_both N2.inv (N2.ext.vars.trans hv1) hf (P2.toKn.fn (g := fun e => e 8) (fun e => by cases e 8 <;> rfl)) A2 B2
    refine l_q (by exact y_mv_int rfl) ?_
    refine l_q (by exact y_mv_int rfl) ?_
    refine l_w (w_buildSlice (pv := [(0, .int .i64 _), (1, .int .i64 _), (2, .int .i64 _)]) (vs := [_, _, _]) hs rfl rfl rfl rfl (fun b70 w hs hb70 => ?_))
    refine l_w (w_call rfl (both_c (bb := b70) [r2, ra, rb] N2.inv (lt3 P2.lt A2.lt B2.lt) (by simp) (by have := NB.cnt; have := N2.cnt; omega) ⟨os, hos, stB_rotN (Q := [_]) hs⟩) rfl (fun _ w h => ?_))
    obtain ⟨rfl, hd⟩ := h
    refine l_q (by exact y_as_int rfl) ?_
    refine l_end ?_
    refine e_then ?_
    refine s_ret ?_
    exact ret_ [.int .i64 _] rfl ⟨rfl, trivial⟩ ⟨_, _, rfl, ((N.trans N2).trans NB).mono (by omega), KB, hd.sub (.cons _ (List.Sublist.refl _))⟩
end Go.Proofs.Ytfjniocobcoepaa
