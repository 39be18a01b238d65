/- Facts on the functions and types of this seat that its laws are proved from: contracts under the premises that each theorem names. -/
import Derived.Test.YtfjniocobcoepaaG34
set_option linter.unusedSimpArgs false
set_option linter.unusedVariables false
set_option linter.unnecessarySimpa false
namespace Go.Proofs.Ytfjniocobcoepaa
open Go Go.RowKit PB
set_option linter.unusedVariables false
set_option linter.unusedSimpArgs false

/-! ### real -/
theorem proto2_of : Of 2 (addP 0 fun _ => bxP 0) (fun e => decide (numB e 0 8 = 6 ∨ numB e 0 8 = 17)) := ⟨fun e e' h => by
  have h6 := h 0 (by decide)
  have h17 := h 1 (by decide)
  rw [addP_6, bxP_on, bxP_on] at h6
  rw [addP_17, bxP_on, bxP_on] at h17
  exact decide_eq_decide.2 (by rw [h6, h17])⟩
theorem proto2_bxs : Bxs 2 (addP 0 fun _ => bxP 0) := addP_bxs ⟨fun i hi => by omega, fun i hi => by omega, fun i hi => by omega, fun i hi => by omega⟩
section
variable {s : DS} {a b c : Nat}
theorem or_proto (h : Inv s) (h105 : s.vars = 105) (A : Kn s a (fun e => decide (numB e 0 8 = 6))) (B : Kn s b (fun e => decide (numB e 0 8 = 17))) :
    Nx s (ifF s a 1 b).1 859 ∧ Kn (ifF s a 1 b).1 (ifF s a 1 b).2 (fun e => decide (numB e 0 8 = 6 ∨ numB e 0 8 = 17)) := by
  have hfn : ∀ e, (if decide (numB e 0 8 = 6) = true then true else decide (numB e 0 8 = 17)) = decide (numB e 0 8 = 6 ∨ numB e 0 8 = 17) := fun e => by
    by_cases q : numB e 0 8 = 6 <;> simp [q]
  obtain ⟨N, K⟩ := if_bd (n := 2) h h105 (by decide) proto2_bxs A (kn1 h) B ⟨fun e e' he => by rw [hfn, hfn]; exact proto2_of.of e e' he⟩
  exact ⟨N, K.fn hfn⟩
theorem no_ports (h : Inv s) (h105 : s.vars = 105) (F : Kn s a (fun e => decide (numB e 9 16 = 0))) (T : Kn s b (fun e => decide (numB e 25 16 = 0))) :
    Nx s (bothF s [a, b]).1 64 ∧ Kn (bothF s [a, b]).1 (bothF s [a, b]).2 (fun e => decide (numB e 9 16 = 0 ∧ numB e 25 16 = 0)) := by
  simp only [bothF, if_one h T.lt]
  have hfn : ∀ e, (decide (numB e 9 16 = 0) && decide (numB e 25 16 = 0)) = decide (numB e 9 16 = 0 ∧ numB e 25 16 = 0) := fun e => by rw [← Bool.decide_and]
  obtain ⟨N, K⟩ := and_box h h105 F T (x := ⟨0, 0, false, true, 0, 0, false, true, 0, 0, 0, 0, 0, 0⟩) ⟨Nat.zero_le _, Nat.zero_le _, Nat.zero_le _⟩ (fun e => by
    have z : ∀ f, numB e f 0 = 0 := fun _ => rfl
    rw [hfn]; exact decide_eq_decide.2 (by rw [Bx.on_iff]; simp [rngP, z]))
  exact ⟨N.mono (by decide), K.fn hfn⟩
theorem real_if (h : Inv s) (h105 : s.vars = 105) (P : Kn s a (fun e => e 8)) (Y : Kn s b (fun e => decide (numB e 0 8 = 6 ∨ numB e 0 8 = 17))) (Z : Kn s c (fun e => decide (numB e 9 16 = 0 ∧ numB e 25 16 = 0))) :
    Nx s (ifF s a b c).1 123 ∧ Kn (ifF s a b c).1 (ifF s a b c).2 (fun e => decide (realP e)) := by
  have hfn : ∀ e : Nat → Bool, (if e 8 = true then decide (numB e 0 8 = 6 ∨ numB e 0 8 = 17) else decide (numB e 9 16 = 0 ∧ numB e 25 16 = 0)) = decide (realP e) := fun e => by
    unfold realP
    by_cases q : e 8 = true <;> simp [q]
  have hz := if_real (n := 0) (B := fun _ => bxP 0) h h105 P.lt Y.lt Z.lt (kn1 h) ⟨fun i hi => by omega, fun i hi => by omega, fun i hi => by omega, fun i hi => by omega⟩ ⟨fun _ _ _ => rfl⟩
    (fun e => by simp only [iteF]; rw [P.sem, Y.sem, Z.sem, hfn, Bool.true_and])
  obtain ⟨N, K⟩ := if_n h P Y Z hz
  exact ⟨N, K.fn hfn⟩
end
theorem real_k {W0 w : World} {M : MB} {mb : Nat} {s : DS} {R : List (Nat × MObj)} [im : InL mb (mkO M) R] (I : Inv s) (h105 : s.vars = 105) (hn : s.nodes.length + 1144 ≤ 60000) (hd : Dg W0 w M s R) :
    FnC Try.prog 55 [mkP mb] w (fun x w' => ∃ s' r, x = I64 (r : Nat) ∧ Nx s s' 1144 ∧ Kn s' r (fun e => decide (realP e)) ∧ Dg W0 w' M s' R) := by
  obtain ⟨os, hos, hs⟩ := hd.ex
  refine FnC.enter Try.func55 rfl Try.ntmps55 rfl fun ρ => ?_
  refine s_seq ?_
  refine s_reg ?_
  refine l_q (by exact y_as_int rfl) ?_
  refine l_end ?_
  refine e_then ?_
  refine s_seq ?_
  refine r_draw (.q 0 (.q 1 (.q 2 (.q 3 (.q 4 (.q 5 (.q 7 (.w 6 (.w 8 (.w 9 (.q 10 (.q 11 (.w 12 (.q 13 (.nil))))))))))))))) 13 (fun w => St W0 w R) mixed (by kernel_rfl) ?_
  have hs := hs.drew
  refine c_q rfl (by first | exact hs | exact hs.subl | exact hs.cellAt rfl | trivial) (fun _ _ _ h => h) (fun w hs => by exact y_mv_ptr rfl) ?_
  refine c_q rfl (by first | exact hs | exact hs.subl | exact hs.cellAt rfl | trivial) (fun _ _ _ h => h) (fun w hs => by exact y_mv_ptr rfl) ?_
  refine c_q rfl (by first | exact hs | exact hs.subl | exact hs.cellAt rfl | trivial) (fun _ _ _ h => h) (fun w hs => by first | exact y_nil rfl | exact y_nilf rfl) ?_
  refine c_q rfl (by first | exact hs | exact hs.subl | exact hs.cellAt rfl | trivial) (fun _ _ _ h => h) (fun w hs => by exact y_field rfl) ?_
  refine c_q rfl (by first | exact hs | exact hs.subl | exact hs.cellAt rfl | trivial) (fun _ _ _ h => h) (fun w hs => by exact y_ld hs rfl rfl) ?_
  refine c_q rfl (by first | exact hs | exact hs.subl | exact hs.cellAt rfl | trivial) (fun _ _ _ h => h) (fun w hs => by exact y_mv_ptr rfl) ?_
  refine c_q rfl (by first | exact hs | exact hs.subl | exact hs.cellAt rfl | trivial) (fun _ _ _ h => h) (fun w hs => by exact y_mv_ptr rfl) ?_
  refine c_w rfl (w_call rfl (equal_k (f := 0) (size := 8) (many := 8) (n := 6) I h105 (by omega) (by omega) (by omega) (by omega) (by omega) ⟨os, hos, hs⟩) rfl (fun _ w h => ?_))
  obtain ⟨s1, r1, rfl, N1, A1, hd⟩ := h; have A1 : Kn s1 r1 (fun e => decide (numB e 0 8 = 6)) := A1.toKn.fn (fun e => rfl); have hc1 := N1.cnt; have hs := hd.rest
  refine ⟨fun _ => by first | exact hs | exact hs.subl | exact hs.cellAt rfl | trivial, ?_⟩
  refine c_w rfl (w_call rfl (equal_k (f := 0) (size := 8) (many := 8) (n := 17) N1.inv (N1.ext.vars.trans h105) (by omega) (by omega) (by omega) (by omega) (by omega) hd) rfl (fun _ w h => ?_))
  obtain ⟨s2, r2, rfl, N2, B2, hd⟩ := h; have B2 : Kn s2 r2 (fun e => decide (numB e 0 8 = 17)) := B2.toKn.fn (fun e => rfl); replace A1 := A1.up N1.inv N2; replace N2 := N1.trans N2; have hc2 := N2.cnt; have v2 := N2.ext.vars.trans h105; obtain ⟨N3, K3⟩ := or_proto N2.inv v2 A1 B2; have hc3 := N3.cnt; have v3 := N3.ext.vars.trans v2; have hs := hd.rest
  refine ⟨fun _ => by first | exact hs | exact hs.subl | exact hs.cellAt rfl | trivial, ?_⟩
  refine c_w rfl (w_call rfl (or_c N2.inv A1.lt B2.lt (by omega) hd) rfl (fun _ w h => ?_))
  obtain ⟨rfl, hd⟩ := h; obtain ⟨os, hos, hs⟩ := hd.ex
  refine ⟨fun _ => by first | exact hs | exact hs.subl | exact hs.cellAt rfl | trivial, ?_⟩
  refine c_q rfl (by first | exact hs | exact hs.subl | exact hs.cellAt rfl | trivial) (fun _ _ _ h => h) (fun w hs => by exact y_extract rfl rfl) ?_
  refine c_q rfl (by first | exact hs | exact hs.subl | exact hs.cellAt rfl | trivial) (fun _ _ _ h => h) (fun w hs => by exact y_extract rfl rfl) ?_
  refine c_w rfl (w_call rfl (keep_c (M := M) _ hs) rfl (fun _ w h => ?_))
  obtain ⟨rfl, hs⟩ := h
  refine ⟨fun _ => by first | exact hs | exact hs.subl | exact hs.cellAt rfl | trivial, ?_⟩
  refine c_q rfl (by first | exact hs | exact hs.subl | exact hs.cellAt rfl | trivial) (fun _ _ _ h => h) (fun w hs => by exact y_as_int rfl) ?_
  refine c_end ?_
  refine e_then ?_
  refine s_seq ?_
  refine s_reg ?_
  refine l_q (by exact y_mv_ptr rfl) ?_
  refine l_q (by exact y_mv_ptr rfl) ?_
  refine l_w (w_call rfl (equal_k (f := 9) (size := 16) (many := 16) (n := 0) N3.inv v3 (by omega) (by omega) (by omega) (by omega) (by omega) ⟨os, hos, hs⟩) rfl (fun _ w h => ?_))
  obtain ⟨s4, r4, rfl, N4, F4, hd⟩ := h; have F4 : Kn s4 r4 (fun e => decide (numB e 9 16 = 0)) := F4.toKn.fn (fun e => rfl); replace K3 := K3.up N3.inv N4; have hc4 := N4.cnt; have v4 := N4.ext.vars.trans v3
  refine l_q (by exact y_mv_ptr rfl) ?_
  refine l_w (w_call rfl (equal_k (f := 25) (size := 16) (many := 16) (n := 0) N4.inv v4 (by omega) (by omega) (by omega) (by omega) (by omega) hd) rfl (fun _ w h => ?_))
  obtain ⟨s5, r5, rfl, N5, T5, hd⟩ := h; have T5 : Kn s5 r5 (fun e => decide (numB e 25 16 = 0)) := T5.toKn.fn (fun e => rfl); replace K3 := K3.up N4.inv N5; replace F4 := F4.up N4.inv N5; have hc5 := N5.cnt; have v5 := N5.ext.vars.trans v4; obtain ⟨N6, K6⟩ := no_ports N5.inv v5 F4 T5; replace K3 := K3.up N5.inv N6; have hc6 := N6.cnt; have v6 := N6.ext.vars.trans v5; obtain ⟨os, hos, hs⟩ := hd.ex
  refine l_w (w_buildSlice (pv := [(0, .int .i64 _), (1, .int .i64 _)]) (vs := [_, _]) hs rfl rfl rfl rfl (fun b23 w hs hb23 => ?_))
  refine l_w (w_call rfl (both_c (bb := b23) [r4, r5] N5.inv (lt2 F4.lt T5.lt) (by simp) (by omega) ⟨os, hos, stB_rotN (Q := [_]) hs⟩) rfl (fun _ w h => ?_))
  obtain ⟨rfl, hd⟩ := h; replace hd := hd.sub (R := R) (.cons _ (List.Sublist.refl _)); obtain ⟨os, hos, hs⟩ := hd.ex
  refine l_q (by exact y_as_int rfl) ?_
  refine l_end ?_
  refine e_then ?_
  refine s_seq ?_
  refine s_seq ?_
  refine s_reg ?_
  refine l_q (by exact y_mv_ptr rfl) ?_
  refine l_q (by first | exact y_nil rfl | exact y_nilf rfl) ?_
  refine l_q (by exact y_field rfl) ?_
  refine l_q (by exact y_ld hs rfl rfl) ?_
  refine l_q (by first | exact y_neq rfl rfl (decide_eq_true (by omega)) | exact y_neq rfl rfl (decide_eq_false (by omega)) | exact y_neq rfl rfl rfl) ?_
  refine l_end ?_
  refine e_then ?_
  refine cond_f rfl ?_
  refine s_skip ?_
  refine e_then ?_
  refine s_seq ?_
  refine r_draw (.q 0 (.q 1 (.q 2 (.q 3 (.q 4 (.q 5 (.q 7 (.q 8 (.w 6 (.w 9 (.q 10 (.q 11 (.w 12 (.q 13 (.nil))))))))))))))) 13 (fun w => St W0 w R) mixed (by kernel_rfl) ?_
  have hs := hs.drew
  refine c_q rfl (by first | exact hs | exact hs.subl | exact hs.cellAt rfl | trivial) (fun _ _ _ h => h) (fun w hs => by exact y_mv_ptr rfl) ?_
  refine c_q rfl (by first | exact hs | exact hs.subl | exact hs.cellAt rfl | trivial) (fun _ _ _ h => h) (fun w hs => by exact y_mv_ptr rfl) ?_
  refine c_q rfl (by first | exact hs | exact hs.subl | exact hs.cellAt rfl | trivial) (fun _ _ _ h => h) (fun w hs => by first | exact y_nil rfl | exact y_nilf rfl) ?_
  refine c_q rfl (by first | exact hs | exact hs.subl | exact hs.cellAt rfl | trivial) (fun _ _ _ h => h) (fun w hs => by exact y_field rfl) ?_
  refine c_q rfl (by first | exact hs | exact hs.subl | exact hs.cellAt rfl | trivial) (fun _ _ _ h => h) (fun w hs => by exact y_ld hs rfl rfl) ?_
  refine c_q rfl (by first | exact hs | exact hs.subl | exact hs.cellAt rfl | trivial) (fun _ _ _ h => h) (fun w hs => by exact y_mv_ptr rfl) ?_
  refine c_q rfl (by first | exact hs | exact hs.subl | exact hs.cellAt rfl | trivial) (fun _ _ _ h => h) (fun w hs => by exact y_mv_int rfl) ?_
  refine c_q rfl (by first | exact hs | exact hs.subl | exact hs.cellAt rfl | trivial) (fun _ _ _ h => h) (fun w hs => by exact y_mv_int rfl) ?_
  refine c_w rfl (w_call rfl (bit_k N6.inv v6 (v := 8) (by omega) (kv0 N6.inv _ (by omega)) (kv1 N6.inv _ (by omega)) (by omega) ⟨os, hos, hs⟩) rfl (fun _ w h => ?_))
  obtain ⟨s7, r7, rfl, N7, P7, hd⟩ := h; have P7 : Kn s7 r7 (fun e => e 8) := P7.toKn.fn (fun e => by cases e 8 <;> rfl); replace K3 := K3.up N6.inv N7; replace K6 := K6.up N6.inv N7; have hc7 := N7.cnt; have v7 := N7.ext.vars.trans v6; obtain ⟨N8, K8⟩ := real_if N7.inv v7 P7 K3 K6; have hc8 := N8.cnt; have hs := hd.rest
  refine ⟨fun _ => by first | exact hs | exact hs.subl | exact hs.cellAt rfl | trivial, ?_⟩
  refine c_w rfl (w_call rfl (if_c N7.inv P7.lt K3.lt K6.lt (by omega) hd) rfl (fun _ w h => ?_))
  obtain ⟨rfl, hd⟩ := h; obtain ⟨os, hos, hs⟩ := hd.ex
  refine ⟨fun _ => by first | exact hs | exact hs.subl | exact hs.cellAt rfl | trivial, ?_⟩
  refine c_q rfl (by first | exact hs | exact hs.subl | exact hs.cellAt rfl | trivial) (fun _ _ _ h => h) (fun w hs => by exact y_extract rfl rfl) ?_
  refine c_q rfl (by first | exact hs | exact hs.subl | exact hs.cellAt rfl | trivial) (fun _ _ _ h => h) (fun w hs => by exact y_extract rfl rfl) ?_
  refine c_w rfl (w_call rfl (keep_c (M := M) _ hs) rfl (fun _ w h => ?_))
  obtain ⟨rfl, hs⟩ := h
  refine ⟨fun _ => by first | exact hs | exact hs.subl | exact hs.cellAt rfl | trivial, ?_⟩
  refine c_q rfl (by first | exact hs | exact hs.subl | exact hs.cellAt rfl | trivial) (fun _ _ _ h => h) (fun w hs => by exact y_as_int rfl) ?_
  refine c_end ?_
  refine e_then ?_
  refine s_ret ?_
  exact ret_ [.int .i64 _] rfl ⟨rfl, trivial⟩ ⟨_, _, rfl, ((((((N2.trans N3).trans N4).trans N5).trans N6).trans N7).trans N8).mono (by omega), K8, ⟨os, hos, hs⟩⟩
end Go.Proofs.Ytfjniocobcoepaa
