/- Facts on the functions and types of this seat that its laws are proved from: contracts under the premises that each theorem names. -/
import Derived.Test.YtfjniocobcoepaaG32
set_option linter.unusedSimpArgs false
set_option linter.unusedVariables false
set_option linter.unnecessarySimpa false
namespace Go.Proofs.Ytfjniocobcoepaa
open Go Go.RowKit PB
set_option linter.unusedVariables false
set_option linter.unusedSimpArgs false

def fstF : List RuleV → RuleV → (Nat → Bool) → Bool
  | [], r, e => decide ((boxR r).on e)
  | q :: l, r, e => if decide ((boxR q).on e) = true then false else fstF l r e
theorem fst_of (r : RuleV) : ∀ (l : List RuleV), Of (l.length + 1) (bxL (l ++ [r])) (fstF l r)
  | [] => ⟨fun e e' h => by
    have h0 : (boxR r).on e ↔ (boxR r).on e' := h 0 (by simp)
    simp only [fstF, decide_eq_decide.2 h0]⟩
  | q :: l => ⟨fun e e' h => by
    have h0 : (boxR q).on e ↔ (boxR q).on e' := h 0 (by simp)
    have ih := (fst_of r l).of e e' fun i hi => h (i + 1) (by simp; omega)
    simp only [fstF, ih, decide_eq_decide.2 h0]⟩
def reachN : Nat → Nat
  | 0 => 833
  | n + 1 => reachN n + (833 + bd (n + 2))
theorem reachN_mono {i j : Nat} (h : i ≤ j) : reachN i ≤ reachN j := by
  induction j with
  | zero => have : i = 0 := by omega
            subst this; exact Nat.le_refl _
  | succ j ih =>
    by_cases c : i = j + 1
    · subst c; exact Nat.le_refl _
    · have := ih (by omega)
      rw [reachN]; omega
theorem reach_k {W0 w : World} {M : MB} {mb : Nat} {s : DS} {R : List (Nat × MObj)} {a : Option Addr} {l : List RuleV} {cap i : Nat} {r0 : RuleV} [im : InL mb (mkO M) R] (I : Inv s) (h105 : s.vars = 105) (hr : RdR W0 R a l) (hok : ∀ r ∈ l, RuleOk r) (hl : l.length ≤ 8)
    (hi : l[i]? = some r0) (hn : s.nodes.length + reachN i ≤ 60000) (hd : Dg W0 w M s R) :
    FnC Try.prog 45 [mkP mb, .slice a l.length cap, I64 i] w (fun x w' => ∃ s' r, x = I64 (r : Nat) ∧ Nx s s' (reachN i) ∧ Kn s' r (fstF (l.take i) r0) ∧ Dg W0 w' M s' R) := by
  have hil : i < l.length := by
    rcases Nat.lt_or_ge i l.length with c | c
    · exact c
    · rw [List.getElem?_eq_none c] at hi; cases hi
  obtain ⟨x0, hx0, hrd0⟩ := hr.at_ i r0 hi
  have hok0 := hok r0 (List.mem_of_getElem? hi)
  have hs0 := hd.rest
  have hm0 := reachN_mono (Nat.zero_le i)
  have h833 : reachN 0 = 833 := rfl
  refine FnC.enter Try.func45 rfl Try.ntmps45 rfl fun ρ => ?_
  refine s_seq ?_
  refine s_reg ?_
  refine l_q (by exact y_as_int rfl) ?_
  refine l_end ?_
  refine e_then ?_
  refine s_seq ?_
  refine s_reg ?_
  refine l_q (by exact y_mv_ptr rfl) ?_
  refine l_q (by exact y_mv_slice rfl) ?_
  refine l_q (by exact y_mv_int rfl) ?_
  refine l_q (by exact y_indexA rfl rfl (by omega) (by omega) hx0) ?_
  refine l_q (by exact y_ldR (vs := r0.cells) rfl rfl (hrd0 _ hs0)) ?_
  refine l_w (w_call rfl (match_k (r0 := r0) I h105 hok0 (by omega) hd) rfl (fun _ w h => ?_))
  obtain ⟨s1, r1, rfl, N1, K1, hd⟩ := h
  refine l_q (by exact y_as_int rfl) ?_
  refine l_end ?_
  refine e_then ?_
  refine s_seq ?_
  refine s_seq ?_
  refine s_reg ?_
  refine l_q (by exact y_mv_int rfl) ?_
  refine l_q (by first | exact y_subn rfl rfl (by omega) | exact y_sub rfl rfl rfl) ?_
  refine l_q (by exact y_as_int rfl) ?_
  refine l_end ?_
  refine e_then ?_
  refine s_block ?_
  clear hx0 hrd0 hs0
  refine loop_st (X := Nat × DS × Nat) (fun y => [(0, mkP mb), (1, .slice a l.length cap), (7, I64 (y.2.2 : Nat)), (8, I64 ((y.1 : Int) - 1))])
    (fun y w => y.1 ≤ i ∧ Nx s y.2.1 (reachN (i - y.1)) ∧ Kn y.2.1 y.2.2 (fstF ((l.take i).drop y.1) r0) ∧ Dg W0 w M y.2.1 R) (fun y => y.1) (i, s1, r1) ⟨rfl, rfl, rfl, rfl, trivial⟩
    ⟨Nat.le_refl _, by rw [Nat.sub_self]; exact N1, by rw [List.drop_eq_nil_of_le (by simp; omega)]; exact K1, hd⟩ ?_
  clear hd K1 N1
  rintro ⟨k, s1, r1⟩ ρ w ⟨hk, N, K, hd⟩
  dsimp only at hk N K hd ⊢
  obtain ⟨os, hos, hs⟩ := hd.ex
  have hc1 := N.cnt
  by_cases c : 0 < k
  · obtain ⟨q, hg⟩ : ∃ r, l[k - 1]? = some r := ⟨_, List.getElem?_eq_getElem (show k - 1 < l.length by omega)⟩
    have hdr : (l.take i).drop (k - 1) = q :: (l.take i).drop k := by
      have hlt : k - 1 < (l.take i).length := by simp; omega
      have h1 := List.drop_eq_getElem_cons hlt
      rw [h1, show k - 1 + 1 = k by omega]
      congr 1
      have := List.getElem?_eq_getElem (show k - 1 < l.length by omega)
      rw [hg] at this
      rw [List.getElem_take]
      exact (Option.some.inj this).symm
    have hmem : q ∈ l := List.mem_of_getElem? hg
    have hrok := hok q hmem
    have hok' : ∀ x ∈ q :: (l.take i).drop k ++ [r0], RuleOk x := fun x hx => by
      rw [← hdr] at hx
      rcases List.mem_append.1 hx with hx | hx
      · exact hok x (List.mem_of_mem_take (List.mem_of_mem_drop hx))
      · rw [List.mem_singleton.1 hx]; exact hok0
    have hR := fst_of r0 ((l.take i).drop (k - 1))
    have hlen : ((l.take i).drop (k - 1)).length = i - (k - 1) := by rw [List.length_drop, List.length_take]; omega
    have hN : reachN (i - (k - 1)) = reachN (i - k) + (833 + bd (i - (k - 1) + 1)) := by
      rw [show i - (k - 1) = (i - k) + 1 by omega]; rfl
    have hmono := reachN_mono (show i - (k - 1) ≤ i by omega)
    rw [hlen, hdr] at hR
    obtain ⟨x, hx, hrd⟩ := hr.at_ (k - 1) q hg
    refine s_seq ?_
    refine s_seq ?_
    refine s_reg ?_
    refine l_q (by exact y_mv_int rfl) ?_
    refine l_q (by first | exact y_geq rfl rfl (decide_eq_true (by omega)) | exact y_geq rfl rfl (decide_eq_false (by omega)) | exact y_geq rfl rfl rfl) ?_
    refine l_q (by exact y_mv_bool rfl) ?_
    first | refine l_gskip rfl rfl ?_ | refine l_gskip_u rfl rfl ?_ | refine l_gdo rfl rfl (by exact y_mv_ptr rfl) ?_
    first | refine l_gskip rfl rfl ?_ | refine l_gskip_u rfl rfl ?_ | refine l_gdo rfl rfl (by first | exact y_nil rfl | exact y_nilf rfl) ?_
    first | refine l_gskip rfl rfl ?_ | refine l_gskip_u rfl rfl ?_ | refine l_gdo rfl rfl (by exact y_field rfl) ?_
    first | refine l_gskip rfl rfl ?_ | refine l_gskip_u rfl rfl ?_ | refine l_gdo rfl rfl (by exact y_ld hs rfl rfl) ?_
    first | refine l_gskip rfl rfl ?_ | refine l_gskip_u rfl rfl ?_ | refine l_gdo rfl rfl (by first | exact y_eql rfl rfl (decide_eq_true (by omega)) | exact y_eql rfl rfl (decide_eq_false (by omega)) | exact y_eql rfl rfl rfl) ?_
    refine l_q (by first | exact y_pk_bt rfl rfl | exact y_pk_bf rfl rfl) ?_
    refine l_end ?_
    refine e_then ?_
    refine cond_t rfl ?_
    refine s_skip ?_
    refine e_then ?_
    refine s_seq ?_
    refine s_block ?_
    refine r_draw (.q 0 (.q 1 (.q 2 (.q 3 (.q 4 (.q 5 (.q 6 (.q 7 (.q 8 (.q 9 (.q 11 (.w 10 (.w 12 (.q 13 (.q 14 (.w 15 (.q 16 (.nil)))))))))))))))))) 16 (fun w => St W0 w R) mixed (by kernel_rfl) ?_
    have hs := hs.drew
    refine c_q rfl (by first | exact hs | exact hs.subl | exact hs.cellAt rfl | trivial) (fun _ _ _ h => h) (fun w hs => by exact y_mv_ptr rfl) ?_
    refine c_q rfl (by first | exact hs | exact hs.subl | exact hs.cellAt rfl | trivial) (fun _ _ _ h => h) (fun w hs => by exact y_mv_ptr rfl) ?_
    refine c_q rfl (by first | exact hs | exact hs.subl | exact hs.cellAt rfl | trivial) (fun _ _ _ h => h) (fun w hs => by first | exact y_nil rfl | exact y_nilf rfl) ?_
    refine c_q rfl (by first | exact hs | exact hs.subl | exact hs.cellAt rfl | trivial) (fun _ _ _ h => h) (fun w hs => by exact y_field rfl) ?_
    refine c_q rfl (by first | exact hs | exact hs.subl | exact hs.cellAt rfl | trivial) (fun _ _ _ h => h) (fun w hs => by exact y_ld hs rfl rfl) ?_
    refine c_q rfl (by first | exact hs | exact hs.subl | exact hs.cellAt rfl | trivial) (fun _ _ _ h => h) (fun w hs => by exact y_mv_ptr rfl) ?_
    refine c_q rfl (by first | exact hs | exact hs.subl | exact hs.cellAt rfl | trivial) (fun _ _ _ h => h) (fun w hs => by exact y_mv_slice rfl) ?_
    refine c_q rfl (by first | exact hs | exact hs.subl | exact hs.cellAt rfl | trivial) (fun _ _ _ h => h) (fun w hs => by exact y_toInt (b := ((k - 1 : Nat) : Int)) (y_mv_int rfl) (by omega)) ?_
    refine c_q rfl (by first | exact hs | exact hs.subl | exact hs.cellAt rfl | trivial) (fun _ _ _ h => h) (fun w hs => by exact y_indexA rfl rfl (by omega) (by omega) hx) ?_
    refine c_q rfl (by first | exact hs | exact hs.subl | exact hs.cellAt rfl | trivial) (fun _ _ _ h => h) (fun w hs => by exact y_ldR (vs := q.cells) rfl rfl (hrd _ hs)) ?_
    refine c_q rfl (by first | exact hs | exact hs.subl | exact hs.cellAt rfl | trivial) (fun _ _ _ h => h) (fun w hs => by exact y_mv_int rfl) ?_
    refine c_w rfl (w_call rfl (match_k (r0 := q) N.inv (N.ext.vars.trans h105) hrok (by omega) ⟨os, hos, hs⟩) rfl (fun _ w h => ?_))
    obtain ⟨s2, r2, rfl, N2, K2, hd⟩ := h; replace K := K.up N.inv N2; have hc2 := N2.cnt; obtain ⟨N3, K3⟩ := if_bd N2.inv (N2.ext.vars.trans (N.ext.vars.trans h105)) (by omega) (bxs_l hok' _) K2 (kn0 N2.inv) K hR; have hc3 := N3.cnt; obtain ⟨os, hos, hs⟩ := hd.ex
    refine ⟨fun _ => by first | exact hs | exact hs.subl | exact hs.cellAt rfl | trivial, ?_⟩
    refine c_w rfl (w_call rfl (if_c N2.inv K2.lt (kn0 N2.inv).lt K.lt (by omega) ⟨os, hos, hs⟩) rfl (fun _ w h => ?_))
    obtain ⟨rfl, hd⟩ := h; obtain ⟨os, hos, hs⟩ := hd.ex
    refine ⟨fun _ => by first | exact hs | exact hs.subl | exact hs.cellAt rfl | trivial, ?_⟩
    refine c_q rfl (by first | exact hs | exact hs.subl | exact hs.cellAt rfl | trivial) (fun _ _ _ h => h) (fun w hs => by exact y_extract rfl rfl) ?_
    refine c_q rfl (by first | exact hs | exact hs.subl | exact hs.cellAt rfl | trivial) (fun _ _ _ h => h) (fun w hs => by exact y_extract rfl rfl) ?_
    refine c_w rfl (w_call rfl (keep_c (M := M) _ hs) rfl (fun _ w h => ?_))
    obtain ⟨rfl, hs⟩ := h
    refine ⟨fun _ => by first | exact hs | exact hs.subl | exact hs.cellAt rfl | trivial, ?_⟩
    refine c_q rfl (by first | exact hs | exact hs.subl | exact hs.cellAt rfl | trivial) (fun _ _ _ h => h) (fun w hs => by exact y_as_int rfl) ?_
    refine c_end ?_
    refine e_blk ?_
    refine e_then ?_
    refine s_reg ?_
    refine l_q (by exact y_mv_int rfl) ?_
    refine l_q (by exact y_toInt (b := ((k - 1 : Nat) : Int) - 1) (y_subn rfl rfl (by omega)) (by omega)) ?_
    refine l_q (by exact y_as_int rfl) ?_
    refine l_end ?_
    refine e_then ?_
    exact ⟨(k - 1, _, _), _, nx ⟨rfl, rfl, rfl, rfl, trivial⟩, ⟨by dsimp only; omega, ((N.trans N2).trans N3).mono (by dsimp only; omega), by dsimp only; rw [hdr]; exact K3, ⟨os, hos, hs⟩⟩, by dsimp only; omega⟩
  · refine s_seq ?_
    refine s_seq ?_
    refine s_reg ?_
    refine l_q (by exact y_mv_int rfl) ?_
    refine l_q (by first | exact y_geq rfl rfl (decide_eq_true (by omega)) | exact y_geq rfl rfl (decide_eq_false (by omega)) | exact y_geq rfl rfl rfl) ?_
    refine l_q (by exact y_mv_bool rfl) ?_
    first | refine l_gskip rfl rfl ?_ | refine l_gskip_u rfl rfl ?_ | refine l_gdo rfl rfl (by exact y_mv_ptr rfl) ?_
    first | refine l_gskip rfl rfl ?_ | refine l_gskip_u rfl rfl ?_ | refine l_gdo rfl rfl (by first | exact y_nil rfl | exact y_nilf rfl) ?_
    first | refine l_gskip rfl rfl ?_ | refine l_gskip_u rfl rfl ?_ | refine l_gdo rfl rfl (by exact y_field rfl) ?_
    first | refine l_gskip rfl rfl ?_ | refine l_gskip_u rfl rfl ?_ | refine l_gdo rfl rfl (by exact y_ld hs rfl rfl) ?_
    first | refine l_gskip rfl rfl ?_ | refine l_gskip_u rfl rfl ?_ | refine l_gdo rfl rfl (by first | exact y_eql rfl rfl (decide_eq_true (by omega)) | exact y_eql rfl rfl (decide_eq_false (by omega)) | exact y_eql rfl rfl rfl) ?_
    refine l_q (by first | exact y_pk_bt rfl rfl | exact y_pk_bf rfl rfl) ?_
    refine l_end ?_
    refine e_then ?_
    refine cond_f rfl ?_
    refine s_exit ?_
    refine e_then_x ?_
    refine e_then_x ?_
    refine e_blk_x ?_
    refine e_then ?_
    refine s_seq ?_
    refine s_reg ?_
    refine l_q (by exact y_mv_int rfl) ?_
    refine l_q (by exact y_as_int rfl) ?_
    refine l_end ?_
    refine e_then ?_
    refine s_ret ?_
    have k0 : k = 0 := by omega
    subst k0
    exact ret_ [.int .i64 _] rfl ⟨rfl, trivial⟩ ⟨_, _, rfl, N, K, ⟨os, hos, hs⟩⟩
end Go.Proofs.Ytfjniocobcoepaa
