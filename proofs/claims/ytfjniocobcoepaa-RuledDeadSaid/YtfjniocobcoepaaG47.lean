/- Facts on the functions and types of this seat that its laws are proved from: contracts under the premises that each theorem names. -/
import Derived.Test.YtfjniocobcoepaaG46
set_option linter.unusedSimpArgs false
set_option linter.unusedVariables false
set_option linter.unnecessarySimpa false
namespace Go.Proofs.Ytfjniocobcoepaa
open Go Go.RowKit PB
set_option linter.unusedVariables false
set_option linter.unusedSimpArgs false

/-! ### Dead -/
/-- A rule that is never the first one. -/
def DeadAt (l : List RuleV) (i : Nat) : Prop := ∃ r, l[i]? = some r ∧ ∀ e, realP e → fstF (l.take i) r e = false
structure DeadI (l : List RuleV) (ds : List Nat) (k : Nat) : Prop where
  up : ds.Pairwise (· < ·)
  lt : ∀ i ∈ ds, i < k
  dead : ∀ i ∈ ds, DeadAt l i
theorem DeadI.skip {l : List RuleV} {ds : List Nat} {k : Nat} (h : DeadI l ds k) : DeadI l ds (k + 1) := ⟨h.up, fun i hi => Nat.lt_succ_of_lt (h.lt i hi), h.dead⟩
theorem DeadI.add {l : List RuleV} {ds : List Nat} {k : Nat} (h : DeadI l ds k) (hd : DeadAt l k) : DeadI l (ds ++ [k]) (k + 1) := by
  refine ⟨List.pairwise_append.2 ⟨h.up, by simp, fun i hi j hj => ?_⟩, fun i hi => ?_, fun i hi => ?_⟩
  · rw [List.mem_singleton.1 hj]; exact h.lt i hi
  · rcases List.mem_append.1 hi with hi | hi
    · have := h.lt i hi; omega
    · rw [List.mem_singleton.1 hi]; omega
  · rcases List.mem_append.1 hi with hi | hi
    · exact h.dead i hi
    · rw [List.mem_singleton.1 hi]; exact hd
def deadN : Nat → Nat
  | 0 => 0
  | n + 1 => deadN n + (reachN n + (1144 + 41 * (n + 1 + 3)))
theorem deadN_mono {i j : Nat} (h : i ≤ j) : deadN i ≤ deadN j := by
  induction j with
  | zero => have : i = 0 := by omega
            subst this; exact Nat.le_refl _
  | succ j ih =>
    by_cases c : i = j + 1
    · subst c; exact Nat.le_refl _
    · have := ih (by omega)
      rw [deadN]; omega
theorem dead_a {W0 w : World} {L : List (Nat × MObj)} {a : Option Addr} {l : List RuleV} {cap : Nat} {z : Int} (hj : lChk l = z) (hz : z ≠ 0) (hr : RdR W0 L a l) (hf : ∀ r ∈ l, r.fits) (hl : l.length ≤ 8) (hs : St W0 w L) :
    FnC Try.prog 33 [.slice a l.length cap] w (fun v w' => v = .tuple #[.slice none 0 0, I64 z] ∧ St W0 w' L) := by
  refine FnC.enter Try.func33 rfl Try.ntmps33 rfl fun ρ => ?_
  refine s_seq ?_
  refine s_reg ?_
  refine l_q (by exact y_as_slice rfl) ?_
  refine l_q (by exact y_as_int rfl) ?_
  refine l_end ?_
  refine e_then ?_
  refine s_seq ?_
  refine s_seq ?_
  refine s_reg ?_
  refine l_q (by exact y_mv_slice rfl) ?_
  refine l_w (w_call rfl (rcheck_v l cap hj hr hf (by omega) hs) rfl (fun _ w h => ?_))
  obtain ⟨rfl, hs⟩ := h
  refine l_q (by exact y_as_int rfl) ?_
  refine l_end ?_
  refine e_then ?_
  refine s_seq ?_
  refine s_reg ?_
  refine l_q (by exact y_mv_int rfl) ?_
  refine l_q (by first | exact y_neq rfl rfl (decide_eq_true (by omega)) | exact y_neq rfl rfl (decide_eq_false (by omega)) | exact y_neq rfl rfl rfl) ?_
  refine l_end ?_
  refine e_then ?_
  refine cond_t rfl ?_
  refine s_seq ?_
  refine s_reg ?_
  refine l_q (by exact y_mv_int rfl) ?_
  refine l_q (by exact y_as_slice rfl) ?_
  refine l_q (by exact y_as_int rfl) ?_
  refine l_end ?_
  refine e_then ?_
  refine s_ret ?_
  refine e_then_r ?_
  exact ret_ [.slice _ _ _, .int .i64 _] rfl ⟨rfl, rfl, trivial⟩ ⟨rfl, hs⟩
theorem dead_k {W0 w : World} {L : List (Nat × MObj)} {a : Option Addr} {l : List RuleV} {cap : Nat} (hj : lChk l = 0) (hr : RdR W0 L a l) (hf : ∀ r ∈ l, r.fits) (hl : l.length ≤ 5) (hs : St W0 w L) :
    FnC Try.prog 33 [.slice a l.length cap] w (fun v w' => ∃ (ds : List Nat) (ol : OS), v = .tuple #[.slice ol.ad ds.length ol.cap, I64 0] ∧ DeadI l ds l.length ∧ ol.ok (nV ds) ds.length 1 ∧ ds.length ≤ l.length ∧ St W0 w' (ol.blk (nV ds) 3 ++ L)) := by
  have hok := lChk_ok hf hj
  have hm5 := deadN_mono hl
  have h5 : deadN 5 = 41949 := rfl
  refine FnC.enter Try.func33 rfl Try.ntmps33 rfl fun ρ => ?_
  refine s_seq ?_
  refine s_reg ?_
  refine l_q (by exact y_as_slice rfl) ?_
  refine l_q (by exact y_as_int rfl) ?_
  refine l_end ?_
  refine e_then ?_
  refine s_seq ?_
  refine s_seq ?_
  refine s_reg ?_
  refine l_q (by exact y_mv_slice rfl) ?_
  refine l_w (w_call rfl (rcheck_v l cap hj hr hf (by omega) hs) rfl (fun _ w h => ?_))
  obtain ⟨rfl, hs⟩ := h
  refine l_q (by exact y_as_int rfl) ?_
  refine l_end ?_
  refine e_then ?_
  refine s_seq ?_
  refine s_reg ?_
  refine l_q (by exact y_mv_int rfl) ?_
  refine l_q (by first | exact y_neq rfl rfl (decide_eq_true (by omega)) | exact y_neq rfl rfl (decide_eq_false (by omega)) | exact y_neq rfl rfl rfl) ?_
  refine l_end ?_
  refine e_then ?_
  refine cond_f rfl ?_
  refine s_skip ?_
  refine e_then ?_
  refine s_seq ?_
  refine s_reg ?_
  refine l_q (by exact y_as_slice rfl) ?_
  refine l_end ?_
  refine e_then ?_
  refine s_seq ?_
  refine s_reg ?_
  refine l_w (w_call rfl (newMaker_k hs) rfl (fun _ w h => ?_))
  obtain ⟨M, mb, rfl, hd⟩ := h
  refine l_q (by exact y_as_ptr rfl) ?_
  refine l_end ?_
  refine e_then ?_
  refine s_seq ?_
  refine s_seq ?_
  refine s_reg ?_
  refine l_q (by exact y_mv_slice rfl) ?_
  refine l_q (by exact y_len_slice rfl) ?_
  refine l_q (by exact y_mv_int rfl) ?_
  refine l_end ?_
  refine e_then ?_
  refine s_block ?_
  refine loop_st (X := Nat × DS × OS × List Nat) (fun y => [(0, .slice a l.length cap), (5, .slice y.2.2.1.ad y.2.2.2.length y.2.2.1.cap), (6, mkP mb), (18, I64 l.length), (19, I64 y.1)])
    (fun y w => y.1 ≤ l.length ∧ Nx (initS 105) y.2.1 (deadN y.1) ∧ DeadI l y.2.2.2 y.1 ∧ y.2.2.1.ok (nV y.2.2.2) y.2.2.2.length 1 ∧ y.2.2.2.length ≤ y.1 ∧ Dg W0 w M y.2.1 (y.2.2.1.blk (nV y.2.2.2) 3 ++ ((mb, mkO M) :: L))) (fun y => l.length - y.1) (0, initS 105, OS.nl, [])
    ⟨rfl, rfl, rfl, rfl, rfl, trivial⟩ ⟨Nat.zero_le _, Nx.refl (init_inv (by decide)), ⟨List.Pairwise.nil, fun i hi => (by cases hi), fun i hi => (by cases hi)⟩, OS.ok_nl 1, Nat.le_refl _, hd⟩ ?_
  clear hd
  rintro ⟨i, s, ol, ds⟩ ρ w ⟨hil, N, D, hokl, hdl, hd⟩
  dsimp only at hil N D hokl hdl hd ⊢
  have hc := N.cnt
  have e2 : (initS 105).nodes.length = 2 := rfl
  by_cases c : i < l.length
  · obtain ⟨r, hi⟩ : ∃ r, l[i]? = some r := ⟨_, List.getElem?_eq_getElem c⟩
    have hti : (l.take i).length = i := by rw [List.length_take]; omega
    have hok2 : ∀ x ∈ l.take i ++ [r], RuleOk x := fun x hx => by
      rcases List.mem_append.1 hx with hx | hx
      · exact hok x (List.mem_of_mem_take hx)
      · rw [List.mem_singleton.1 hx]; exact hok r (List.mem_of_getElem? hi)
    have hstep : deadN (i + 1) = deadN i + (reachN i + (1144 + 41 * (i + 1 + 3))) := rfl
    have hm := deadN_mono (show i + 1 ≤ 5 by omega)
    refine s_seq ?_
    refine s_reg ?_
    refine l_q (by first | exact y_lss rfl rfl (decide_eq_true (by omega)) | exact y_lss rfl rfl (decide_eq_false (by omega)) | exact y_lss rfl rfl rfl) ?_
    refine l_end ?_
    refine e_then ?_
    refine s_seq ?_
    refine cond_t rfl ?_
    refine s_skip ?_
    refine e_then ?_
    refine s_seq ?_
    refine s_block ?_
    refine s_seq ?_
    refine s_reg ?_
    refine l_q (by exact y_mv_int rfl) ?_
    refine l_q (by exact y_as_int rfl) ?_
    refine l_end ?_
    refine e_then ?_
    refine s_seq ?_
    refine s_reg ?_
    refine l_q (by exact y_mv_ptr rfl) ?_
    refine l_q (by exact y_mv_ptr rfl) ?_
    refine l_q (by exact y_mv_slice rfl) ?_
    refine l_q (by exact y_mv_int rfl) ?_
    refine l_w (w_call rfl (reach_k (l := l) (i := i) (r0 := r) N.inv N.ext.vars (hr.mono fun w h => h.subl) hok (by omega) hi (by omega) hd) rfl (fun _ w h => ?_))
    obtain ⟨s1, x1, rfl, N1, K1, hd⟩ := h; have hc1 := N1.cnt; have v1 : s1.vars = 105 := N1.ext.vars.trans N.ext.vars
    refine l_w (w_call rfl (first_k N1.inv v1 K1 (bxs_l hok2 _) (fst_of r (l.take i)) (by rw [hti]; omega) hd) rfl (fun _ w h => ?_))
    obtain ⟨s2, p, is, rfl, N2, F, hd⟩ := h; rw [hti] at N2; have hc2 := N2.cnt; obtain ⟨os, hos, hs⟩ := hd.ex; replace hs := stB_outN hs
    refine l_q (by exact y_mv_tuple rfl) ?_
    refine l_q (by exact y_extract rfl rfl) ?_
    refine l_q (by exact y_extract rfl rfl) ?_
    refine l_q (by exact y_extract rfl rfl) ?_
    refine l_w (w_alloc (cs := [_, _, _, _, _, _, _, _, _]) hs rfl (fun b8 w hs hb8 => ?_))
    refine l_w (w_storeA (vs := p.cells) hs rfl rfl rfl rfl rfl (fun w hs => ?_))
    refine l_q (by exact y_as_bool rfl) ?_
    refine l_q (by exact y_as_int rfl) ?_
    refine l_end ?_
    refine e_then ?_
    refine s_seq ?_
    refine s_seq ?_
    refine s_reg ?_
    refine l_q (by exact y_mv_int rfl) ?_
    refine l_q (by first | exact y_neq rfl rfl (decide_eq_true (by omega)) | exact y_neq rfl rfl (decide_eq_false (by omega)) | exact y_neq rfl rfl rfl) ?_
    refine l_end ?_
    refine e_then ?_
    refine cond_f rfl ?_
    refine s_skip ?_
    refine e_then ?_
    refine s_seq ?_
    refine s_reg ?_
    refine l_q (by exact y_mv_bool rfl) ?_
    refine l_q (by exact y_not (c := is) (r := !is) rfl rfl) ?_
    refine l_end ?_
    refine e_then ?_
    cases is with
    | true =>
      refine cond_f rfl ?_
      refine s_skip ?_
      refine e_blk ?_
      refine e_then ?_
      refine s_reg ?_
      refine l_q (by exact y_toInt (b := ((i + 1 : Nat) : Int)) (y_addn rfl rfl (by omega)) (by omega)) ?_
      refine l_q (by exact y_mv_int rfl) ?_
      refine l_end ?_
      refine e_then ?_
      exact ⟨(i + 1, s2, ol, ds), _, nx ⟨rfl, rfl, rfl, rfl, rfl, trivial⟩, ⟨by dsimp only; omega, ((N.trans N1).trans N2).mono (by dsimp only; omega), D.skip, hokl, by dsimp only; omega, ⟨os, hos, stB_rotN hs.tail⟩⟩, by dsimp only; omega⟩
    | false =>
      refine cond_t rfl ?_
      have hdead : DeadAt l i := ⟨r, hi, (F.no rfl).2⟩
      refine s_reg ?_
      refine l_q (by exact y_mv_slice rfl) ?_
      refine l_q (by exact y_mv_int rfl) ?_
      refine l_w (w_buildSlice (pv := [(0, .int .i64 _)]) (vs := [_]) hs rfl rfl rfl rfl (fun b39 w hs hb39 => ?_))
      refine l_w (w_append (ys := [_]) [(b39, _), (b8, _)] hs hokl rfl rfl rfl rfl rfl rfl (.inl (by decide)) (by decide) (by omega) (fun ol' w okl' hgl' hs => ?_))
      replace hs := stB_rotN hs.tail.tail
      refine l_q (by exact y_as_slice rfl) ?_
      refine l_end ?_
      refine e_blk ?_
      refine e_then ?_
      refine s_reg ?_
      refine l_q (by exact y_toInt (b := ((i + 1 : Nat) : Int)) (y_addn rfl rfl (by omega)) (by omega)) ?_
      refine l_q (by exact y_mv_int rfl) ?_
      refine l_end ?_
      refine e_then ?_
      exact ⟨(i + 1, s2, ol', ds ++ [i]), _, nx ⟨rfl, by dsimp only; rw [List.length_append]; rfl, rfl, rfl, rfl, trivial⟩, ⟨by dsimp only; omega, ((N.trans N1).trans N2).mono (by dsimp only; omega), D.add hdead, by dsimp only; rw [nV_app, List.length_append]; exact okl', by dsimp only; rw [List.length_append]; simp; omega, ⟨os, hos, by dsimp only; rw [nV_app]; exact hs⟩⟩, by dsimp only; omega⟩
  · have : i = l.length := by omega
    subst this
    refine s_seq ?_
    refine s_reg ?_
    refine l_q (by first | exact y_lss rfl rfl (decide_eq_true (by omega)) | exact y_lss rfl rfl (decide_eq_false (by omega)) | exact y_lss rfl rfl rfl) ?_
    refine l_end ?_
    refine e_then ?_
    refine s_seq ?_
    refine cond_f rfl ?_
    refine s_exit ?_
    refine e_then_x ?_
    refine e_then_x ?_
    refine e_blk_x ?_
    refine e_then ?_
    refine s_seq ?_
    refine s_reg ?_
    refine l_q (by exact y_mv_slice rfl) ?_
    refine l_q (by exact y_as_slice rfl) ?_
    refine l_q (by exact y_as_int rfl) ?_
    refine l_end ?_
    refine e_then ?_
    refine s_ret ?_
    exact ret_ [.slice _ _ _, .int .i64 _] rfl ⟨rfl, rfl, trivial⟩ ⟨ds, ol, rfl, D, hokl, hdl, hd.rest.subl⟩
end Go.Proofs.Ytfjniocobcoepaa
