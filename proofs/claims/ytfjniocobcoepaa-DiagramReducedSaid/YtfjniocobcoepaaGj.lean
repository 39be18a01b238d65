/- Facts on the functions and types of this seat that its laws are proved from: contracts under the premises that each theorem names. -/
import Derived.Test.YtfjniocobcoepaaGi
set_option linter.unusedSimpArgs false
set_option linter.unusedVariables false
set_option linter.unnecessarySimpa false
namespace Go.Proofs.Ytfjniocobcoepaa
open Go Go.RowKit PB
set_option linter.unusedVariables false
set_option linter.unusedSimpArgs false

theorem pick_ix (z : Int) {n : Nat} (h : 1 ≤ n) : ∃ k : Nat, z % (n : Int) = k ∧ k < n := by
  have h1 := Int.emod_nonneg z (show (n : Int) ≠ 0 by omega)
  have h2 := Int.emod_lt_of_pos z (show (0 : Int) < n by omega)
  exact ⟨(z % n).toNat, by omega, by omega⟩
theorem mem_getD {l : List Nat} {i : Nat} (h : i < l.length) : l.getD i 0 ∈ l := by simp [h]
/-- A diagram that has been drawn. -/
theorem drawn_k {s : DS} {l : List Nat} {ol : OS} {n k : Nat} (D : DrI s l ol n k) (h9 : 1 ≤ n) (z : Int) : ∃ (ix a : Nat) (f : (Nat → Bool) → Bool), z % (l.length : Int) = ix ∧ ix < l.length ∧ l.getD ix 0 = a ∧ Kn s a f := by
  obtain ⟨ix, h1, h2⟩ := pick_ix z (n := l.length) (by rw [D.len]; exact h9)
  exact ⟨ix, _, _, h1, h2, rfl, Kn.mk' (D.lt _ (mem_getD h2))⟩


set_option maxRecDepth 100000 in
theorem laws_walk (W : World) (a0 : Option Addr) (n0 c0 : Nat) (z0 : List Int) (h0 : Ints W a0 n0 z0) (l0 : n0 ≤ 9223372036854775807) (_q0 : n0 ≤ c0) (a1 : Option Addr) (n1 c1 : Nat) (z1 : List Int) (h1 : Ints W a1 n1 z1) (l1 : n1 ≤ 9223372036854775807) (_q1 : n1 ≤ c1)
    (a2 : Option Addr) (n2 c2 : Nat) (z2 : List Int) (h2 : Ints W a2 n2 z2) (l2 : n2 ≤ 9223372036854775807) (_q2 : n2 ≤ c2) (x y z : Int) :
    FnC Try.prog 3 [.slice a0 n0 c0, .slice a1 n1 c1, .slice a2 n2 c2, I64 x, I64 y, I64 z] W (fun v w' => v = .bool true ∧ St W w' []) := by
  have hs := St.start W
  refine FnC.enter Try.func3 rfl Try.ntmps3 rfl fun ρ => ?_
  refine s_seq ?_
  refine s_reg ?_
  refine l_q (by exact y_as_bool rfl) ?_
  refine l_end ?_
  refine e_then ?_
  refine s_seq ?_
  refine s_reg ?_
  refine l_w (w_call rfl (new_c (n := 7) (by decide) hs) rfl (fun _ w h => ?_))
  obtain ⟨M, rfl, hd⟩ := h; obtain ⟨os, hos, hs⟩ := hd.ex
  refine l_q (by exact y_mv_tuple rfl) ?_
  refine l_q (by exact y_extract rfl rfl) ?_
  refine l_q (by exact y_extract rfl rfl) ?_
  refine l_q (by exact y_as_ptr rfl) ?_
  refine l_q (by exact y_as_int rfl) ?_
  refine l_end ?_
  refine e_then ?_
  refine s_seq ?_
  refine s_seq ?_
  refine s_reg ?_
  refine l_w (w_call rfl (fact_c hs) rfl (fun _ w h => ?_))
  obtain ⟨rfl, hs⟩ := h; replace hd : Dg W w M (initS 7) [] := ⟨os, hos, hs⟩
  refine l_q (by first | exact y_not_t rfl | exact y_not_f rfl | exact y_notd rfl) ?_
  refine l_q (by exact y_mv_bool rfl) ?_
  first | refine l_gskip rfl rfl ?_ | refine l_gskip_u rfl rfl ?_ | refine l_gdo rfl rfl (by exact y_mv_int rfl) ?_
  first | refine l_gskip rfl rfl ?_ | refine l_gskip_u rfl rfl ?_ | refine l_gdo rfl rfl (by first | exact y_neq rfl rfl (decide_eq_true (by omega)) | exact y_neq rfl rfl (decide_eq_false (by omega)) | exact y_neq rfl rfl rfl) ?_
  refine l_q (by first | exact y_pk_bt rfl rfl | exact y_pk_bf rfl rfl) ?_
  refine l_q (by exact y_mv_bool rfl) ?_
  first | refine l_gskip rfl rfl ?_ | refine l_gskip_u rfl rfl ?_ | refine l_gdo rfl rfl (by exact y_mv_ptr rfl) ?_
  first | refine l_gskip rfl rfl ?_ | refine l_gskip_u rfl rfl ?_ | refine l_gdo rfl rfl (by first | exact y_ptr_nn rfl rfl | exact y_ptr_eql rfl rfl rfl) ?_
  refine l_q (by first | exact y_pk_bt rfl rfl | exact y_pk_bf rfl rfl) ?_
  refine l_end ?_
  refine e_then ?_
  refine cond_f rfl ?_
  refine s_skip ?_
  refine e_then ?_
  refine s_seq ?_
  refine s_reg ?_
  refine l_q (by exact y_mv_ptr rfl) ?_
  refine l_q (by exact y_mv_slice rfl) ?_
  refine l_q (by exact y_mv_slice rfl) ?_
  refine l_q (by exact y_mv_slice rfl) ?_
  refine l_w (w_call rfl (drawn_c h0 h1 h2 l0 l1 l2 hd) rfl (fun _ w h => ?_))
  obtain ⟨s, l, ol, n, rfl, D, hn9, hn34, hd⟩ := h; obtain ⟨ix, a, fa, hrx, hix, hga, Ka⟩ := drawn_k D (by omega) x; obtain ⟨iy, b, fb, hry, hiy, hgb, Kb⟩ := drawn_k D (by omega) y; obtain ⟨iz, c, fc, hrz, hiz, hgc, Kc⟩ := drawn_k D (by omega) z; have hln := D.len; have hokl := D.ok; obtain ⟨g, hg, had, hca⟩ := own_now hokl hix; obtain ⟨g2, hg2, had2, hcb⟩ := own_now hokl hiy; obtain ⟨g3, hg3, had3, hcc⟩ := own_now hokl hiz; rw [hg] at hg2 hg3; cases hg2; cases hg3; rw [hga] at hca; rw [hgb] at hcb; rw [hgc] at hcc; haveI := inl_blk hg (nV l) 3; have I := D.inv; have h7 := D.v7; have hc := D.cnt; obtain ⟨os, hos, hs⟩ := hd.ex
  refine l_q (by exact y_as_slice rfl) ?_
  refine l_end ?_
  refine e_then ?_
  refine s_seq ?_
  refine r_dr (.q 0 (.q 1 (.q 2 (.q 3 (.q 4 (.q 5 (.q 6 (.q 7 (.q 8 (.q 9 (.q 10 (.q 11 (.q 12 (.q 13 (.q 14 (.q 15 (.q 16 (.q 17 (.q 18 (.q 19 (.q 20 (.q 21 (.q 22 (.q 23 (.nil))))))))))))))))))))))))) 23 hs mixed (by kernel_rfl) (fun hs => ?_)
  refine c_q rfl (by first | exact hs | exact hs.subl | exact hs.cellAt rfl | trivial) (fun _ _ _ h => h) (fun w hs => by exact y_mv_slice rfl) ?_
  refine c_q rfl (by first | exact hs | exact hs.subl | exact hs.cellAt rfl | trivial) (fun _ _ _ h => h) (fun w hs => by exact y_mv_int rfl) ?_
  refine c_q rfl (by first | exact hs | exact hs.subl | exact hs.cellAt rfl | trivial) (fun _ _ _ h => h) (fun w hs => by exact y_mv_slice rfl) ?_
  refine c_q rfl (by first | exact hs | exact hs.subl | exact hs.cellAt rfl | trivial) (fun _ _ _ h => h) (fun w hs => by exact y_len_slice rfl) ?_
  refine c_qc rfl (by first | exact hs | exact hs.subl | exact hs.cellAt rfl | trivial) (fun _ _ _ h => h) rfl (fun w hs => by first | exact rest_e hrx _ (by omega) (by omega) | exact rest_e hry _ (by omega) (by omega) | exact rest_e hrz _ (by omega) (by omega)) rfl ?_
  refine c_q rfl (by first | exact hs | exact hs.subl | exact hs.cellAt rfl | trivial) (fun _ _ _ h => h) (fun w hs => by exact y_indexT (off := ix) rfl rfl (by omega) (by omega) had (by omega)) ?_
  refine c_q rfl (by first | exact hs | exact hs.subl | exact hs.cellAt rfl | trivial) (fun _ _ _ h => h) (fun w hs => by exact y_ld (v := I64 (a : Nat)) hs rfl hca) ?_
  refine c_q rfl (by first | exact hs | exact hs.subl | exact hs.cellAt rfl | trivial) (fun _ _ _ h => h) (fun w hs => by exact y_mv_slice rfl) ?_
  refine c_q rfl (by first | exact hs | exact hs.subl | exact hs.cellAt rfl | trivial) (fun _ _ _ h => h) (fun w hs => by exact y_mv_int rfl) ?_
  refine c_q rfl (by first | exact hs | exact hs.subl | exact hs.cellAt rfl | trivial) (fun _ _ _ h => h) (fun w hs => by exact y_mv_slice rfl) ?_
  refine c_q rfl (by first | exact hs | exact hs.subl | exact hs.cellAt rfl | trivial) (fun _ _ _ h => h) (fun w hs => by exact y_len_slice rfl) ?_
  refine c_qc rfl (by first | exact hs | exact hs.subl | exact hs.cellAt rfl | trivial) (fun _ _ _ h => h) rfl (fun w hs => by first | exact rest_e hrx _ (by omega) (by omega) | exact rest_e hry _ (by omega) (by omega) | exact rest_e hrz _ (by omega) (by omega)) rfl ?_
  refine c_q rfl (by first | exact hs | exact hs.subl | exact hs.cellAt rfl | trivial) (fun _ _ _ h => h) (fun w hs => by exact y_indexT (off := iy) rfl rfl (by omega) (by omega) had (by omega)) ?_
  refine c_q rfl (by first | exact hs | exact hs.subl | exact hs.cellAt rfl | trivial) (fun _ _ _ h => h) (fun w hs => by exact y_ld (v := I64 (b : Nat)) hs rfl hcb) ?_
  refine c_q rfl (by first | exact hs | exact hs.subl | exact hs.cellAt rfl | trivial) (fun _ _ _ h => h) (fun w hs => by exact y_mv_slice rfl) ?_
  refine c_q rfl (by first | exact hs | exact hs.subl | exact hs.cellAt rfl | trivial) (fun _ _ _ h => h) (fun w hs => by exact y_mv_int rfl) ?_
  refine c_q rfl (by first | exact hs | exact hs.subl | exact hs.cellAt rfl | trivial) (fun _ _ _ h => h) (fun w hs => by exact y_mv_slice rfl) ?_
  refine c_q rfl (by first | exact hs | exact hs.subl | exact hs.cellAt rfl | trivial) (fun _ _ _ h => h) (fun w hs => by exact y_len_slice rfl) ?_
  refine c_qc rfl (by first | exact hs | exact hs.subl | exact hs.cellAt rfl | trivial) (fun _ _ _ h => h) rfl (fun w hs => by first | exact rest_e hrx _ (by omega) (by omega) | exact rest_e hry _ (by omega) (by omega) | exact rest_e hrz _ (by omega) (by omega)) rfl ?_
  refine c_q rfl (by first | exact hs | exact hs.subl | exact hs.cellAt rfl | trivial) (fun _ _ _ h => h) (fun w hs => by exact y_indexT (off := iz) rfl rfl (by omega) (by omega) had (by omega)) ?_
  refine c_q rfl (by first | exact hs | exact hs.subl | exact hs.cellAt rfl | trivial) (fun _ _ _ h => h) (fun w hs => by exact y_ld (v := I64 (c : Nat)) hs rfl hcc) ?_
  refine c_q rfl (by first | exact hs | exact hs.subl | exact hs.cellAt rfl | trivial) (fun _ _ _ h => h) (fun w hs => by exact y_as_int rfl) ?_
  refine c_q rfl (by first | exact hs | exact hs.subl | exact hs.cellAt rfl | trivial) (fun _ _ _ h => h) (fun w hs => by exact y_as_int rfl) ?_
  refine c_q rfl (by first | exact hs | exact hs.subl | exact hs.cellAt rfl | trivial) (fun _ _ _ h => h) (fun w hs => by exact y_as_int rfl) ?_
  refine c_end ?_
  refine e_then ?_
  refine s_seq ?_
  refine s_reg ?_
  refine l_q (by exact y_mv_ptr rfl) ?_
  refine l_q (by exact y_mv_int rfl) ?_
  refine l_w (w_call rfl (not_k I h7 Ka (by omega) ⟨os, hos, hs⟩) rfl (fun _ w h => ?_))
  obtain ⟨s1, rna, rfl, N, Kna, hd⟩ := h; replace Ka := Ka.up I N; replace Kb := Kb.up I N; replace Kc := Kc.up I N; replace hc := (show s1.nodes.length ≤ 7254 from by have := N.cnt; omega); replace I := N.inv; replace h7 := N.ext.vars.trans h7; clear N
  refine l_q (by exact y_mv_tuple rfl) ?_
  refine l_q (by exact y_extract rfl rfl) ?_
  refine l_q (by exact y_extract rfl rfl) ?_
  refine l_q (by exact y_as_int rfl) ?_
  refine l_q (by exact y_as_int rfl) ?_
  refine l_end ?_
  refine e_then ?_
  refine s_seq ?_
  refine s_reg ?_
  refine l_q (by exact y_mv_ptr rfl) ?_
  refine l_q (by exact y_mv_int rfl) ?_
  refine l_w (w_call rfl (not_k I h7 Kb (by omega) hd) rfl (fun _ w h => ?_))
  obtain ⟨s2, rnb, rfl, N, Knb, hd⟩ := h; replace Ka := Ka.up I N; replace Kb := Kb.up I N; replace Kc := Kc.up I N; replace Kna := Kna.up I N; replace hc := (show s2.nodes.length ≤ 7508 from by have := N.cnt; omega); replace I := N.inv; replace h7 := N.ext.vars.trans h7; clear N
  refine l_q (by exact y_mv_tuple rfl) ?_
  refine l_q (by exact y_extract rfl rfl) ?_
  refine l_q (by exact y_extract rfl rfl) ?_
  refine l_q (by exact y_as_int rfl) ?_
  refine l_q (by exact y_as_int rfl) ?_
  refine l_end ?_
  refine e_then ?_
  refine s_seq ?_
  refine s_reg ?_
  refine l_q (by exact y_mv_ptr rfl) ?_
  refine l_q (by exact y_mv_int rfl) ?_
  refine l_q (by exact y_mv_int rfl) ?_
  refine l_w (w_call rfl (and_k I h7 Ka Kb (by omega) hd) rfl (fun _ w h => ?_))
  obtain ⟨s3, rab, rfl, N, Kab, hd⟩ := h; replace Ka := Ka.up I N; replace Kb := Kb.up I N; replace Kc := Kc.up I N; replace Kna := Kna.up I N; replace Knb := Knb.up I N; replace hc := (show s3.nodes.length ≤ 7762 from by have := N.cnt; omega); replace I := N.inv; replace h7 := N.ext.vars.trans h7; clear N
  refine l_q (by exact y_mv_tuple rfl) ?_
  refine l_q (by exact y_extract rfl rfl) ?_
  refine l_q (by exact y_extract rfl rfl) ?_
  refine l_q (by exact y_as_int rfl) ?_
  refine l_q (by exact y_as_int rfl) ?_
  refine l_end ?_
  refine e_then ?_
  refine s_seq ?_
  refine s_reg ?_
  refine l_q (by exact y_mv_ptr rfl) ?_
  refine l_q (by exact y_mv_int rfl) ?_
  refine l_q (by exact y_mv_int rfl) ?_
  refine l_w (w_call rfl (or_k I h7 Ka Kb (by omega) hd) rfl (fun _ w h => ?_))
  obtain ⟨s4, ror, rfl, N, Kor, hd⟩ := h; replace Ka := Ka.up I N; replace Kb := Kb.up I N; replace Kc := Kc.up I N; replace Kna := Kna.up I N; replace Knb := Knb.up I N; replace Kab := Kab.up I N; replace hc := (show s4.nodes.length ≤ 8016 from by have := N.cnt; omega); replace I := N.inv; replace h7 := N.ext.vars.trans h7; clear N
  refine l_q (by exact y_mv_tuple rfl) ?_
  refine l_q (by exact y_extract rfl rfl) ?_
  refine l_q (by exact y_extract rfl rfl) ?_
  refine l_q (by exact y_as_int rfl) ?_
  refine l_q (by exact y_as_int rfl) ?_
  refine l_end ?_
  refine e_then ?_
  refine s_seq ?_
  refine s_reg ?_
  refine l_q (by exact y_mv_ptr rfl) ?_
  refine l_q (by exact y_mv_int rfl) ?_
  refine l_q (by exact y_mv_int rfl) ?_
  refine l_w (w_call rfl (and_k I h7 Kna Knb (by omega) hd) rfl (fun _ w h => ?_))
  obtain ⟨s5, rnor, rfl, N, Knor, hd⟩ := h; replace Ka := Ka.up I N; replace Kb := Kb.up I N; replace Kc := Kc.up I N; replace Kna := Kna.up I N; replace Knb := Knb.up I N; replace Kab := Kab.up I N; replace Kor := Kor.up I N; replace hc := (show s5.nodes.length ≤ 8270 from by have := N.cnt; omega); replace I := N.inv; replace h7 := N.ext.vars.trans h7; clear N
  refine l_q (by exact y_mv_tuple rfl) ?_
  refine l_q (by exact y_extract rfl rfl) ?_
  refine l_q (by exact y_extract rfl rfl) ?_
  refine l_q (by exact y_as_int rfl) ?_
  refine l_q (by exact y_as_int rfl) ?_
  refine l_end ?_
  refine e_then ?_
  refine s_seq ?_
  refine s_reg ?_
  refine l_q (by exact y_mv_ptr rfl) ?_
  refine l_q (by exact y_mv_int rfl) ?_
  refine l_w (w_call rfl (not_k I h7 Kor (by omega) hd) rfl (fun _ w h => ?_))
  obtain ⟨s6, rnotor, rfl, N, Knotor, hd⟩ := h; replace Ka := Ka.up I N; replace Kb := Kb.up I N; replace Kc := Kc.up I N; replace Kna := Kna.up I N; replace Knb := Knb.up I N; replace Kab := Kab.up I N; replace Kor := Kor.up I N; replace Knor := Knor.up I N; replace hc := (show s6.nodes.length ≤ 8524 from by have := N.cnt; omega); replace I := N.inv; replace h7 := N.ext.vars.trans h7; clear N
  refine l_q (by exact y_mv_tuple rfl) ?_
  refine l_q (by exact y_extract rfl rfl) ?_
  refine l_q (by exact y_extract rfl rfl) ?_
  refine l_q (by exact y_as_int rfl) ?_
  refine l_q (by exact y_as_int rfl) ?_
  refine l_end ?_
  refine e_then ?_
  refine s_seq ?_
  refine s_reg ?_
  refine l_q (by exact y_mv_ptr rfl) ?_
  refine l_q (by exact y_mv_int rfl) ?_
  refine l_q (by exact y_mv_int rfl) ?_
  refine l_w (w_call rfl (and_k I h7 Ka Kc (by omega) hd) rfl (fun _ w h => ?_))
  obtain ⟨s7, rac, rfl, N, Kac, hd⟩ := h; replace Ka := Ka.up I N; replace Kb := Kb.up I N; replace Kc := Kc.up I N; replace Kna := Kna.up I N; replace Knb := Knb.up I N; replace Kab := Kab.up I N; replace Kor := Kor.up I N; replace Knor := Knor.up I N; replace Knotor := Knotor.up I N; replace hc := (show s7.nodes.length ≤ 8778 from by have := N.cnt; omega); replace I := N.inv; replace h7 := N.ext.vars.trans h7; clear N
  refine l_q (by exact y_mv_tuple rfl) ?_
  refine l_q (by exact y_extract rfl rfl) ?_
  refine l_q (by exact y_extract rfl rfl) ?_
  refine l_q (by exact y_as_int rfl) ?_
  refine l_q (by exact y_as_int rfl) ?_
  refine l_end ?_
  refine e_then ?_
  refine s_seq ?_
  refine s_reg ?_
  refine l_q (by exact y_mv_ptr rfl) ?_
  refine l_q (by exact y_mv_int rfl) ?_
  refine l_q (by exact y_mv_int rfl) ?_
  refine l_w (w_call rfl (or_k I h7 Kb Kc (by omega) hd) rfl (fun _ w h => ?_))
  obtain ⟨s8, rbc, rfl, N, Kbc, hd⟩ := h; replace Ka := Ka.up I N; replace Kb := Kb.up I N; replace Kc := Kc.up I N; replace Kna := Kna.up I N; replace Knb := Knb.up I N; replace Kab := Kab.up I N; replace Kor := Kor.up I N; replace Knor := Knor.up I N; replace Knotor := Knotor.up I N; replace Kac := Kac.up I N; replace hc := (show s8.nodes.length ≤ 9032 from by have := N.cnt; omega); replace I := N.inv; replace h7 := N.ext.vars.trans h7; clear N
  refine l_q (by exact y_mv_tuple rfl) ?_
  refine l_q (by exact y_extract rfl rfl) ?_
  refine l_q (by exact y_extract rfl rfl) ?_
  refine l_q (by exact y_as_int rfl) ?_
  refine l_q (by exact y_as_int rfl) ?_
  refine l_end ?_
  refine e_then ?_
  refine s_seq ?_
  refine s_reg ?_
  refine l_q (by exact y_mv_ptr rfl) ?_
  refine l_q (by exact y_mv_int rfl) ?_
  refine l_q (by exact y_mv_int rfl) ?_
  refine l_w (w_call rfl (and_k I h7 Ka Kbc (by omega) hd) rfl (fun _ w h => ?_))
  obtain ⟨s9, rabc, rfl, N, Kabc, hd⟩ := h; replace Ka := Ka.up I N; replace Kb := Kb.up I N; replace Kc := Kc.up I N; replace Kna := Kna.up I N; replace Knb := Knb.up I N; replace Kab := Kab.up I N; replace Kor := Kor.up I N; replace Knor := Knor.up I N; replace Knotor := Knotor.up I N; replace Kac := Kac.up I N; replace Kbc := Kbc.up I N; replace hc := (show s9.nodes.length ≤ 9286 from by have := N.cnt; omega); replace I := N.inv; replace h7 := N.ext.vars.trans h7; clear N
  refine l_q (by exact y_mv_tuple rfl) ?_
  refine l_q (by exact y_extract rfl rfl) ?_
  refine l_q (by exact y_extract rfl rfl) ?_
  refine l_q (by exact y_as_int rfl) ?_
  refine l_q (by exact y_as_int rfl) ?_
  refine l_end ?_
  refine e_then ?_
  refine s_seq ?_
  refine s_reg ?_
  refine l_q (by exact y_mv_ptr rfl) ?_
  refine l_q (by exact y_mv_int rfl) ?_
  refine l_q (by exact y_mv_int rfl) ?_
  refine l_w (w_call rfl (or_k I h7 Kab Kac (by omega) hd) rfl (fun _ w h => ?_))
  obtain ⟨s10, rboth, rfl, N, Kboth, hd⟩ := h; replace Ka := Ka.up I N; replace Kb := Kb.up I N; replace Kc := Kc.up I N; replace Kna := Kna.up I N; replace Knb := Knb.up I N; replace Kab := Kab.up I N; replace Kor := Kor.up I N; replace Knor := Knor.up I N; replace Knotor := Knotor.up I N; replace Kac := Kac.up I N; replace Kbc := Kbc.up I N; replace Kabc := Kabc.up I N; replace hc := (show s10.nodes.length ≤ 9540 from by have := N.cnt; omega); replace I := N.inv; replace h7 := N.ext.vars.trans h7; clear N
  refine l_q (by exact y_mv_tuple rfl) ?_
  refine l_q (by exact y_extract rfl rfl) ?_
  refine l_q (by exact y_extract rfl rfl) ?_
  refine l_q (by exact y_as_int rfl) ?_
  refine l_q (by exact y_as_int rfl) ?_
  refine l_end ?_
  refine e_then ?_
  refine s_seq ?_
  refine s_reg ?_
  refine l_q (by exact y_mv_ptr rfl) ?_
  refine l_q (by exact y_mv_int rfl) ?_
  refine l_q (by exact y_mv_int rfl) ?_
  refine l_w (w_call rfl (or_k I h7 Ka Kab (by omega) hd) rfl (fun _ w h => ?_))
  obtain ⟨s11, rabs, rfl, N, Kabs, hd⟩ := h; replace Ka := Ka.up I N; replace Kb := Kb.up I N; replace Kc := Kc.up I N; replace Kna := Kna.up I N; replace Knb := Knb.up I N; replace Kab := Kab.up I N; replace Kor := Kor.up I N; replace Knor := Knor.up I N; replace Knotor := Knotor.up I N; replace Kac := Kac.up I N; replace Kbc := Kbc.up I N; replace Kabc := Kabc.up I N; replace Kboth := Kboth.up I N; replace hc := (show s11.nodes.length ≤ 9794 from by have := N.cnt; omega); replace I := N.inv; replace h7 := N.ext.vars.trans h7; clear N
  refine l_q (by exact y_mv_tuple rfl) ?_
  refine l_q (by exact y_extract rfl rfl) ?_
  refine l_q (by exact y_extract rfl rfl) ?_
  refine l_q (by exact y_as_int rfl) ?_
  refine l_q (by exact y_as_int rfl) ?_
  refine l_end ?_
  refine e_then ?_
  refine s_seq ?_
  refine s_reg ?_
  refine l_q (by exact y_mv_ptr rfl) ?_
  refine l_q (by exact y_mv_int rfl) ?_
  refine l_q (by exact y_mv_int rfl) ?_
  refine l_w (w_call rfl (xor_k I h7 Ka Kb (by omega) hd) rfl (fun _ w h => ?_))
  obtain ⟨s12, rxor, rfl, N, Kxor, hd⟩ := h; replace Ka := Ka.up I N; replace Kb := Kb.up I N; replace Kc := Kc.up I N; replace Kna := Kna.up I N; replace Knb := Knb.up I N; replace Kab := Kab.up I N; replace Kor := Kor.up I N; replace Knor := Knor.up I N; replace Knotor := Knotor.up I N; replace Kac := Kac.up I N; replace Kbc := Kbc.up I N; replace Kabc := Kabc.up I N; replace Kboth := Kboth.up I N; replace Kabs := Kabs.up I N; replace hc := (show s12.nodes.length ≤ 10048 from by have := N.cnt; omega); replace I := N.inv; replace h7 := N.ext.vars.trans h7; clear N
  refine l_q (by exact y_mv_tuple rfl) ?_
  refine l_q (by exact y_extract rfl rfl) ?_
  refine l_q (by exact y_extract rfl rfl) ?_
  refine l_q (by exact y_as_int rfl) ?_
  refine l_q (by exact y_as_int rfl) ?_
  refine l_end ?_
  refine e_then ?_
  refine s_seq ?_
  refine s_reg ?_
  refine l_q (by exact y_mv_ptr rfl) ?_
  refine l_q (by exact y_mv_int rfl) ?_
  refine l_w (w_call rfl (not_k I h7 Kab (by omega) hd) rfl (fun _ w h => ?_))
  obtain ⟨s13, rnot, rfl, N, Knot, hd⟩ := h; replace Ka := Ka.up I N; replace Kb := Kb.up I N; replace Kc := Kc.up I N; replace Kna := Kna.up I N; replace Knb := Knb.up I N; replace Kab := Kab.up I N; replace Kor := Kor.up I N; replace Knor := Knor.up I N; replace Knotor := Knotor.up I N; replace Kac := Kac.up I N; replace Kbc := Kbc.up I N; replace Kabc := Kabc.up I N; replace Kboth := Kboth.up I N; replace Kabs := Kabs.up I N; replace Kxor := Kxor.up I N; replace hc := (show s13.nodes.length ≤ 10302 from by have := N.cnt; omega); replace I := N.inv; replace h7 := N.ext.vars.trans h7; clear N
  refine l_q (by exact y_mv_tuple rfl) ?_
  refine l_q (by exact y_extract rfl rfl) ?_
  refine l_q (by exact y_extract rfl rfl) ?_
  refine l_q (by exact y_as_int rfl) ?_
  refine l_q (by exact y_as_int rfl) ?_
  refine l_end ?_
  refine e_then ?_
  refine s_seq ?_
  refine s_reg ?_
  refine l_q (by exact y_mv_ptr rfl) ?_
  refine l_q (by exact y_mv_int rfl) ?_
  refine l_q (by exact y_mv_int rfl) ?_
  refine l_w (w_call rfl (and_k I h7 Kor Knot (by omega) hd) rfl (fun _ w h => ?_))
  obtain ⟨s14, rsome, rfl, N, Ksome, hd⟩ := h; replace Ka := Ka.up I N; replace Kb := Kb.up I N; replace Kc := Kc.up I N; replace Kna := Kna.up I N; replace Knb := Knb.up I N; replace Kab := Kab.up I N; replace Kor := Kor.up I N; replace Knor := Knor.up I N; replace Knotor := Knotor.up I N; replace Kac := Kac.up I N; replace Kbc := Kbc.up I N; replace Kabc := Kabc.up I N; replace Kboth := Kboth.up I N; replace Kabs := Kabs.up I N; replace Kxor := Kxor.up I N; replace Knot := Knot.up I N; replace hc := (show s14.nodes.length ≤ 10556 from by have := N.cnt; omega); replace I := N.inv; replace h7 := N.ext.vars.trans h7; clear N
  refine l_q (by exact y_mv_tuple rfl) ?_
  refine l_q (by exact y_extract rfl rfl) ?_
  refine l_q (by exact y_extract rfl rfl) ?_
  refine l_q (by exact y_as_int rfl) ?_
  refine l_q (by exact y_as_int rfl) ?_
  refine l_end ?_
  refine e_then ?_
  refine s_seq ?_
  refine s_reg ?_
  refine l_q (by exact y_mv_ptr rfl) ?_
  refine l_q (by exact y_mv_int rfl) ?_
  refine l_w (w_call rfl (not_k I h7 Kna (by omega) hd) rfl (fun _ w h => ?_))
  obtain ⟨s15, rback, rfl, N, Kback, hd⟩ := h; replace Ka := Ka.up I N; replace Kb := Kb.up I N; replace Kc := Kc.up I N; replace Kna := Kna.up I N; replace Knb := Knb.up I N; replace Kab := Kab.up I N; replace Kor := Kor.up I N; replace Knor := Knor.up I N; replace Knotor := Knotor.up I N; replace Kac := Kac.up I N; replace Kbc := Kbc.up I N; replace Kabc := Kabc.up I N; replace Kboth := Kboth.up I N; replace Kabs := Kabs.up I N; replace Kxor := Kxor.up I N; replace Knot := Knot.up I N; replace Ksome := Ksome.up I N; replace hc := (show s15.nodes.length ≤ 10810 from by have := N.cnt; omega); replace I := N.inv; replace h7 := N.ext.vars.trans h7; clear N
  refine l_q (by exact y_mv_tuple rfl) ?_
  refine l_q (by exact y_extract rfl rfl) ?_
  refine l_q (by exact y_extract rfl rfl) ?_
  refine l_q (by exact y_as_int rfl) ?_
  refine l_q (by exact y_as_int rfl) ?_
  refine l_end ?_
  refine e_then ?_
  refine s_seq ?_
  refine s_reg ?_
  refine l_q (by exact y_mv_ptr rfl) ?_
  refine l_q (by exact y_mv_int rfl) ?_
  refine l_q (by exact y_mv_int rfl) ?_
  refine l_w (w_call rfl (or_k I h7 Ka Kna (by omega) hd) rfl (fun _ w h => ?_))
  obtain ⟨s16, rone, rfl, N, Kone, hd⟩ := h; replace Ka := Ka.up I N; replace Kb := Kb.up I N; replace Kc := Kc.up I N; replace Kna := Kna.up I N; replace Knb := Knb.up I N; replace Kab := Kab.up I N; replace Kor := Kor.up I N; replace Knor := Knor.up I N; replace Knotor := Knotor.up I N; replace Kac := Kac.up I N; replace Kbc := Kbc.up I N; replace Kabc := Kabc.up I N; replace Kboth := Kboth.up I N; replace Kabs := Kabs.up I N; replace Kxor := Kxor.up I N; replace Knot := Knot.up I N; replace Ksome := Ksome.up I N; replace Kback := Kback.up I N; replace hc := (show s16.nodes.length ≤ 11064 from by have := N.cnt; omega); replace I := N.inv; replace h7 := N.ext.vars.trans h7; clear N
  refine l_q (by exact y_mv_tuple rfl) ?_
  refine l_q (by exact y_extract rfl rfl) ?_
  refine l_q (by exact y_extract rfl rfl) ?_
  refine l_q (by exact y_as_int rfl) ?_
  refine l_q (by exact y_as_int rfl) ?_
  refine l_end ?_
  refine e_then ?_
  refine s_seq ?_
  refine s_reg ?_
  refine l_q (by exact y_mv_ptr rfl) ?_
  refine l_q (by exact y_mv_int rfl) ?_
  refine l_q (by exact y_mv_int rfl) ?_
  refine l_w (w_call rfl (and_k I h7 Ka Kna (by omega) hd) rfl (fun _ w h => ?_))
  obtain ⟨s17, rzero, rfl, N, Kzero, hd⟩ := h; replace Ka := Ka.up I N; replace Kb := Kb.up I N; replace Kc := Kc.up I N; replace Kna := Kna.up I N; replace Knb := Knb.up I N; replace Kab := Kab.up I N; replace Kor := Kor.up I N; replace Knor := Knor.up I N; replace Knotor := Knotor.up I N; replace Kac := Kac.up I N; replace Kbc := Kbc.up I N; replace Kabc := Kabc.up I N; replace Kboth := Kboth.up I N; replace Kabs := Kabs.up I N; replace Kxor := Kxor.up I N; replace Knot := Knot.up I N; replace Ksome := Ksome.up I N; replace Kback := Kback.up I N; replace Kone := Kone.up I N; replace hc := (show s17.nodes.length ≤ 11318 from by have := N.cnt; omega); replace I := N.inv; replace h7 := N.ext.vars.trans h7; clear N; have e0 := Kn.eq I Knor Knotor (fun e => by cases fa e <;> cases fb e <;> rfl); have e1 := Kn.eq I Kabc Kboth (fun e => by cases fa e <;> cases fb e <;> cases fc e <;> rfl); have e2 := Kn.eq I Kabs Ka (fun e => by cases fa e <;> cases fb e <;> rfl); have e3 := Kn.eq I Kxor Ksome (fun e => by cases fa e <;> cases fb e <;> rfl); have e4 := Kn.eq I Kback Ka (fun e => by cases fa e <;> rfl); have e5 := Kn.eq I Kone (kn1 I) (fun e => by cases fa e <;> rfl); have e6 := Kn.eq I Kzero (kn0 I) (fun e => by cases fa e <;> rfl)
  refine l_q (by exact y_mv_tuple rfl) ?_
  refine l_q (by exact y_extract rfl rfl) ?_
  refine l_q (by exact y_extract rfl rfl) ?_
  refine l_q (by exact y_as_int rfl) ?_
  refine l_q (by exact y_as_int rfl) ?_
  refine l_end ?_
  refine e_then ?_
  refine s_seq ?_
  refine s_reg ?_
  refine l_q (by exact y_mv_int rfl) ?_
  refine l_q (by exact y_mv_int rfl) ?_
  refine l_q (by first | exact y_eql rfl rfl (decide_eq_true (by omega)) | exact y_eql rfl rfl (decide_eq_false (by omega)) | exact y_eql rfl rfl rfl) ?_
  refine l_q (by exact y_mv_bool rfl) ?_
  first | refine l_gskip rfl rfl ?_ | refine l_gskip_u rfl rfl ?_ | refine l_gdo rfl rfl (by exact y_mv_int rfl) ?_
  first | refine l_gskip rfl rfl ?_ | refine l_gskip_u rfl rfl ?_ | refine l_gdo rfl rfl (by exact y_mv_int rfl) ?_
  first | refine l_gskip rfl rfl ?_ | refine l_gskip_u rfl rfl ?_ | refine l_gdo rfl rfl (by first | exact y_eql rfl rfl (decide_eq_true (by omega)) | exact y_eql rfl rfl (decide_eq_false (by omega)) | exact y_eql rfl rfl rfl) ?_
  refine l_q (by first | exact y_pk_bt rfl rfl | exact y_pk_bf rfl rfl) ?_
  refine l_q (by exact y_mv_bool rfl) ?_
  first | refine l_gskip rfl rfl ?_ | refine l_gskip_u rfl rfl ?_ | refine l_gdo rfl rfl (by exact y_mv_int rfl) ?_
  first | refine l_gskip rfl rfl ?_ | refine l_gskip_u rfl rfl ?_ | refine l_gdo rfl rfl (by exact y_mv_int rfl) ?_
  first | refine l_gskip rfl rfl ?_ | refine l_gskip_u rfl rfl ?_ | refine l_gdo rfl rfl (by first | exact y_eql rfl rfl (decide_eq_true (by omega)) | exact y_eql rfl rfl (decide_eq_false (by omega)) | exact y_eql rfl rfl rfl) ?_
  refine l_q (by first | exact y_pk_bt rfl rfl | exact y_pk_bf rfl rfl) ?_
  refine l_q (by exact y_mv_bool rfl) ?_
  first | refine l_gskip rfl rfl ?_ | refine l_gskip_u rfl rfl ?_ | refine l_gdo rfl rfl (by exact y_mv_int rfl) ?_
  first | refine l_gskip rfl rfl ?_ | refine l_gskip_u rfl rfl ?_ | refine l_gdo rfl rfl (by exact y_mv_int rfl) ?_
  first | refine l_gskip rfl rfl ?_ | refine l_gskip_u rfl rfl ?_ | refine l_gdo rfl rfl (by first | exact y_eql rfl rfl (decide_eq_true (by omega)) | exact y_eql rfl rfl (decide_eq_false (by omega)) | exact y_eql rfl rfl rfl) ?_
  refine l_q (by first | exact y_pk_bt rfl rfl | exact y_pk_bf rfl rfl) ?_
  refine l_q (by exact y_mv_bool rfl) ?_
  first | refine l_gskip rfl rfl ?_ | refine l_gskip_u rfl rfl ?_ | refine l_gdo rfl rfl (by exact y_mv_int rfl) ?_
  first | refine l_gskip rfl rfl ?_ | refine l_gskip_u rfl rfl ?_ | refine l_gdo rfl rfl (by exact y_mv_int rfl) ?_
  first | refine l_gskip rfl rfl ?_ | refine l_gskip_u rfl rfl ?_ | refine l_gdo rfl rfl (by first | exact y_eql rfl rfl (decide_eq_true (by omega)) | exact y_eql rfl rfl (decide_eq_false (by omega)) | exact y_eql rfl rfl rfl) ?_
  refine l_q (by first | exact y_pk_bt rfl rfl | exact y_pk_bf rfl rfl) ?_
  refine l_q (by exact y_mv_bool rfl) ?_
  first | refine l_gskip rfl rfl ?_ | refine l_gskip_u rfl rfl ?_ | refine l_gdo rfl rfl (by exact y_mv_int rfl) ?_
  first | refine l_gskip rfl rfl ?_ | refine l_gskip_u rfl rfl ?_ | refine l_gdo rfl rfl (by first | exact y_eql rfl rfl (decide_eq_true (by omega)) | exact y_eql rfl rfl (decide_eq_false (by omega)) | exact y_eql rfl rfl rfl) ?_
  refine l_q (by first | exact y_pk_bt rfl rfl | exact y_pk_bf rfl rfl) ?_
  refine l_q (by exact y_mv_bool rfl) ?_
  first | refine l_gskip rfl rfl ?_ | refine l_gskip_u rfl rfl ?_ | refine l_gdo rfl rfl (by exact y_mv_int rfl) ?_
  first | refine l_gskip rfl rfl ?_ | refine l_gskip_u rfl rfl ?_ | refine l_gdo rfl rfl (by first | exact y_eql rfl rfl (decide_eq_true (by omega)) | exact y_eql rfl rfl (decide_eq_false (by omega)) | exact y_eql rfl rfl rfl) ?_
  refine l_q (by first | exact y_pk_bt rfl rfl | exact y_pk_bf rfl rfl) ?_
  refine l_q (by exact y_as_bool rfl) ?_
  refine l_end ?_
  refine e_then ?_
  refine s_ret ?_
  exact ret_ [.bool _] rfl ⟨rfl, trivial⟩ ⟨rfl, hd.rest.nil⟩
end Go.Proofs.Ytfjniocobcoepaa
