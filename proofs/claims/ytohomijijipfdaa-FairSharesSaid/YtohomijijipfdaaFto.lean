/- Facts on the functions and types of this seat that its laws are proved from: contracts under the premises that each theorem names. -/
import Derived.Test.YtohomijijipfdaaFtn
set_option linter.unusedSimpArgs false
set_option linter.unusedVariables false
set_option linter.unnecessarySimpa false
namespace Go.Proofs.Ytohomijijipfdaa
open Go Go.RowKit PB
set_option linter.unusedVariables false


theorem served_c {W0 w : World} {R : List (Nat × MObj)} {s : OS} {ws : List Int} {Q : Int} (hsok : s.ok (ws.map I64) ws.length 1) (n1 : 1 ≤ ws.length) (n2 : ws.length ≤ 8) (hw : ∀ w ∈ ws, 1 ≤ w ∧ w ≤ 100) (q1 : 1 ≤ Q) (q2 : Q ≤ 1500)
    {a2 : Option Addr} {len2 cap2 : Nat} {z2 : List Int} (h2 : Ints W0 a2 len2 z2) (l2 : len2 ≤ 9223372036854775807) (l2' : 1 ≤ len2) (hs : St W0 w (s.blk (ws.map I64) 3 ++ R)) :
    FnC Try.prog 14 [.slice s.ad ws.length s.cap, I64 Q, .slice a2 len2 cap2] w (fun v w' => ∃ (b : Nat) (sv : List Int), v = .tuple #[.slice (some ⟨b, 0, none⟩) ws.length ws.length, .bool true] ∧ Share ws Q sv ∧ St W0 w' ((b, .cells (sv.map I64) 3) :: (s.blk (ws.map I64) 3 ++ R))) := by
  refine FnC.enter Try.func14 rfl Try.ntmps14 rfl fun ρ => ?_
  refine s_seq ?_
  refine s_reg ?_
  refine l_q (by exact y_as_slice rfl) ?_
  refine l_q (by exact y_as_bool rfl) ?_
  refine l_end ?_
  refine e_then ?_
  refine s_seq ?_
  refine s_reg ?_
  refine l_q (by exact y_mv_slice rfl) ?_
  refine l_q (by exact y_mv_int rfl) ?_
  refine l_w (w_call rfl (new_c hsok n1 n2 hw q1 q2 hs) rfl (fun _ w h => ?_))
  obtain ⟨x, rfl, hok, habs, hs⟩ := h
  refine l_q (by exact y_mv_tuple rfl) ?_
  refine l_q (by exact y_extract rfl rfl) ?_
  refine l_q (by exact y_extract rfl rfl) ?_
  refine l_q (by exact y_as_ptr rfl) ?_
  refine l_q (by exact y_as_int rfl) ?_
  refine l_end ?_
  refine e_then ?_
  refine s_seq ?_
  refine s_seq ?_
  refine s_reg ?_
  refine l_q (by exact y_mv_int rfl) ?_
  refine l_q (by first | exact y_neq rfl rfl (decide_eq_true (by omega)) | exact y_neq rfl rfl (decide_eq_false (by omega)) | exact y_neq rfl rfl rfl) ?_
  refine l_q (by exact y_mv_bool rfl) ?_
  first | refine l_gskip rfl rfl ?_ | refine l_gskip_u rfl rfl ?_ | refine l_gdo rfl rfl (by exact y_mv_ptr rfl) ?_
  first | refine l_gskip rfl rfl ?_ | refine l_gskip_u rfl rfl ?_ | refine l_gdo rfl rfl (by first | exact y_ptr_nn rfl rfl | exact y_ptr_eql rfl rfl rfl) ?_
  refine l_q (by first | exact y_pk_bt rfl rfl | exact y_pk_bf rfl rfl) ?_
  refine l_q (by exact y_mv_bool rfl) ?_
  first | refine l_gskip rfl rfl ?_ | refine l_gskip_u rfl rfl ?_ | refine l_gdo rfl rfl (by exact y_mv_slice rfl) ?_
  first | refine l_gskip rfl rfl ?_ | refine l_gskip_u rfl rfl ?_ | refine l_gdo rfl rfl (by exact y_len_slice rfl) ?_
  first | refine l_gskip rfl rfl ?_ | refine l_gskip_u rfl rfl ?_ | refine l_gdo rfl rfl (by first | exact y_eql rfl rfl (decide_eq_true (by omega)) | exact y_eql rfl rfl (decide_eq_false (by omega)) | exact y_eql rfl rfl rfl) ?_
  refine l_q (by first | exact y_pk_bt rfl rfl | exact y_pk_bf rfl rfl) ?_
  refine l_end ?_
  refine e_then ?_
  refine cond_f rfl ?_
  refine s_skip ?_
  refine e_then ?_
  refine s_seq ?_
  refine s_seq ?_
  refine s_reg ?_
  refine l_q (by exact y_mv_slice rfl) ?_
  refine l_q (by exact y_len_slice rfl) ?_
  refine l_q (by exact y_mv_int rfl) ?_
  refine l_end ?_
  refine e_then ?_
  refine s_block ?_
  have hfill := fill_new (wf_new n1 n2 hw q1 q2)
  rw [show Ab.new ws Q = x.abs from habs.symm] at hfill
  generalize s.blk (ws.map I64) 3 ++ R = R at hs
  obtain ⟨b, hb⟩ : ∃ b, b = x.qb := ⟨_, rfl⟩
  rw [← hb]
  refine loop_st (X := Nat × QI) (fun y => [(0, .slice s.ad ws.length s.cap), (2, .slice a2 len2 cap2), (8, .pointer (some ⟨b, 0, none⟩)), (37, I64 ws.length), (38, I64 y.1)])
    (fun y w => St W0 w (y.2.L R) ∧ y.2.qb = b ∧ y.2.ok ∧ FillA y.2.abs ws Q y.1 0 ∧ y.1 ≤ ws.length) (fun y => ws.length - y.1) (0, x) ⟨rfl, rfl, rfl, rfl, rfl, trivial⟩ ⟨hs, hb.symm, hok, hfill, by dsimp only; omega⟩ ?_
  clear hs hok habs hb hfill
  rintro ⟨k, x⟩ ρ w ⟨hs, hqb, hok, hfill, k1⟩
  dsimp only at *
  by_cases c : k < ws.length
  · refine s_seq ?_
    refine s_reg ?_
    refine l_q (by first | exact y_lss rfl rfl (decide_eq_true (by omega)) | exact y_lss rfl rfl (decide_eq_false (by omega)) | exact y_lss rfl rfl rfl) ?_
    refine l_end ?_
    refine e_then ?_
    refine s_seq ?_
    refine cond_t rfl ?_
    refine s_skip ?_
    refine e_then ?_
    refine s_seq ?_
    refine s_block ?_
    refine s_seq ?_
    refine s_reg ?_
    refine l_q (by exact y_mv_int rfl) ?_
    refine l_q (by exact y_as_int rfl) ?_
    refine l_end ?_
    refine e_then ?_
    refine s_seq ?_
    refine s_reg ?_
    refine l_q (by exact y_as_int rfl) ?_
    refine l_end ?_
    refine e_then ?_
    refine s_block ?_
    refine loop_st (X := Nat × QI) (fun y => [(0, .slice s.ad ws.length s.cap), (2, .slice a2 len2 cap2), (8, .pointer (some ⟨b, 0, none⟩)), (10, I64 k), (11, I64 y.1), (37, I64 ws.length), (38, I64 k)])
      (fun y w => St W0 w (y.2.L R) ∧ y.2.qb = b ∧ y.2.ok ∧ FillA y.2.abs ws Q k y.1 ∧ y.1 ≤ 50) (fun y => 50 - y.1) (0, x) ⟨rfl, rfl, rfl, rfl, rfl, rfl, rfl, trivial⟩ ⟨hs, hqb, hok, hfill, by dsimp only; omega⟩ ?_
    clear hs hok hqb hfill
    rintro ⟨i, x⟩ ρ w ⟨hs, hqb, hok, hfill, i1⟩
    dsimp only at *
    by_cases c2 : i < 50
    · have hix := Nat.mod_lt (k * 7 + i) l2'
      obtain ⟨x2, hx2, hc2⟩ := h2.at_ _ hix
      obtain ⟨sz, hsz, hsz2⟩ := nat_mod (z2.getD ((k * 7 + i) % len2) 0) (n := 100) (by omega)
      have hqn : x.abs.qs.length = ws.length := by rw [← hfill.ws_]; simp [wsOf]
      have hget : x.abs.qs[k]? = some x.abs.qs[k] := List.getElem?_eq_getElem (by omega)
      generalize x.abs.qs[k] = q at hget
      have hl : q.ws.length < 64 := by
        have := (hfill.qs _ _ hget).2.2
        rw [if_neg (Nat.lt_irrefl _), if_pos rfl] at this; omega
      refine s_seq ?_
      refine s_seq ?_
      refine s_reg ?_
      refine l_q (by exact y_mv_int rfl) ?_
      refine l_q (by first | exact y_lss rfl rfl (decide_eq_true (by omega)) | exact y_lss rfl rfl (decide_eq_false (by omega)) | exact y_lss rfl rfl rfl) ?_
      refine l_end ?_
      refine e_then ?_
      refine cond_t rfl ?_
      refine s_skip ?_
      refine e_then ?_
      refine s_seq ?_
      refine s_block ?_
      refine s_seq ?_
      refine s_reg ?_
      refine l_q (by exact y_mv_slice rfl) ?_
      refine l_q (by exact y_mv_int rfl) ?_
      refine l_q (by first | exact y_muln rfl rfl (by omega) | exact y_mul rfl rfl rfl) ?_
      refine l_q (by exact y_mv_int rfl) ?_
      refine l_q (by first | exact y_addn rfl rfl (by omega) | exact y_add rfl rfl rfl) ?_
      refine l_q (by exact y_mv_slice rfl) ?_
      refine l_q (by exact y_len_slice rfl) ?_
      refine l_q (by exact y_toI (b := (((k * 7 + i) % len2 : Nat) : Int)) (y_remn rfl rfl (by omega)) (by rw [Int.natCast_emod, Int.natCast_add, Int.natCast_mul]; rfl)) ?_
      refine l_q (by exact y_indexA1 rfl rfl (by omega) (by omega) hx2) ?_
      refine l_q (by exact y_ldOld hs rfl hc2) ?_
      refine l_w (w_call rfl (rest_k hsz _ (by omega) (by omega)) rfl (fun _ w h => ?_))
      obtain ⟨rfl, rfl⟩ := h
      refine l_q (by exact y_toI (b := ((sz + 1 : Nat) : Int)) (y_addn rfl rfl (by omega)) (by omega)) ?_
      refine l_q (by exact y_as_int rfl) ?_
      refine l_end ?_
      refine e_then ?_
      refine s_seq ?_
      refine s_reg ?_
      refine l_q (by exact y_mv_ptr rfl) ?_
      refine l_q (by exact y_mv_int rfl) ?_
      refine l_q (by exact y_mv_int rfl) ?_
      refine l_w (w_makeSlice (m := sz + 1) hs rfl rfl (by omega) (by omega) (fun b60 w hs hb60 => ?_))
      refine l_q (by exact y_b2z hs rfl rfl) ?_
      refine l_w (w_call rfl (put_b hqb hok hget (by rw [zstr_size]; omega) hl hs.tail) rfl (fun _ w h => ?_))
      obtain ⟨rfl, x', hqb', hok', habs', hs⟩ := h
      refine l_q (by first | exact y_neq rfl rfl (decide_eq_true (by omega)) | exact y_neq rfl rfl (decide_eq_false (by omega)) | exact y_neq rfl rfl rfl) ?_
      refine l_end ?_
      refine e_then ?_
      refine cond_f rfl ?_
      refine s_skip ?_
      refine e_blk ?_
      refine e_then ?_
      refine s_reg ?_
      refine l_q (by exact y_mv_int rfl) ?_
      refine l_q (by first | exact y_addn rfl rfl (by omega) | exact y_add rfl rfl rfl) ?_
      refine l_q (by exact y_as_int rfl) ?_
      refine l_end ?_
      refine e_then ?_
      exact ⟨(i + 1, x'), _, nx ⟨rfl, rfl, rfl, rfl, rfl, rfl, rfl, trivial⟩, ⟨hs, hqb', hok', by dsimp only; rw [habs']; exact fill_put hfill c2 hget (by rw [zstr_size]; omega), by dsimp only; omega⟩, by dsimp only; omega⟩
    · have hi : 50 = i := by omega
      subst hi
      refine s_seq ?_
      refine s_seq ?_
      refine s_reg ?_
      refine l_q (by exact y_mv_int rfl) ?_
      refine l_q (by first | exact y_lss rfl rfl (decide_eq_true (by omega)) | exact y_lss rfl rfl (decide_eq_false (by omega)) | exact y_lss rfl rfl rfl) ?_
      refine l_end ?_
      refine e_then ?_
      refine cond_f rfl ?_
      refine s_exit ?_
      refine e_then_x ?_
      refine e_then_x ?_
      refine e_blk_x ?_
      refine e_blk ?_
      refine e_then ?_
      refine s_reg ?_
      refine l_q (by first | exact y_addn rfl rfl (by omega) | exact y_add rfl rfl rfl) ?_
      refine l_q (by exact y_mv_int rfl) ?_
      refine l_end ?_
      refine e_then ?_
      exact ⟨(k + 1, x), _, nx ⟨rfl, rfl, rfl, rfl, rfl, trivial⟩, ⟨hs, hqb, hok, fill_next hfill, by dsimp only; omega⟩, by dsimp only; omega⟩
  · have hk : ws.length = k := by omega
    subst hk
    refine s_seq ?_
    refine s_reg ?_
    refine l_q (by first | exact y_lss rfl rfl (decide_eq_true (by omega)) | exact y_lss rfl rfl (decide_eq_false (by omega)) | exact y_lss rfl rfl rfl) ?_
    refine l_end ?_
    refine e_then ?_
    refine s_seq ?_
    refine cond_f rfl ?_
    refine s_exit ?_
    refine e_then_x ?_
    refine e_then_x ?_
    refine e_blk_x ?_
    refine e_then ?_
    refine s_seq ?_
    refine s_reg ?_
    refine l_q (by exact y_mv_slice rfl) ?_
    refine l_q (by exact y_len_slice rfl) ?_
    refine l_w (w_makeSlice (m := ws.length) hs rfl rfl (by omega) (by omega) (fun b67 w hs hb67 => ?_))
    refine l_q (by exact y_as_slice rfl) ?_
    refine l_end ?_
    refine e_then ?_
    refine s_block ?_
    have hs := L_cons hs
    have e0 : zerosL (Value.int .i64 0) (ws.length * 1) = (List.replicate ws.length (0 : Int)).map I64 := by rw [Nat.mul_one, zerosL_one rfl]; simp
    rw [e0] at hs
    have hQ := hfill.Q_
    have hW := hfill.ws_
    refine loop_st (X := List Int × Int × QI) (fun y => [(0, .slice s.ad ws.length s.cap), (8, .pointer (some ⟨b, 0, none⟩)), (13, .slice (some ⟨b67, 0, none⟩) ws.length ws.length)])
      (fun y w => St W0 w (y.2.2.L ((b67, .cells (y.1.map I64) 3) :: R)) ∧ y.2.2.qb = b ∧ y.2.2.ok ∧ y.2.2.abs.wf ∧ wsOf y.2.2.abs = ws ∧ y.2.2.abs.Q = Q ∧ Sh y.2.2.abs y.2.1 y.1) (fun y => tot y.2.2.abs) (List.replicate ws.length 0, 0, x) ⟨rfl, rfl, rfl, trivial⟩ ⟨hs, hqb, hok, hfill.wf, hW, hQ, fill_sh hfill⟩ ?_
    clear hs hok hqb hfill hQ hW
    rintro ⟨sv, V, x⟩ ρ w ⟨hs, hqb, hok, hwf, hW, hQ, hsh⟩
    dsimp only at *
    obtain ⟨m, i, sx, a', htk⟩ := take_found hwf (sh_ne hsh hwf)
    have hqn : x.abs.qs.length = ws.length := by rw [← hW]; simp [wsOf]
    obtain ⟨xv, hxv, hsx, hxv0, hxv1, hW', hQ', hcase⟩ := sh_take m hwf hsh htk
    have hil : i < ws.length := by rw [← hqn, ← hsh.len]; exact (List.getElem?_eq_some_iff.1 hxv).1
    have hsvl : sv.length = ws.length := by rw [hsh.len, hqn]
    rcases hcase with ⟨q, hget, hqw, hfin⟩ | ⟨q, hget, hqw, V', hsh'⟩
    · have hq0 : q.ws.length = 0 := by rw [hqw]; rfl
      rw [hW, hQ] at hfin
      refine s_block ?_
      refine s_seq ?_
      refine s_reg ?_
      refine l_q (by exact y_mv_ptr rfl) ?_
      refine l_w (w_call rfl (take_b hqb hok hwf htk hs) rfl (fun _ w h => ?_))
      obtain ⟨rfl, x', hqb', hok', habs', hs⟩ := h
      refine l_q (by exact y_mv_tuple rfl) ?_
      refine l_q (by exact y_extract rfl rfl) ?_
      refine l_q (by exact y_extract rfl rfl) ?_
      refine l_q (by exact y_extract rfl rfl) ?_
      refine l_q (by exact y_as_int rfl) ?_
      refine l_q (by exact y_as_str rfl) ?_
      refine l_q (by exact y_as_bool rfl) ?_
      refine l_end ?_
      refine e_then ?_
      refine s_seq ?_
      refine s_seq ?_
      refine s_reg ?_
      refine l_q (by exact y_mv_bool rfl) ?_
      refine l_q (by first | exact y_not_t rfl | exact y_not_f rfl | exact y_notd rfl) ?_
      refine l_q (by exact y_mv_bool rfl) ?_
      first | refine l_gskip rfl rfl ?_ | refine l_gskip_u rfl rfl ?_ | refine l_gdo rfl rfl (by exact y_mv_int rfl) ?_
      first | refine l_gskip rfl rfl ?_ | refine l_gskip_u rfl rfl ?_ | refine l_gdo rfl rfl (by first | exact y_lss rfl rfl (decide_eq_true (by omega)) | exact y_lss rfl rfl (decide_eq_false (by omega)) | exact y_lss rfl rfl rfl) ?_
      refine l_q (by first | exact y_pk_bt rfl rfl | exact y_pk_bf rfl rfl) ?_
      refine l_q (by exact y_mv_bool rfl) ?_
      first | refine l_gskip rfl rfl ?_ | refine l_gskip_u rfl rfl ?_ | refine l_gdo rfl rfl (by exact y_mv_int rfl) ?_
      first | refine l_gskip rfl rfl ?_ | refine l_gskip_u rfl rfl ?_ | refine l_gdo rfl rfl (by exact y_mv_slice rfl) ?_
      first | refine l_gskip rfl rfl ?_ | refine l_gskip_u rfl rfl ?_ | refine l_gdo rfl rfl (by exact y_len_slice rfl) ?_
      first | refine l_gskip rfl rfl ?_ | refine l_gskip_u rfl rfl ?_ | refine l_gdo rfl rfl (by first | exact y_geq rfl rfl (decide_eq_true (by omega)) | exact y_geq rfl rfl (decide_eq_false (by omega)) | exact y_geq rfl rfl rfl) ?_
      refine l_q (by first | exact y_pk_bt rfl rfl | exact y_pk_bf rfl rfl) ?_
      refine l_end ?_
      refine e_then ?_
      refine cond_f rfl ?_
      refine s_skip ?_
      refine e_then ?_
      refine s_seq ?_
      refine s_reg ?_
      refine l_q (by exact y_mv_slice rfl) ?_
      refine l_q (by exact y_mv_int rfl) ?_
      refine l_q (by exact y_indexT (off := i) rfl rfl (by omega) (by omega) rfl (by omega)) ?_
      refine l_q (by exact y_ld (v := .int .i64 xv) hs rfl (by rw [List.getElem?_map, hxv]; rfl)) ?_
      refine l_q (by exact y_mv_str rfl) ?_
      refine l_q (by exact y_len_str rfl) ?_
      refine l_q (by first | exact y_addn rfl rfl (by omega) | exact y_add rfl rfl rfl) ?_
      refine l_q (by exact y_indexT (off := i) rfl rfl (by omega) (by omega) rfl (by omega)) ?_
      refine l_w (w_store (v := .int .i64 (xv + sx.size)) (off := i) hs rfl rfl rfl (by rw [Nat.blt_eq, List.length_map]; omega) (fun w hs => ?_))
      refine l_end ?_
      refine e_then ?_
      refine s_seq ?_
      refine s_reg ?_
      refine l_q (by exact y_mv_ptr rfl) ?_
      refine l_q (by exact y_mv_int rfl) ?_
      refine l_w (w_call rfl (waiting_c hqb' hok' (by rw [habs']; exact hget) hs) rfl (fun _ w h => ?_))
      obtain ⟨rfl, hs⟩ := h
      refine l_q (by exact y_mv_tuple rfl) ?_
      refine l_q (by exact y_extract rfl rfl) ?_
      refine l_q (by exact y_extract rfl rfl) ?_
      refine l_q (by exact y_as_int rfl) ?_
      refine l_q (by exact y_as_int rfl) ?_
      refine l_end ?_
      refine e_then ?_
      refine s_seq ?_
      refine s_reg ?_
      refine l_q (by exact y_mv_int rfl) ?_
      refine l_q (by first | exact y_eql rfl rfl (decide_eq_true (by omega)) | exact y_eql rfl rfl (decide_eq_false (by omega)) | exact y_eql rfl rfl rfl) ?_
      refine l_end ?_
      refine e_then ?_
      refine cond_t rfl ?_
      refine s_seq ?_
      refine s_reg ?_
      refine l_q (by exact y_mv_slice rfl) ?_
      refine l_q (by exact y_as_slice rfl) ?_
      refine l_q (by exact y_as_bool rfl) ?_
      refine l_end ?_
      refine e_then ?_
      refine s_ret ?_
      refine e_blk_r ?_
      refine e_then_r ?_
      refine e_blk_r ?_
      refine ret_ [.slice _ _ _, .bool _] rfl ⟨rfl, rfl, trivial⟩ ⟨b67, sv.set i (xv + sx.size), rfl, hfin, ?_⟩
      rw [List.map_set]
      exact L_drop hs
    · have hq0 : q.ws.length ≠ 0 := fun h => hqw (List.length_eq_zero_iff.1 h)
      refine s_block ?_
      refine s_seq ?_
      refine s_reg ?_
      refine l_q (by exact y_mv_ptr rfl) ?_
      refine l_w (w_call rfl (take_b hqb hok hwf htk hs) rfl (fun _ w h => ?_))
      obtain ⟨rfl, x', hqb', hok', habs', hs⟩ := h
      refine l_q (by exact y_mv_tuple rfl) ?_
      refine l_q (by exact y_extract rfl rfl) ?_
      refine l_q (by exact y_extract rfl rfl) ?_
      refine l_q (by exact y_extract rfl rfl) ?_
      refine l_q (by exact y_as_int rfl) ?_
      refine l_q (by exact y_as_str rfl) ?_
      refine l_q (by exact y_as_bool rfl) ?_
      refine l_end ?_
      refine e_then ?_
      refine s_seq ?_
      refine s_seq ?_
      refine s_reg ?_
      refine l_q (by exact y_mv_bool rfl) ?_
      refine l_q (by first | exact y_not_t rfl | exact y_not_f rfl | exact y_notd rfl) ?_
      refine l_q (by exact y_mv_bool rfl) ?_
      first | refine l_gskip rfl rfl ?_ | refine l_gskip_u rfl rfl ?_ | refine l_gdo rfl rfl (by exact y_mv_int rfl) ?_
      first | refine l_gskip rfl rfl ?_ | refine l_gskip_u rfl rfl ?_ | refine l_gdo rfl rfl (by first | exact y_lss rfl rfl (decide_eq_true (by omega)) | exact y_lss rfl rfl (decide_eq_false (by omega)) | exact y_lss rfl rfl rfl) ?_
      refine l_q (by first | exact y_pk_bt rfl rfl | exact y_pk_bf rfl rfl) ?_
      refine l_q (by exact y_mv_bool rfl) ?_
      first | refine l_gskip rfl rfl ?_ | refine l_gskip_u rfl rfl ?_ | refine l_gdo rfl rfl (by exact y_mv_int rfl) ?_
      first | refine l_gskip rfl rfl ?_ | refine l_gskip_u rfl rfl ?_ | refine l_gdo rfl rfl (by exact y_mv_slice rfl) ?_
      first | refine l_gskip rfl rfl ?_ | refine l_gskip_u rfl rfl ?_ | refine l_gdo rfl rfl (by exact y_len_slice rfl) ?_
      first | refine l_gskip rfl rfl ?_ | refine l_gskip_u rfl rfl ?_ | refine l_gdo rfl rfl (by first | exact y_geq rfl rfl (decide_eq_true (by omega)) | exact y_geq rfl rfl (decide_eq_false (by omega)) | exact y_geq rfl rfl rfl) ?_
      refine l_q (by first | exact y_pk_bt rfl rfl | exact y_pk_bf rfl rfl) ?_
      refine l_end ?_
      refine e_then ?_
      refine cond_f rfl ?_
      refine s_skip ?_
      refine e_then ?_
      refine s_seq ?_
      refine s_reg ?_
      refine l_q (by exact y_mv_slice rfl) ?_
      refine l_q (by exact y_mv_int rfl) ?_
      refine l_q (by exact y_indexT (off := i) rfl rfl (by omega) (by omega) rfl (by omega)) ?_
      refine l_q (by exact y_ld (v := .int .i64 xv) hs rfl (by rw [List.getElem?_map, hxv]; rfl)) ?_
      refine l_q (by exact y_mv_str rfl) ?_
      refine l_q (by exact y_len_str rfl) ?_
      refine l_q (by first | exact y_addn rfl rfl (by omega) | exact y_add rfl rfl rfl) ?_
      refine l_q (by exact y_indexT (off := i) rfl rfl (by omega) (by omega) rfl (by omega)) ?_
      refine l_w (w_store (v := .int .i64 (xv + sx.size)) (off := i) hs rfl rfl rfl (by rw [Nat.blt_eq, List.length_map]; omega) (fun w hs => ?_))
      refine l_end ?_
      refine e_then ?_
      refine s_seq ?_
      refine s_reg ?_
      refine l_q (by exact y_mv_ptr rfl) ?_
      refine l_q (by exact y_mv_int rfl) ?_
      refine l_w (w_call rfl (waiting_c hqb' hok' (by rw [habs']; exact hget) hs) rfl (fun _ w h => ?_))
      obtain ⟨rfl, hs⟩ := h
      refine l_q (by exact y_mv_tuple rfl) ?_
      refine l_q (by exact y_extract rfl rfl) ?_
      refine l_q (by exact y_extract rfl rfl) ?_
      refine l_q (by exact y_as_int rfl) ?_
      refine l_q (by exact y_as_int rfl) ?_
      refine l_end ?_
      refine e_then ?_
      refine s_seq ?_
      refine s_reg ?_
      refine l_q (by exact y_mv_int rfl) ?_
      refine l_q (by first | exact y_eql rfl rfl (decide_eq_true (by omega)) | exact y_eql rfl rfl (decide_eq_false (by omega)) | exact y_eql rfl rfl rfl) ?_
      refine l_end ?_
      refine e_then ?_
      refine cond_f rfl ?_
      refine s_skip ?_
      refine e_blk ?_
      refine e_then ?_
      have ht := tot_take htk
      exact ⟨(sv.set i (xv + sx.size), V', x'), _, nx ⟨rfl, rfl, rfl, trivial⟩, ⟨by dsimp only; rw [List.map_set]; exact hs, hqb', hok', by dsimp only; rw [habs']; exact takeF_wf m hwf htk, by dsimp only; rw [habs', hW', hW], by dsimp only; rw [habs', hQ', hQ], by dsimp only; rw [habs']; exact hsh'⟩, by dsimp only; rw [habs']; omega⟩
end Go.Proofs.Ytohomijijipfdaa
