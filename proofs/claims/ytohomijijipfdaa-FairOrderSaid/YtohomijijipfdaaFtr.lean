/- Facts on the functions and types of this seat that its laws are proved from: contracts under the premises that each theorem names. -/
import Derived.Test.YtohomijijipfdaaFtq
set_option linter.unusedSimpArgs false
set_option linter.unusedVariables false
set_option linter.unnecessarySimpa false
namespace Go.Proofs.Ytohomijijipfdaa
open Go Go.RowKit PB
set_option linter.unusedVariables false

theorem new_e {W0 w : World} {s : OS} {ws : List Int} {Q : Int} (A : List (Nat × MObj)) (hok : s.ok (ws.map I64) ws.length 1) (n1 : 1 ≤ ws.length) (n2 : ws.length ≤ 8) (hw : ∀ w ∈ ws, 1 ≤ w ∧ w ≤ 100) (q1 : 1 ≤ Q) (q2 : Q ≤ 1500) (hs : St W0 w (A ++ (s.blk (ws.map I64) 3 ++ []))) :
    FnC Try.prog 8 [.slice s.ad ws.length s.cap, I64 Q] w (fun v w' => ∃ x : QI, v = .tuple #[.pointer (some ⟨x.qb, 0, none⟩), I64 0] ∧ x.ok ∧ x.abs = Ab.new ws Q ∧ St W0 w' (x.L (A ++ (s.blk (ws.map I64) 3 ++ [])))) := by
  have h := hs.perm (L' := s.blk (ws.map I64) 3 ++ (A ++ [])) (List.perm_append_comm_assoc _ _ _)
  refine (new_c hok n1 n2 hw q1 q2 h).mono ?_
  rintro v w' ⟨x, h1, h2, h3, h4⟩
  exact ⟨x, h1, h2, h3, h4.perm (L_perm (List.perm_append_comm_assoc _ _ _))⟩

theorem cut_size (s : ByteArray) (m : Nat) (h : m ≤ 200) : (s.extract 0 m).size ≤ 200 := by
  rw [ByteArray.size_extract]; omega



theorem valsW_nil (n : Nat) : zerosL (.slice none 0 0) (n * 1) = valsW (List.replicate n ⟨OT.nl, []⟩) := by
  rw [Nat.mul_one, zerosL_one rfl]
  simp [valsW, WE.val, OT.nl, OT.ad]
theorem blksW_nil (n : Nat) : blksW (List.replicate n ⟨OT.nl, []⟩) = [] := by
  induction n with
  | zero => rfl
  | succ n ih => rw [List.replicate_succ]; simp only [blksW, List.flatMap_cons] at ih ⊢; rw [ih]; rfl

theorem inv_new {F : Fx} {x : QI} {ws : List Int} {Q : Int} (hqb : x.qb = F.qb) (hok : x.ok) (habs : x.abs = Ab.new ws Q) (hwf : (Ab.new ws Q).wf) (hn : F.n = ws.length) (n1 : 1 ≤ ws.length) (n8 : ws.length ≤ 8) : Inv F x (List.replicate F.n ⟨OT.nl, []⟩) 0 := by
  refine ⟨hqb, hok, by rw [habs]; exact hwf, by simp, by omega, by omega, by rw [habs, wss_new, hn]; simp, ?_, by simp, by omega⟩
  intro e he
  rw [List.eq_of_mem_replicate he]
  exact OT.ok_nl 1

theorem order_walk (W : World) (a0 : Option Addr) (len0 cap0 : Nat) (z0 : List Int) (h0 : Ints W a0 len0 z0) (l0 : len0 ≤ 9223372036854775807) (c0 : len0 ≤ cap0) (a1 : Int) (a2 : Option Addr) (len2 cap2 : Nat) (z2 : List Int) (h2 : Ints W a2 len2 z2) (l2 : len2 ≤ 9223372036854775807) (c2 : len2 ≤ cap2)
    (a3 : Option Addr) (len3 cap3 : Nat) (z3 : List ByteArray) (h3 : Strs W a3 len3 z3) (l3 : len3 ≤ 9223372036854775807) (c3 : len3 ≤ cap3) :
    FnC Try.prog 3 [.slice a0 len0 cap0, I64 a1, .slice a2 len2 cap2, .slice a3 len3 cap3] W (fun v w' => v = .bool true ∧ St W w' []) := by
  have hs := St.start W
  refine FnC.enter Try.func3 rfl Try.ntmps3 rfl fun ρ => ?_
  refine s_seq ?_
  refine s_reg ?_
  refine l_q (by exact y_as_bool rfl) ?_
  refine l_end ?_
  refine e_then ?_
  refine s_seq ?_
  refine s_reg ?_
  refine l_q (by exact y_mv_slice rfl) ?_
  refine l_w (w_call rfl (weights_c (L := []) h0 l0 hs) rfl (fun _ w h => ?_))
  obtain ⟨s, ws, rfl, hsok, n1, n2, hw, hs⟩ := h
  refine l_w (w_alloc (cs := [_]) hs rfl (fun b9 w hs hb9 => ?_))
  refine l_w (w_store (v := .slice _ _ _) hs rfl rfl rfl rfl (fun w hs => ?_))
  refine l_end ?_
  refine e_then ?_
  refine cut (Y := QI × Nat) (fun u => [(2, .slice a2 len2 cap2), (3, .slice a3 len3 cap3), (9, .pointer (some ⟨b9, 0, none⟩)), (10, .pointer (some ⟨u.2, 0, none⟩)), (11, I64 0)]) (fun u w => St W w (u.1.L ((u.2, .cells [.pointer (some ⟨u.1.qb, 0, none⟩)] 25) :: (b9, .cells [.slice s.ad ws.length s.cap] 22) :: (s.blk (ws.map I64) 3 ++ []))) ∧ u.1.ok ∧ u.1.abs = Ab.new ws (1 + a1 % 300)) (fun K hK => ?_) (fun u ρ w hI => ?_)
  · refine r_draw (.q 0 (.q 1 (.q 2 (.q 3 (.w2 4 (.q 5 (.q 6 (.q 7 (.w 8 (.w 9 (.q 10 (.nil))))))) 8 (.w 4 (.q 5 (.q 6 (.q 7 (.w 9 (.q 10 (.nil)))))))))))) 10 (fun w => w.cell? ⟨b9, 0, none⟩ = some (.slice s.ad ws.length s.cap)) mixed (by kernel_rfl) ?_
    have hs := hs.drew
    refine c_q rfl (by first | exact hs | exact hs.subl | exact hs.cellAt rfl | trivial) (fun _ _ _ h => h) (fun w hs => by exact y_load rfl hs) ?_
    refine c_q rfl (by first | exact hs | exact hs.subl | exact hs.cellAt rfl | trivial) (fun _ _ _ h => h) (fun w hs => by exact y_mv_int rfl) ?_
    refine c_qc rfl (by first | exact hs | exact hs.subl | exact hs.cellAt rfl | trivial) (fun _ _ _ h => h) rfl (fun w hs => rest_c _ _ _ (by omega) (by omega)) rfl ?_
    refine c_q rfl (by first | exact hs | exact hs.subl | exact hs.cellAt rfl | trivial) (fun _ _ _ h => h) (fun w hs => by first | exact y_addn rfl rfl (by omega) | exact y_add rfl rfl rfl) ?_
    refine c_w2 rfl rfl rfl rfl (w_call rfl (by first | exact new_e [(b10, _), (b9, _)] hsok n1 n2 (w100 hw) (by omega) (by omega) hs | exact new_e [(b9, _)] hsok n1 n2 (w100 hw) (by omega) (by omega) hs) rfl (fun _ w h => ?_)) (w_alloc (cs := [_]) hs rfl (fun b10 w hs hb10 => ?_))
    · obtain ⟨x, rfl, hok, habs, hs⟩ := h
      refine ⟨fun _ => by first | exact hs | exact hs.subl | exact hs.cellAt rfl | trivial, ?_⟩
      refine c_q rfl (by first | exact hs | exact hs.subl | exact hs.cellAt rfl | trivial) (fun _ _ _ h => h) (fun w hs => by exact y_mv_tuple rfl) ?_
      refine c_q rfl (by first | exact hs | exact hs.subl | exact hs.cellAt rfl | trivial) (fun _ _ _ h => h) (fun w hs => by exact y_extract rfl rfl) ?_
      refine c_q rfl (by first | exact hs | exact hs.subl | exact hs.cellAt rfl | trivial) (fun _ _ _ h => h) (fun w hs => by exact y_extract rfl rfl) ?_
      refine c_w rfl (w_alloc (cs := [_]) hs rfl (fun b10 w hs hb10 => ?_))
      refine ⟨fun _ => by first | exact hs | exact hs.subl | exact hs.cellAt rfl | trivial, ?_⟩
      refine c_w rfl (w_store (v := .pointer _) hs rfl rfl rfl rfl (fun w hs => ?_))
      refine ⟨fun _ => by first | exact hs | exact hs.subl | exact hs.cellAt rfl | trivial, ?_⟩
      refine c_q rfl (by first | exact hs | exact hs.subl | exact hs.cellAt rfl | trivial) (fun _ _ _ h => h) (fun w hs => by exact y_as_int rfl) ?_
      refine c_end ?_
      exact e_then (meet hK (x, b10) ⟨rfl, rfl, rfl, rfl, rfl, trivial⟩ ⟨by first | exact hs | exact L_cons hs, hok, habs⟩)
    · refine ⟨fun _ => by first | exact hs | exact hs.subl | exact hs.cellAt rfl | trivial, ?_⟩
      refine c_w rfl (w_call rfl (by first | exact new_e [(b10, _), (b9, _)] hsok n1 n2 (w100 hw) (by omega) (by omega) hs | exact new_e [(b9, _)] hsok n1 n2 (w100 hw) (by omega) (by omega) hs) rfl (fun _ w h => ?_))
      obtain ⟨x, rfl, hok, habs, hs⟩ := h
      refine ⟨fun _ => by first | exact hs | exact hs.subl | exact hs.cellAt rfl | trivial, ?_⟩
      refine c_q rfl (by first | exact hs | exact hs.subl | exact hs.cellAt rfl | trivial) (fun _ _ _ h => h) (fun w hs => by exact y_mv_tuple rfl) ?_
      refine c_q rfl (by first | exact hs | exact hs.subl | exact hs.cellAt rfl | trivial) (fun _ _ _ h => h) (fun w hs => by exact y_extract rfl rfl) ?_
      refine c_q rfl (by first | exact hs | exact hs.subl | exact hs.cellAt rfl | trivial) (fun _ _ _ h => h) (fun w hs => by exact y_extract rfl rfl) ?_
      refine c_w rfl (w_store (v := .pointer _) hs rfl rfl rfl rfl (fun w hs => ?_))
      refine ⟨fun _ => by first | exact hs | exact hs.subl | exact hs.cellAt rfl | trivial, ?_⟩
      refine c_q rfl (by first | exact hs | exact hs.subl | exact hs.cellAt rfl | trivial) (fun _ _ _ h => h) (fun w hs => by exact y_as_int rfl) ?_
      refine c_end ?_
      exact e_then (meet hK (x, b10) ⟨rfl, rfl, rfl, rfl, rfl, trivial⟩ ⟨by first | exact hs | exact L_cons hs, hok, habs⟩)
  · obtain ⟨x, b10⟩ := u
    obtain ⟨hs, hok, habs⟩ := hI
    dsimp only at *
    have hwf0 := wf_new n1 n2 (w100 hw) (Q := 1 + a1 % 300) (by omega) (by omega)
    refine s_seq ?_
    refine s_seq ?_
    refine s_reg ?_
    refine l_w (w_call rfl (fact_c hs) rfl (fun _ w h => ?_))
    obtain ⟨rfl, hs⟩ := h
    refine l_q (by first | exact y_not_t rfl | exact y_not_f rfl | exact y_notd rfl) ?_
    refine l_q (by exact y_mv_bool rfl) ?_
    first | refine l_gskip rfl rfl ?_ | refine l_gskip_u rfl rfl ?_ | refine l_gdo rfl rfl (by exact y_mv_int rfl) ?_
    first | refine l_gskip rfl rfl ?_ | refine l_gskip_u rfl rfl ?_ | refine l_gdo rfl rfl (by first | exact y_neq rfl rfl (decide_eq_true (by omega)) | exact y_neq rfl rfl (decide_eq_false (by omega)) | exact y_neq rfl rfl rfl) ?_
    refine l_q (by first | exact y_pk_bt rfl rfl | exact y_pk_bf rfl rfl) ?_
    refine l_q (by exact y_mv_bool rfl) ?_
    first | refine l_gskip rfl rfl ?_ | refine l_gskip_u rfl rfl ?_ | refine l_gdo rfl rfl (by exact y_ld hs rfl rfl) ?_
    first | refine l_gskip rfl rfl ?_ | refine l_gskip_u rfl rfl ?_ | refine l_gdo rfl rfl (by first | exact y_ptr_nn rfl rfl | exact y_ptr_eql rfl rfl rfl) ?_
    refine l_q (by first | exact y_pk_bt rfl rfl | exact y_pk_bf rfl rfl) ?_
    refine l_end ?_
    refine e_then ?_
    refine cond_f rfl ?_
    refine s_skip ?_
    refine e_then ?_
    refine s_seq ?_
    refine s_reg ?_
    refine l_q (by exact y_ld hs rfl rfl) ?_
    refine l_q (by exact y_len_slice rfl) ?_
    refine l_w (w_makeSlice (m := ws.length) hs rfl rfl (by omega) (by omega) (fun b41 w hs hb41 => ?_))
    refine l_w (w_alloc (cs := [_]) hs rfl (fun b12 w hs hb12 => ?_))
    refine l_w (w_store (v := .slice _ _ _) hs rfl rfl rfl rfl (fun w hs => ?_))
    refine l_end ?_
    refine e_then ?_
    refine s_seq ?_
    refine s_reg ?_
    refine l_w (w_alloc (cs := [_]) hs rfl (fun b13 w hs hb13 => ?_))
    refine l_w (w_store (v := .int .i64 _) hs rfl rfl rfl rfl (fun w hs => ?_))
    refine l_end ?_
    refine e_then ?_
    refine s_seq ?_
    refine s_reg ?_
    refine l_q (by exact y_mkfunc (cv := [_, _, _, _]) rfl) ?_
    refine l_q (by exact y_as_func rfl) ?_
    refine l_end ?_
    refine e_then ?_
    refine s_seq ?_
    refine s_seq ?_
    refine s_reg ?_
    refine l_q (by exact y_as_int rfl) ?_
    refine l_end ?_
    refine e_then ?_
    refine s_block ?_
    have hs := hs.perm (L_out x [_, _, _] _).symm
    obtain ⟨F, e1, e2, e3, e4, e5, e6, e7, e8, e9⟩ : ∃ F : Fx, F.b13 = b13 ∧ F.b12 = b12 ∧ F.b41 = b41 ∧ F.b10 = b10 ∧ F.b9 = b9 ∧ F.n = ws.length ∧ F.sad = s.ad ∧ F.scap = s.cap ∧ F.qb = x.qb := ⟨⟨b13, b12, b41, b10, b9, ws.length, s.ad, s.cap, x.qb⟩, rfl, rfl, rfl, rfl, rfl, rfl, rfl, rfl, rfl⟩
    subst e1 e2 e3 e4 e5
    have hi0 := inv_new e9.symm hok habs hwf0 e6 n1 n2
    have hs : St W w (x.L (F.bx 0 (valsW (List.replicate F.n ⟨OT.nl, []⟩)) (blksW (List.replicate F.n ⟨OT.nl, []⟩) ++ (s.blk (ws.map I64) 3 ++ [])))) := by
      rw [blksW_nil, ← valsW_nil]
      simp only [Fx.bx, e6, e7, e8, e9]
      exact hs
    generalize s.blk (ws.map I64) 3 ++ [] = T at hs
    have g0 : ∀ m : Nat, m ≤ 60 → -9223372036854775808 ≤ (m : Int) + 1 ∧ (m : Int) + 1 ≤ 9223372036854775807 := fun m h => by omega
    refine loop_st (X := Nat × QI × List WE × Nat) (fun y => [(2, .slice a2 len2 cap2), (3, .slice a3 len3 cap3), (9, .pointer (some ⟨F.b9, 0, none⟩)), (10, .pointer (some ⟨F.b10, 0, none⟩)), (12, .pointer (some ⟨F.b12, 0, none⟩)), (13, .pointer (some ⟨F.b13, 0, none⟩)), (14, .func (.func 11) #[] #[.pointer (some ⟨F.b10, 0, none⟩), .pointer (some ⟨F.b13, 0, none⟩), .pointer (some ⟨F.b9, 0, none⟩), .pointer (some ⟨F.b12, 0, none⟩)]), (15, I64 y.1)])
      (fun y w => St W w (y.2.1.L (F.bx y.2.2.2 (valsW y.2.2.1) (blksW y.2.2.1 ++ T))) ∧ Inv F y.2.1 y.2.2.1 y.2.2.2 ∧ y.2.2.2 ≤ y.1 ∧ y.1 ≤ 60) (fun y => 60 - y.1) (0, x, List.replicate F.n ⟨OT.nl, []⟩, 0) ⟨rfl, rfl, rfl, rfl, rfl, rfl, rfl, rfl, trivial⟩ ⟨hs, hi0, by dsimp only; omega, by dsimp only; omega⟩ ?_
    clear hs hok habs hi0 hwf0 e6 e7 e8 e9
    rintro ⟨i, x, wes, many⟩ ρ w ⟨hs, hi, mi, i60⟩
    dsimp only at *
    have n1 := hi.n1
    have n8 := hi.n8
    by_cases c : i < len2 ∧ i < len3 ∧ i < 60
    · obtain ⟨ca, cb, cc⟩ := c
      obtain ⟨x2, hx2, hc2'⟩ := h2.at_ i ca
      obtain ⟨x3, hx3, hc3'⟩ := h3.at_ i cb
      by_cases cn : z2.getD i 0 < 0
      · refine s_seq ?_
        refine s_seq ?_
        refine s_reg ?_
        refine l_q (by exact y_mv_int rfl) ?_
        refine l_q (by exact y_mv_slice rfl) ?_
        refine l_q (by exact y_len_slice rfl) ?_
        refine l_q (by first | exact y_lss rfl rfl (decide_eq_true (by omega)) | exact y_lss rfl rfl (decide_eq_false (by omega)) | exact y_lss rfl rfl rfl) ?_
        refine l_q (by exact y_mv_bool rfl) ?_
        first | refine l_gskip rfl rfl ?_ | refine l_gskip_u rfl rfl ?_ | refine l_gdo rfl rfl (by exact y_mv_int rfl) ?_
        first | refine l_gskip rfl rfl ?_ | refine l_gskip_u rfl rfl ?_ | refine l_gdo rfl rfl (by exact y_mv_slice rfl) ?_
        first | refine l_gskip rfl rfl ?_ | refine l_gskip_u rfl rfl ?_ | refine l_gdo rfl rfl (by exact y_len_slice rfl) ?_
        first | refine l_gskip rfl rfl ?_ | refine l_gskip_u rfl rfl ?_ | refine l_gdo rfl rfl (by first | exact y_lss rfl rfl (decide_eq_true (by omega)) | exact y_lss rfl rfl (decide_eq_false (by omega)) | exact y_lss rfl rfl rfl) ?_
        refine l_q (by first | exact y_pk_bt rfl rfl | exact y_pk_bf rfl rfl) ?_
        refine l_q (by exact y_mv_bool rfl) ?_
        first | refine l_gskip rfl rfl ?_ | refine l_gskip_u rfl rfl ?_ | refine l_gdo rfl rfl (by exact y_mv_int rfl) ?_
        first | refine l_gskip rfl rfl ?_ | refine l_gskip_u rfl rfl ?_ | refine l_gdo rfl rfl (by first | exact y_lss rfl rfl (decide_eq_true (by omega)) | exact y_lss rfl rfl (decide_eq_false (by omega)) | exact y_lss rfl rfl rfl) ?_
        refine l_q (by first | exact y_pk_bt rfl rfl | exact y_pk_bf rfl rfl) ?_
        refine l_end ?_
        refine e_then ?_
        refine cond_t rfl ?_
        refine s_skip ?_
        refine e_then ?_
        refine s_seq ?_
        refine s_block ?_
        refine s_seq ?_
        refine s_seq ?_
        refine s_reg ?_
        refine l_q (by exact y_mv_slice rfl) ?_
        refine l_q (by exact y_mv_int rfl) ?_
        refine l_q (by exact y_indexA1 rfl rfl (by omega) (by omega) hx2) ?_
        refine l_q (by exact y_ldOld hs rfl hc2') ?_
        refine l_q (by first | exact y_lss rfl rfl (decide_eq_true (by omega)) | exact y_lss rfl rfl (decide_eq_false (by omega)) | exact y_lss rfl rfl rfl) ?_
        refine l_end ?_
        refine e_then ?_
        refine cond_t rfl ?_
        refine s_seq ?_
        refine s_seq ?_
        refine s_reg ?_
        refine l_q (by exact y_mv_func rfl) ?_
        refine l_w (w_call rfl (closure_c hi hs) rfl (fun _ w h => ?_))
        obtain ⟨rfl, x', wes', hi', hs⟩ := h
        refine l_q (by first | exact y_not_t rfl | exact y_not_f rfl | exact y_notd rfl) ?_
        refine l_end ?_
        refine e_then ?_
        refine cond_f rfl ?_
        refine s_skip ?_
        refine e_then ?_
        refine s_exit ?_
        refine e_then_x ?_
        refine e_blk_x ?_
        refine e_then ?_
        refine s_reg ?_
        refine l_q (by exact y_mv_int rfl) ?_
        refine l_q (by first | exact y_addn rfl rfl (by omega) | exact y_add rfl rfl rfl) ?_
        refine l_q (by exact y_as_int rfl) ?_
        refine l_end ?_
        refine e_then ?_
        exact ⟨(i + 1, x', wes', many - 1), _, nx ⟨rfl, rfl, rfl, rfl, rfl, rfl, rfl, rfl, trivial⟩, ⟨hs, hi', by dsimp only; omega, by dsimp only; omega⟩, by dsimp only; omega⟩
      · obtain ⟨kk, hkk, hk2⟩ := nat_mod (z2.getD i 0) n1
        have hnE := hi.nE
        obtain ⟨pre, e, suf, rfl, rfl⟩ := split_at' (show kk < wes.length by omega)
        generalize z3.getD i ByteArray.empty = st at hc3'
        obtain ⟨mm, hmm, hm1, hm2⟩ : ∃ mm : Nat, (if (200 : Int) < st.size then (200 : Int) else (st.size : Int)) = mm ∧ mm ≤ 200 ∧ mm ≤ st.size := by
          split
          · exact ⟨200, rfl, by omega, by omega⟩
          · exact ⟨st.size, rfl, by omega, by omega⟩
        have hwss : (wss x.abs)[pre.length]? = some e.ws := by rw [hi.same]; simp
        obtain ⟨q, hget, hqw⟩ := wss_get hwss
        have hME := hi.manyE
        rw [sum_mid] at hME
        have hl64 : q.ws.length < 64 := by rw [hqw]; omega
        have hsz : (st.extract 0 mm).size ≤ 1500 := by have := cut_size st mm hm1; omega
        have hoe := hi.each e (by simp)
        have hpl : pre.length < (pre ++ e :: suf).length := by simp
        refine s_seq ?_
        refine s_seq ?_
        refine s_reg ?_
        refine l_q (by exact y_mv_int rfl) ?_
        refine l_q (by exact y_mv_slice rfl) ?_
        refine l_q (by exact y_len_slice rfl) ?_
        refine l_q (by first | exact y_lss rfl rfl (decide_eq_true (by omega)) | exact y_lss rfl rfl (decide_eq_false (by omega)) | exact y_lss rfl rfl rfl) ?_
        refine l_q (by exact y_mv_bool rfl) ?_
        first | refine l_gskip rfl rfl ?_ | refine l_gskip_u rfl rfl ?_ | refine l_gdo rfl rfl (by exact y_mv_int rfl) ?_
        first | refine l_gskip rfl rfl ?_ | refine l_gskip_u rfl rfl ?_ | refine l_gdo rfl rfl (by exact y_mv_slice rfl) ?_
        first | refine l_gskip rfl rfl ?_ | refine l_gskip_u rfl rfl ?_ | refine l_gdo rfl rfl (by exact y_len_slice rfl) ?_
        first | refine l_gskip rfl rfl ?_ | refine l_gskip_u rfl rfl ?_ | refine l_gdo rfl rfl (by first | exact y_lss rfl rfl (decide_eq_true (by omega)) | exact y_lss rfl rfl (decide_eq_false (by omega)) | exact y_lss rfl rfl rfl) ?_
        refine l_q (by first | exact y_pk_bt rfl rfl | exact y_pk_bf rfl rfl) ?_
        refine l_q (by exact y_mv_bool rfl) ?_
        first | refine l_gskip rfl rfl ?_ | refine l_gskip_u rfl rfl ?_ | refine l_gdo rfl rfl (by exact y_mv_int rfl) ?_
        first | refine l_gskip rfl rfl ?_ | refine l_gskip_u rfl rfl ?_ | refine l_gdo rfl rfl (by first | exact y_lss rfl rfl (decide_eq_true (by omega)) | exact y_lss rfl rfl (decide_eq_false (by omega)) | exact y_lss rfl rfl rfl) ?_
        refine l_q (by first | exact y_pk_bt rfl rfl | exact y_pk_bf rfl rfl) ?_
        refine l_end ?_
        refine e_then ?_
        refine cond_t rfl ?_
        refine s_skip ?_
        refine e_then ?_
        refine s_seq ?_
        refine s_block ?_
        refine s_seq ?_
        refine s_seq ?_
        refine s_reg ?_
        refine l_q (by exact y_mv_slice rfl) ?_
        refine l_q (by exact y_mv_int rfl) ?_
        refine l_q (by exact y_indexA1 rfl rfl (by omega) (by omega) hx2) ?_
        refine l_q (by exact y_ldOld hs rfl hc2') ?_
        refine l_q (by first | exact y_lss rfl rfl (decide_eq_true (by omega)) | exact y_lss rfl rfl (decide_eq_false (by omega)) | exact y_lss rfl rfl rfl) ?_
        refine l_end ?_
        refine e_then ?_
        refine cond_f rfl ?_
        refine s_skip ?_
        refine e_then ?_
        refine s_seq ?_
        refine r_dr (.q 0 (.q 1 (.q 2 (.q 3 (.q 4 (.q 5 (.q 6 (.q 7 (.nil))))))))) 7 hs mixed (by kernel_rfl) (fun hs => ?_)
        refine c_q rfl (by first | exact hs | exact hs.subl | exact hs.cellAt rfl | trivial) (fun _ _ _ h => h) (fun w hs => by exact y_mv_slice rfl) ?_
        refine c_q rfl (by first | exact hs | exact hs.subl | exact hs.cellAt rfl | trivial) (fun _ _ _ h => h) (fun w hs => by exact y_mv_int rfl) ?_
        refine c_q rfl (by first | exact hs | exact hs.subl | exact hs.cellAt rfl | trivial) (fun _ _ _ h => h) (fun w hs => by exact y_indexA1 rfl rfl (by omega) (by omega) hx2) ?_
        refine c_q rfl (by first | exact hs | exact hs.subl | exact hs.cellAt rfl | trivial) (fun _ _ _ h => h) (fun w hs => by exact y_ldOld hs rfl hc2') ?_
        refine c_q rfl (by first | exact hs | exact hs.subl | exact hs.cellAt rfl | trivial) (fun _ _ _ h => h) (fun w hs => by exact y_ld hs rfl rfl) ?_
        refine c_q rfl (by first | exact hs | exact hs.subl | exact hs.cellAt rfl | trivial) (fun _ _ _ h => h) (fun w hs => by exact y_len_slice rfl) ?_
        refine c_q rfl (by first | exact hs | exact hs.subl | exact hs.cellAt rfl | trivial) (fun _ _ _ h => h) (fun w hs => by exact y_toI (b := (pre.length : Int)) (y_remn rfl rfl (by omega)) hkk) ?_
        refine c_q rfl (by first | exact hs | exact hs.subl | exact hs.cellAt rfl | trivial) (fun _ _ _ h => h) (fun w hs => by exact y_as_int rfl) ?_
        refine c_end ?_
        refine e_then ?_
        refine s_seq ?_
        refine r_dr (.q 0 (.q 1 (.q 2 (.q 3 (.q 4 (.q 5 (.q 6 (.q 7 (.q 8 (.q 9 (.q 10 (.q 11 (.nil))))))))))))) 11 hs mixed (by kernel_rfl) (fun hs => ?_)
        refine c_q rfl (by first | exact hs | exact hs.subl | exact hs.cellAt rfl | trivial) (fun _ _ _ h => h) (fun w hs => by exact y_mv_slice rfl) ?_
        refine c_q rfl (by first | exact hs | exact hs.subl | exact hs.cellAt rfl | trivial) (fun _ _ _ h => h) (fun w hs => by exact y_mv_int rfl) ?_
        refine c_q rfl (by first | exact hs | exact hs.subl | exact hs.cellAt rfl | trivial) (fun _ _ _ h => h) (fun w hs => by exact y_indexA1 rfl rfl (by omega) (by omega) hx3) ?_
        refine c_q rfl (by first | exact hs | exact hs.subl | exact hs.cellAt rfl | trivial) (fun _ _ _ h => h) (fun w hs => by exact y_ldOld hs rfl hc3') ?_
        refine c_q rfl (by first | exact hs | exact hs.subl | exact hs.cellAt rfl | trivial) (fun _ _ _ h => h) (fun w hs => by exact y_mv_slice rfl) ?_
        refine c_q rfl (by first | exact hs | exact hs.subl | exact hs.cellAt rfl | trivial) (fun _ _ _ h => h) (fun w hs => by exact y_mv_int rfl) ?_
        refine c_q rfl (by first | exact hs | exact hs.subl | exact hs.cellAt rfl | trivial) (fun _ _ _ h => h) (fun w hs => by exact y_indexA1 rfl rfl (by omega) (by omega) hx3) ?_
        refine c_q rfl (by first | exact hs | exact hs.subl | exact hs.cellAt rfl | trivial) (fun _ _ _ h => h) (fun w hs => by exact y_ldOld hs rfl hc3') ?_
        refine c_q rfl (by first | exact hs | exact hs.subl | exact hs.cellAt rfl | trivial) (fun _ _ _ h => h) (fun w hs => by exact y_len_str rfl) ?_
        refine c_q rfl (by first | exact hs | exact hs.subl | exact hs.cellAt rfl | trivial) (fun _ _ _ h => h) (fun w hs => by exact y_min (v := .int .i64 mm) rfl rfl (by rw [hmm])) ?_
        refine c_q rfl (by first | exact hs | exact hs.subl | exact hs.cellAt rfl | trivial) (fun _ _ _ h => h) (fun w hs => by exact y_str_hi rfl rfl (by omega) (by omega)) ?_
        refine c_q rfl (by first | exact hs | exact hs.subl | exact hs.cellAt rfl | trivial) (fun _ _ _ h => h) (fun w hs => by exact y_as_str rfl) ?_
        refine c_end ?_
        refine e_then ?_
        refine s_seq ?_
        refine s_seq ?_
        refine s_reg ?_
        refine l_q (by exact y_ld hs rfl rfl) ?_
        refine l_q (by exact y_mv_int rfl) ?_
        refine l_q (by exact y_mv_str rfl) ?_
        refine l_w (w_call rfl (put_b hi.qb hi.ok hget hsz hl64 hs) rfl (fun _ w h => ?_))
        obtain ⟨rfl, x', hqb', hok', habs', hs⟩ := h; have hs := toFront hs
        refine l_q (by first | exact y_neq rfl rfl (decide_eq_true (by omega)) | exact y_neq rfl rfl (decide_eq_false (by omega)) | exact y_neq rfl rfl rfl) ?_
        refine l_end ?_
        refine e_then ?_
        refine cond_f rfl ?_
        refine s_skip ?_
        refine e_then ?_
        refine s_seq ?_
        refine r_draw (.q 0 (.q 1 (.q 2 (.q 3 (.q 4 (.q 5 (.q 6 (.w 7 (.w 8 (.q 9 (.w 10 (.nil)))))))))))) 10 (fun w => St W w (F.bx many (valsW (pre ++ e :: suf)) [])) mixed (by kernel_rfl) ?_
        have hs := hs.drew
        refine c_q rfl (by first | exact hs | exact hs.subl | exact hs.cellAt rfl | trivial) (fun _ _ _ h => h) (fun w hs => by exact y_ld hs rfl rfl) ?_
        refine c_q rfl (by first | exact hs | exact hs.subl | exact hs.cellAt rfl | trivial) (fun _ _ _ h => h) (fun w hs => by exact y_mv_int rfl) ?_
        refine c_q rfl (by first | exact hs | exact hs.subl | exact hs.cellAt rfl | trivial) (fun _ _ _ h => h) (fun w hs => by exact y_ld hs rfl rfl) ?_
        refine c_q rfl (by first | exact hs | exact hs.subl | exact hs.cellAt rfl | trivial) (fun _ _ _ h => h) (fun w hs => by exact y_mv_int rfl) ?_
        refine c_q rfl (by first | exact hs | exact hs.subl | exact hs.cellAt rfl | trivial) (fun _ _ _ h => h) (fun w hs => by exact y_indexT (off := pre.length) rfl rfl (by omega) (by omega) rfl (by omega)) ?_
        refine c_q rfl (by first | exact hs | exact hs.subl | exact hs.cellAt rfl | trivial) (fun _ _ _ h => h) (fun w hs => by exact y_ld (v := .slice e.ot.ad e.ws.length e.ot.cap) hs rfl (valsW_get _ _ _)) ?_
        refine c_q rfl (by first | exact hs | exact hs.subl | exact hs.cellAt rfl | trivial) (fun _ _ _ h => h) (fun w hs => by exact y_mv_str rfl) ?_
        refine c_w rfl (w_buildSlice (pv := [(0, .string _)]) (vs := [_]) hs rfl rfl rfl rfl (fun b97 w hs hb97 => ?_))
        refine ⟨fun _ => by first | exact hs | exact hs.subl | exact hs.cellAt rfl | trivial, ?_⟩
        refine c_w rfl (w_appendT (ys := [_]) [(b97, _), (F.b13, _), (F.b12, _), (F.b41, _), (F.b10, _), (F.b9, _)] hs hoe rfl rfl rfl rfl rfl rfl (.inl (by decide)) (by decide) (by omega) (fun ot' w ok' hg' hs => ?_))
        have hs : St W w ((b97, _) :: F.bx _ _ (ot'.blk _ _ ++ _)) := hs
        refine ⟨fun _ => by first | exact hs | exact hs.subl | exact hs.cellAt rfl | trivial, ?_⟩
        refine c_q rfl (by first | exact hs | exact hs.subl | exact hs.cellAt rfl | trivial) (fun _ _ _ h => h) (fun w hs => by exact y_indexT (off := pre.length) rfl rfl (by omega) (by omega) rfl (by omega)) ?_
        refine c_w rfl (w_store (v := .slice ot'.ad (e.ws.length + 1) ot'.cap) (off := pre.length) hs rfl rfl rfl (by rw [Nat.blt_eq, valsW_len]; omega) (fun w hs => ?_))
        refine ⟨fun h => absurd rfl h, ?_⟩
        refine c_end ?_
        refine e_then ?_
        refine s_reg ?_
        refine l_q (by exact y_ld hs rfl rfl) ?_
        refine l_q (by exact y_toI (b := ((many + 1 : Nat) : Int)) (y_addn rfl rfl (by omega)) (by omega)) ?_
        refine l_w (w_store (v := .int .i64 _) hs rfl rfl rfl rfl (fun w hs => ?_))
        refine l_end ?_
        refine e_blk ?_
        refine e_then ?_
        refine s_reg ?_
        refine l_q (by exact y_mv_int rfl) ?_
        refine l_q (by first | exact y_addn rfl rfl (by omega) | exact y_add rfl rfl rfl) ?_
        refine l_q (by exact y_as_int rfl) ?_
        refine l_end ?_
        refine e_then ?_
        have ev : (⟨ot', e.ws ++ [st.extract 0 mm]⟩ : WE).val = .slice ot'.ad (e.ws.length + 1) ot'.cap := by simp [WE.val]
        have hs2 : St W w (F.bx (many + 1) (valsW (pre ++ ⟨ot', e.ws ++ [st.extract 0 mm]⟩ :: suf)) (ot'.blk ((e.ws ++ [st.extract 0 mm]).map Str) 9 ++ (blksW (pre ++ suf) ++ x'.L T))) := by
          rw [← valsW_set pre suf e ⟨ot', e.ws ++ [st.extract 0 mm]⟩, ev, List.map_append]
          exact hs.tail
        exact ⟨(i + 1, x', pre ++ ⟨ot', e.ws ++ [st.extract 0 mm]⟩ :: suf, many + 1), _, nx ⟨rfl, rfl, rfl, rfl, rfl, rfl, rfl, rfl, trivial⟩, ⟨fromFront (e := ⟨ot', e.ws ++ [st.extract 0 mm]⟩) hs2, inv_set (m' := many + 1) (e' := ⟨ot', e.ws ++ [st.extract 0 mm]⟩) hi hqb' hok' (by rw [habs']; exact wf_put hi.wf hget hsz hl64) (by rw [habs', wss_put, hqw]) (by simpa using ok') (by simp only [List.length_append, List.length_cons, List.length_nil]; omega) (by omega), by dsimp only; omega, by dsimp only; omega⟩, by dsimp only; omega⟩
    · by_cases ca : i < len2
      · by_cases cb : i < len3
        · have cc : ¬ i < 60 := fun h => c ⟨ca, cb, h⟩
          refine s_seq ?_
          refine s_seq ?_
          refine s_reg ?_
          refine l_q (by exact y_mv_int rfl) ?_
          refine l_q (by exact y_mv_slice rfl) ?_
          refine l_q (by exact y_len_slice rfl) ?_
          refine l_q (by first | exact y_lss rfl rfl (decide_eq_true (by omega)) | exact y_lss rfl rfl (decide_eq_false (by omega)) | exact y_lss rfl rfl rfl) ?_
          refine l_q (by exact y_mv_bool rfl) ?_
          first | refine l_gskip rfl rfl ?_ | refine l_gskip_u rfl rfl ?_ | refine l_gdo rfl rfl (by exact y_mv_int rfl) ?_
          first | refine l_gskip rfl rfl ?_ | refine l_gskip_u rfl rfl ?_ | refine l_gdo rfl rfl (by exact y_mv_slice rfl) ?_
          first | refine l_gskip rfl rfl ?_ | refine l_gskip_u rfl rfl ?_ | refine l_gdo rfl rfl (by exact y_len_slice rfl) ?_
          first | refine l_gskip rfl rfl ?_ | refine l_gskip_u rfl rfl ?_ | refine l_gdo rfl rfl (by first | exact y_lss rfl rfl (decide_eq_true (by omega)) | exact y_lss rfl rfl (decide_eq_false (by omega)) | exact y_lss rfl rfl rfl) ?_
          refine l_q (by first | exact y_pk_bt rfl rfl | exact y_pk_bf rfl rfl) ?_
          refine l_q (by exact y_mv_bool rfl) ?_
          first | refine l_gskip rfl rfl ?_ | refine l_gskip_u rfl rfl ?_ | refine l_gdo rfl rfl (by exact y_mv_int rfl) ?_
          first | refine l_gskip rfl rfl ?_ | refine l_gskip_u rfl rfl ?_ | refine l_gdo rfl rfl (by first | exact y_lss rfl rfl (decide_eq_true (by omega)) | exact y_lss rfl rfl (decide_eq_false (by omega)) | exact y_lss rfl rfl rfl) ?_
          refine l_q (by first | exact y_pk_bt rfl rfl | exact y_pk_bf rfl rfl) ?_
          refine l_end ?_
          refine e_then ?_
          refine cond_f rfl ?_
          refine s_exit ?_
          refine e_then_x ?_
          refine e_then_x ?_
          refine e_blk_x ?_
          refine e_then ?_
          refine s_seq ?_
          refine s_seq ?_
          refine s_reg ?_
          refine l_q (by exact y_as_int rfl) ?_
          refine l_end ?_
          refine e_then ?_
          refine s_block ?_
          refine loop_st (X := Nat × QI × List WE × Nat) (fun y => [(13, .pointer (some ⟨F.b13, 0, none⟩)), (14, .func (.func 11) #[] #[.pointer (some ⟨F.b10, 0, none⟩), .pointer (some ⟨F.b13, 0, none⟩), .pointer (some ⟨F.b9, 0, none⟩), .pointer (some ⟨F.b12, 0, none⟩)]), (18, I64 y.1)])
            (fun y w => St W w (y.2.1.L (F.bx y.2.2.2 (valsW y.2.2.1) (blksW y.2.2.1 ++ T))) ∧ Inv F y.2.1 y.2.2.1 y.2.2.2 ∧ y.2.2.2 ≤ 60 - y.1 ∧ y.1 ≤ 61) (fun y => 61 - y.1) (0, x, wes, many) ⟨rfl, rfl, rfl, trivial⟩ ⟨hs, hi, by dsimp only; omega, by dsimp only; omega⟩ ?_
          clear hs hi mi
          rintro ⟨k, x, wes, many⟩ ρ w ⟨hs, hi, mi, k61⟩
          dsimp only at *
          by_cases c : k ≤ 60
          · refine s_seq ?_
            refine s_seq ?_
            refine s_reg ?_
            refine l_q (by exact y_mv_int rfl) ?_
            refine l_q (by first | exact y_leq rfl rfl (decide_eq_true (by omega)) | exact y_leq rfl rfl (decide_eq_false (by omega)) | exact y_leq rfl rfl rfl) ?_
            refine l_end ?_
            refine e_then ?_
            refine cond_t rfl ?_
            refine s_skip ?_
            refine e_then ?_
            refine s_seq ?_
            refine s_block ?_
            refine s_seq ?_
            refine s_reg ?_
            refine l_q (by exact y_mv_func rfl) ?_
            refine l_w (w_call rfl (closure_c hi hs) rfl (fun _ w h => ?_))
            obtain ⟨rfl, x', wes', hi', hs⟩ := h
            refine l_q (by first | exact y_not_t rfl | exact y_not_f rfl | exact y_notd rfl) ?_
            refine l_end ?_
            refine e_then ?_
            refine cond_f rfl ?_
            refine s_skip ?_
            refine e_blk ?_
            refine e_then ?_
            refine s_reg ?_
            refine l_q (by exact y_mv_int rfl) ?_
            refine l_q (by first | exact y_addn rfl rfl (by omega) | exact y_add rfl rfl rfl) ?_
            refine l_q (by exact y_as_int rfl) ?_
            refine l_end ?_
            refine e_then ?_
            exact ⟨(k + 1, x', wes', many - 1), _, nx ⟨rfl, rfl, rfl, trivial⟩, ⟨hs, hi', by dsimp only; omega, by dsimp only; omega⟩, by dsimp only; omega⟩
          · refine s_seq ?_
            refine s_seq ?_
            refine s_reg ?_
            refine l_q (by exact y_mv_int rfl) ?_
            refine l_q (by first | exact y_leq rfl rfl (decide_eq_true (by omega)) | exact y_leq rfl rfl (decide_eq_false (by omega)) | exact y_leq rfl rfl rfl) ?_
            refine l_end ?_
            refine e_then ?_
            refine cond_f rfl ?_
            refine s_exit ?_
            refine e_then_x ?_
            refine e_then_x ?_
            refine e_blk_x ?_
            refine e_then ?_
            refine s_seq ?_
            refine s_reg ?_
            refine l_q (by exact y_ld hs rfl rfl) ?_
            refine l_q (by first | exact y_eql rfl rfl (decide_eq_true (by omega)) | exact y_eql rfl rfl (decide_eq_false (by omega)) | exact y_eql rfl rfl rfl) ?_
            refine l_q (by exact y_as_bool rfl) ?_
            refine l_end ?_
            refine e_then ?_
            refine s_ret ?_
            exact ret_ [.bool _] rfl ⟨rfl, trivial⟩ ⟨rfl, hs.nil⟩
        · skip
          refine s_seq ?_
          refine s_seq ?_
          refine s_reg ?_
          refine l_q (by exact y_mv_int rfl) ?_
          refine l_q (by exact y_mv_slice rfl) ?_
          refine l_q (by exact y_len_slice rfl) ?_
          refine l_q (by first | exact y_lss rfl rfl (decide_eq_true (by omega)) | exact y_lss rfl rfl (decide_eq_false (by omega)) | exact y_lss rfl rfl rfl) ?_
          refine l_q (by exact y_mv_bool rfl) ?_
          first | refine l_gskip rfl rfl ?_ | refine l_gskip_u rfl rfl ?_ | refine l_gdo rfl rfl (by exact y_mv_int rfl) ?_
          first | refine l_gskip rfl rfl ?_ | refine l_gskip_u rfl rfl ?_ | refine l_gdo rfl rfl (by exact y_mv_slice rfl) ?_
          first | refine l_gskip rfl rfl ?_ | refine l_gskip_u rfl rfl ?_ | refine l_gdo rfl rfl (by exact y_len_slice rfl) ?_
          first | refine l_gskip rfl rfl ?_ | refine l_gskip_u rfl rfl ?_ | refine l_gdo rfl rfl (by first | exact y_lss rfl rfl (decide_eq_true (by omega)) | exact y_lss rfl rfl (decide_eq_false (by omega)) | exact y_lss rfl rfl rfl) ?_
          refine l_q (by first | exact y_pk_bt rfl rfl | exact y_pk_bf rfl rfl) ?_
          refine l_q (by exact y_mv_bool rfl) ?_
          first | refine l_gskip rfl rfl ?_ | refine l_gskip_u rfl rfl ?_ | refine l_gdo rfl rfl (by exact y_mv_int rfl) ?_
          first | refine l_gskip rfl rfl ?_ | refine l_gskip_u rfl rfl ?_ | refine l_gdo rfl rfl (by first | exact y_lss rfl rfl (decide_eq_true (by omega)) | exact y_lss rfl rfl (decide_eq_false (by omega)) | exact y_lss rfl rfl rfl) ?_
          refine l_q (by first | exact y_pk_bt rfl rfl | exact y_pk_bf rfl rfl) ?_
          refine l_end ?_
          refine e_then ?_
          refine cond_f rfl ?_
          refine s_exit ?_
          refine e_then_x ?_
          refine e_then_x ?_
          refine e_blk_x ?_
          refine e_then ?_
          refine s_seq ?_
          refine s_seq ?_
          refine s_reg ?_
          refine l_q (by exact y_as_int rfl) ?_
          refine l_end ?_
          refine e_then ?_
          refine s_block ?_
          refine loop_st (X := Nat × QI × List WE × Nat) (fun y => [(13, .pointer (some ⟨F.b13, 0, none⟩)), (14, .func (.func 11) #[] #[.pointer (some ⟨F.b10, 0, none⟩), .pointer (some ⟨F.b13, 0, none⟩), .pointer (some ⟨F.b9, 0, none⟩), .pointer (some ⟨F.b12, 0, none⟩)]), (18, I64 y.1)])
            (fun y w => St W w (y.2.1.L (F.bx y.2.2.2 (valsW y.2.2.1) (blksW y.2.2.1 ++ T))) ∧ Inv F y.2.1 y.2.2.1 y.2.2.2 ∧ y.2.2.2 ≤ 60 - y.1 ∧ y.1 ≤ 61) (fun y => 61 - y.1) (0, x, wes, many) ⟨rfl, rfl, rfl, trivial⟩ ⟨hs, hi, by dsimp only; omega, by dsimp only; omega⟩ ?_
          clear hs hi mi
          rintro ⟨k, x, wes, many⟩ ρ w ⟨hs, hi, mi, k61⟩
          dsimp only at *
          by_cases c : k ≤ 60
          · refine s_seq ?_
            refine s_seq ?_
            refine s_reg ?_
            refine l_q (by exact y_mv_int rfl) ?_
            refine l_q (by first | exact y_leq rfl rfl (decide_eq_true (by omega)) | exact y_leq rfl rfl (decide_eq_false (by omega)) | exact y_leq rfl rfl rfl) ?_
            refine l_end ?_
            refine e_then ?_
            refine cond_t rfl ?_
            refine s_skip ?_
            refine e_then ?_
            refine s_seq ?_
            refine s_block ?_
            refine s_seq ?_
            refine s_reg ?_
            refine l_q (by exact y_mv_func rfl) ?_
            refine l_w (w_call rfl (closure_c hi hs) rfl (fun _ w h => ?_))
            obtain ⟨rfl, x', wes', hi', hs⟩ := h
            refine l_q (by first | exact y_not_t rfl | exact y_not_f rfl | exact y_notd rfl) ?_
            refine l_end ?_
            refine e_then ?_
            refine cond_f rfl ?_
            refine s_skip ?_
            refine e_blk ?_
            refine e_then ?_
            refine s_reg ?_
            refine l_q (by exact y_mv_int rfl) ?_
            refine l_q (by first | exact y_addn rfl rfl (by omega) | exact y_add rfl rfl rfl) ?_
            refine l_q (by exact y_as_int rfl) ?_
            refine l_end ?_
            refine e_then ?_
            exact ⟨(k + 1, x', wes', many - 1), _, nx ⟨rfl, rfl, rfl, trivial⟩, ⟨hs, hi', by dsimp only; omega, by dsimp only; omega⟩, by dsimp only; omega⟩
          · refine s_seq ?_
            refine s_seq ?_
            refine s_reg ?_
            refine l_q (by exact y_mv_int rfl) ?_
            refine l_q (by first | exact y_leq rfl rfl (decide_eq_true (by omega)) | exact y_leq rfl rfl (decide_eq_false (by omega)) | exact y_leq rfl rfl rfl) ?_
            refine l_end ?_
            refine e_then ?_
            refine cond_f rfl ?_
            refine s_exit ?_
            refine e_then_x ?_
            refine e_then_x ?_
            refine e_blk_x ?_
            refine e_then ?_
            refine s_seq ?_
            refine s_reg ?_
            refine l_q (by exact y_ld hs rfl rfl) ?_
            refine l_q (by first | exact y_eql rfl rfl (decide_eq_true (by omega)) | exact y_eql rfl rfl (decide_eq_false (by omega)) | exact y_eql rfl rfl rfl) ?_
            refine l_q (by exact y_as_bool rfl) ?_
            refine l_end ?_
            refine e_then ?_
            refine s_ret ?_
            exact ret_ [.bool _] rfl ⟨rfl, trivial⟩ ⟨rfl, hs.nil⟩
      · skip
        refine s_seq ?_
        refine s_seq ?_
        refine s_reg ?_
        refine l_q (by exact y_mv_int rfl) ?_
        refine l_q (by exact y_mv_slice rfl) ?_
        refine l_q (by exact y_len_slice rfl) ?_
        refine l_q (by first | exact y_lss rfl rfl (decide_eq_true (by omega)) | exact y_lss rfl rfl (decide_eq_false (by omega)) | exact y_lss rfl rfl rfl) ?_
        refine l_q (by exact y_mv_bool rfl) ?_
        first | refine l_gskip rfl rfl ?_ | refine l_gskip_u rfl rfl ?_ | refine l_gdo rfl rfl (by exact y_mv_int rfl) ?_
        first | refine l_gskip rfl rfl ?_ | refine l_gskip_u rfl rfl ?_ | refine l_gdo rfl rfl (by exact y_mv_slice rfl) ?_
        first | refine l_gskip rfl rfl ?_ | refine l_gskip_u rfl rfl ?_ | refine l_gdo rfl rfl (by exact y_len_slice rfl) ?_
        first | refine l_gskip rfl rfl ?_ | refine l_gskip_u rfl rfl ?_ | refine l_gdo rfl rfl (by first | exact y_lss rfl rfl (decide_eq_true (by omega)) | exact y_lss rfl rfl (decide_eq_false (by omega)) | exact y_lss rfl rfl rfl) ?_
        refine l_q (by first | exact y_pk_bt rfl rfl | exact y_pk_bf rfl rfl) ?_
        refine l_q (by exact y_mv_bool rfl) ?_
        first | refine l_gskip rfl rfl ?_ | refine l_gskip_u rfl rfl ?_ | refine l_gdo rfl rfl (by exact y_mv_int rfl) ?_
        first | refine l_gskip rfl rfl ?_ | refine l_gskip_u rfl rfl ?_ | refine l_gdo rfl rfl (by first | exact y_lss rfl rfl (decide_eq_true (by omega)) | exact y_lss rfl rfl (decide_eq_false (by omega)) | exact y_lss rfl rfl rfl) ?_
        refine l_q (by first | exact y_pk_bt rfl rfl | exact y_pk_bf rfl rfl) ?_
        refine l_end ?_
        refine e_then ?_
        refine cond_f rfl ?_
        refine s_exit ?_
        refine e_then_x ?_
        refine e_then_x ?_
        refine e_blk_x ?_
        refine e_then ?_
        refine s_seq ?_
        refine s_seq ?_
        refine s_reg ?_
        refine l_q (by exact y_as_int rfl) ?_
        refine l_end ?_
        refine e_then ?_
        refine s_block ?_
        refine loop_st (X := Nat × QI × List WE × Nat) (fun y => [(13, .pointer (some ⟨F.b13, 0, none⟩)), (14, .func (.func 11) #[] #[.pointer (some ⟨F.b10, 0, none⟩), .pointer (some ⟨F.b13, 0, none⟩), .pointer (some ⟨F.b9, 0, none⟩), .pointer (some ⟨F.b12, 0, none⟩)]), (18, I64 y.1)])
          (fun y w => St W w (y.2.1.L (F.bx y.2.2.2 (valsW y.2.2.1) (blksW y.2.2.1 ++ T))) ∧ Inv F y.2.1 y.2.2.1 y.2.2.2 ∧ y.2.2.2 ≤ 60 - y.1 ∧ y.1 ≤ 61) (fun y => 61 - y.1) (0, x, wes, many) ⟨rfl, rfl, rfl, trivial⟩ ⟨hs, hi, by dsimp only; omega, by dsimp only; omega⟩ ?_
        clear hs hi mi
        rintro ⟨k, x, wes, many⟩ ρ w ⟨hs, hi, mi, k61⟩
        dsimp only at *
        by_cases c : k ≤ 60
        · refine s_seq ?_
          refine s_seq ?_
          refine s_reg ?_
          refine l_q (by exact y_mv_int rfl) ?_
          refine l_q (by first | exact y_leq rfl rfl (decide_eq_true (by omega)) | exact y_leq rfl rfl (decide_eq_false (by omega)) | exact y_leq rfl rfl rfl) ?_
          refine l_end ?_
          refine e_then ?_
          refine cond_t rfl ?_
          refine s_skip ?_
          refine e_then ?_
          refine s_seq ?_
          refine s_block ?_
          refine s_seq ?_
          refine s_reg ?_
          refine l_q (by exact y_mv_func rfl) ?_
          refine l_w (w_call rfl (closure_c hi hs) rfl (fun _ w h => ?_))
          obtain ⟨rfl, x', wes', hi', hs⟩ := h
          refine l_q (by first | exact y_not_t rfl | exact y_not_f rfl | exact y_notd rfl) ?_
          refine l_end ?_
          refine e_then ?_
          refine cond_f rfl ?_
          refine s_skip ?_
          refine e_blk ?_
          refine e_then ?_
          refine s_reg ?_
          refine l_q (by exact y_mv_int rfl) ?_
          refine l_q (by first | exact y_addn rfl rfl (by omega) | exact y_add rfl rfl rfl) ?_
          refine l_q (by exact y_as_int rfl) ?_
          refine l_end ?_
          refine e_then ?_
          exact ⟨(k + 1, x', wes', many - 1), _, nx ⟨rfl, rfl, rfl, trivial⟩, ⟨hs, hi', by dsimp only; omega, by dsimp only; omega⟩, by dsimp only; omega⟩
        · refine s_seq ?_
          refine s_seq ?_
          refine s_reg ?_
          refine l_q (by exact y_mv_int rfl) ?_
          refine l_q (by first | exact y_leq rfl rfl (decide_eq_true (by omega)) | exact y_leq rfl rfl (decide_eq_false (by omega)) | exact y_leq rfl rfl rfl) ?_
          refine l_end ?_
          refine e_then ?_
          refine cond_f rfl ?_
          refine s_exit ?_
          refine e_then_x ?_
          refine e_then_x ?_
          refine e_blk_x ?_
          refine e_then ?_
          refine s_seq ?_
          refine s_reg ?_
          refine l_q (by exact y_ld hs rfl rfl) ?_
          refine l_q (by first | exact y_eql rfl rfl (decide_eq_true (by omega)) | exact y_eql rfl rfl (decide_eq_false (by omega)) | exact y_eql rfl rfl rfl) ?_
          refine l_q (by exact y_as_bool rfl) ?_
          refine l_end ?_
          refine e_then ?_
          refine s_ret ?_
          exact ret_ [.bool _] rfl ⟨rfl, trivial⟩ ⟨rfl, hs.nil⟩
end Go.Proofs.Ytohomijijipfdaa
