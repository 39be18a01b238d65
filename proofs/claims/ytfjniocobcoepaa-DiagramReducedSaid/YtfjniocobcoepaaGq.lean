/- Facts on the functions and types of this seat that its laws are proved from: contracts under the premises that each theorem names. -/
import Derived.Test.YtfjniocobcoepaaGp
set_option linter.unusedSimpArgs false
set_option linter.unusedVariables false
set_option linter.unnecessarySimpa false
namespace Go.Proofs.Ytfjniocobcoepaa
open Go Go.RowKit PB
set_option linter.unusedVariables false
set_option linter.unusedSimpArgs false

theorem zeros_b2 (n : Nat) : zerosL (.bool false) (n * 1) = (List.replicate n false).map Value.bool := by rw [Nat.mul_one, zerosL_one rfl]; simp
theorem size_c {W0 w : World} {M : MB} {s : DS} {R : List (Nat × MObj)} (h : Inv s) {a : Nat} (ha : a < s.nodes.length) (hn : s.nodes.length ≤ 60000) (hd : Dg W0 w M s R) :
    FnC Try.prog 23 [M.p, I64 a] w (fun v w' => v = .tuple #[I64 ((dfsF s (s.vars + 1) [] a).length : Nat), I64 0] ∧ Dg W0 w' M s R) := by
  obtain ⟨os, hok, hs⟩ := hd.ex
  refine FnC.enter Try.func23 rfl Try.ntmps23 rfl fun ρ => ?_
  refine s_seq ?_
  refine s_reg ?_
  refine l_w (w_box1 hs rfl rfl (fun b2 w hs hb2 => ?_))
  refine l_q (by exact y_as_int rfl) ?_
  refine l_q (by exact y_as_int rfl) ?_
  refine l_end ?_
  refine e_then ?_
  refine s_seq ?_
  refine s_seq ?_
  refine s_reg ?_
  refine l_q (by exact y_ld hs rfl rfl) ?_
  refine l_q (by exact y_mv_int rfl) ?_
  refine l_w (w_buildSlice (pv := [(0, .int .i64 _)]) (vs := [_]) hs rfl rfl rfl rfl (fun b11 w hs hb11 => ?_))
  refine l_w (w_call rfl (bad_c (bb := b11) (e := 3) [a] (by simp) (lt1 ha) hn hs) rfl (fun _ w h => ?_))
  obtain ⟨rfl, hs⟩ := h
  refine l_end ?_
  refine e_then ?_
  refine cond_f rfl ?_
  refine s_skip ?_
  refine e_then ?_
  refine s_seq ?_
  refine s_reg ?_
  refine l_q (by exact y_ld hs rfl rfl) ?_
  refine l_q (by first | exact y_nil rfl | exact y_nilf rfl) ?_
  refine l_q (by exact y_field rfl) ?_
  refine l_q (by exact y_ld hs rfl rfl) ?_
  refine l_q (by exact y_len_slice rfl) ?_
  refine l_w (w_makeSlice (m := s.nodes.length) hs rfl rfl (by omega) (by omega) (fun b18 w hs hb18 => ?_))
  rw [zeros_b2, seenB_0] at hs
  refine l_w (w_alloc (cs := [_]) hs rfl (fun b6 w hs hb6 => ?_))
  refine l_w (w_store (v := .slice _ _ _) hs rfl rfl rfl rfl (fun w hs => ?_))
  refine l_end ?_
  refine e_then ?_
  refine s_seq ?_
  refine s_reg ?_
  refine l_w (w_alloc (cs := [_]) hs rfl (fun b7 w hs hb7 => ?_))
  refine l_w (w_store (v := .int .i64 _) hs rfl rfl rfl rfl (fun w hs => ?_))
  refine l_end ?_
  refine e_then ?_
  refine s_seq ?_
  refine s_reg ?_
  refine l_w (w_alloc (cs := [_]) hs rfl (fun b8 w hs hb8 => ?_))
  refine l_end ?_
  refine e_then ?_
  refine s_seq ?_
  refine s_reg ?_
  refine l_q (by exact y_mkfunc (cv := [_, _, _, _]) rfl) ?_
  refine l_w (w_store (v := .func (.func 38) #[] #[_, _, _, _]) hs rfl rfl rfl rfl (fun w hs => ?_))
  replace hs := stB_rotN (Q := [_, _, _, _, _, _]) hs; replace hs : St W0 w (stB M s os (wbL ⟨b18, b6, b7, b8, b2⟩ M s.nodes.length [] R)) := stB_dropN (.cons_cons _ (.cons_cons _ (.cons_cons _ (.cons_cons _ (.cons _ (.cons_cons _ (List.Sublist.refl _))))))) hs
  refine l_end ?_
  refine e_then ?_
  refine s_seq ?_
  refine s_reg ?_
  refine l_q (by exact y_ld hs rfl rfl) ?_
  refine l_q (by exact y_mv_int rfl) ?_
  refine l_w (w_call rfl (size1_c h hn hok (s.vars + 1) [] a w List.nodup_nil (by simp) ha (by omega) hs) rfl (fun _ w h => ?_))
  obtain ⟨rfl, hs⟩ := h
  refine l_end ?_
  refine e_then ?_
  refine s_seq ?_
  refine s_reg ?_
  refine l_q (by exact y_ld hs rfl rfl) ?_
  refine l_q (by exact y_as_int rfl) ?_
  refine l_q (by exact y_as_int rfl) ?_
  refine l_end ?_
  refine e_then ?_
  refine s_ret ?_
  exact ret_ [.int .i64 _, .int .i64 _] rfl ⟨rfl, rfl, trivial⟩ ⟨rfl, os, hok, stB_dropN (.cons _ (.cons _ (.cons _ (.cons _ (.cons _ (List.Sublist.refl _)))))) hs⟩

/-! ### DiagramReduced -/
theorem stB_perm {W0 w : World} {M : MB} {s : DS} {os : OS} {Q R : List (Nat × MObj)} (hp : Q.Perm R) (h : St W0 w (stB M s os Q)) : St W0 w (stB M s os R) :=
  h.perm (List.Perm.cons _ (List.Perm.append_left _ (List.Perm.cons _ (List.Perm.cons _ hp))))
theorem perm_acb (A B C D : List (Nat × MObj)) : (A ++ (B ++ (C ++ D))).Perm (C ++ (B ++ (A ++ D))) :=
  (List.perm_append_comm_assoc A B _).trans ((List.Perm.append_left B (List.perm_append_comm_assoc A C D)).trans (List.perm_append_comm_assoc B C _))
theorem perm_3 (p q r : Nat × MObj) (A B C : List (Nat × MObj)) : (p :: q :: r :: (A ++ (B ++ C))).Perm (B ++ (p :: q :: r :: (A ++ C))) := by
  have := List.perm_append_comm_assoc ([p, q, r] ++ A) B C
  simp only [List.append_assoc, List.cons_append, List.nil_append] at this
  exact this
theorem perm_4 (p q r : Nat × MObj) (S A B C : List (Nat × MObj)) : (S ++ (p :: q :: r :: (A ++ (B ++ C)))).Perm (B ++ (S ++ (p :: q :: r :: (A ++ C)))) := by
  have := List.perm_append_comm_assoc (S ++ ([p, q, r] ++ A)) B C
  simp only [List.append_assoc, List.cons_append, List.nil_append] at this
  exact this
theorem contains_v {W0 w : World} {L : List (Nat × MObj)} {os : OS} {l : List Nat} (hok : os.ok (nV l) l.length 1) {x : Nat} {b : Bool} (hb : decide (x ∈ l) = b) (hl : l.length ≤ 1000000) (hin : ∀ g, os.a = some g → InL g (.cells (nV l ++ os.sp) 3) L) (hs : St W0 w L) :
    FnC Try.prog 21 [.slice os.ad l.length os.cap, I64 x] w (fun v w' => v = .bool b ∧ St W0 w' L) := by
  subst hb; exact contains_c hok x hl hin hs
theorem same3 (a b : N3) (h : a ≠ b) : sameInts [I64 a.1, I64 a.2.1, I64 a.2.2] [I64 b.1, I64 b.2.1, I64 b.2.2] = some false := by
  obtain ⟨a0, a1, a2⟩ := a
  obtain ⟨b0, b1, b2⟩ := b
  simp [sameInts]
  simp at h
  omega
structure RdI (s : DS) (a : Nat) (ot : OT) (dn sn : OS) (op done : List Nat) : Prop where
  bfs : Bfs s a op done
  okt : ot.ok (nV op) op.length 1
  okd : dn.ok (nV done) done.length 1
  oks : sn.ok (flatN (done.map s.nd)) done.length 3
  d200 : done.length ≤ 200
  ol : op.length ≤ 1 + done.length


set_option maxRecDepth 100000 in
theorem reduced_walk (W : World) (a0 : Option Addr) (n0 c0 : Nat) (z0 : List Int) (h0 : Ints W a0 n0 z0) (l0 : n0 ≤ 9223372036854775807) (_q0 : n0 ≤ c0) (a1 : Option Addr) (n1 c1 : Nat) (z1 : List Int) (h1 : Ints W a1 n1 z1) (l1 : n1 ≤ 9223372036854775807) (_q1 : n1 ≤ c1)
    (a2 : Option Addr) (n2 c2 : Nat) (z2 : List Int) (h2 : Ints W a2 n2 z2) (l2 : n2 ≤ 9223372036854775807) (_q2 : n2 ≤ c2) (x : Int) :
    FnC Try.prog 5 [.slice a0 n0 c0, .slice a1 n1 c1, .slice a2 n2 c2, I64 x] W (fun v w' => v = .bool true ∧ St W w' []) := by
  have hs := St.start W
  refine FnC.enter Try.func5 rfl Try.ntmps5 rfl fun ρ => ?_
  refine s_seq ?_
  refine s_reg ?_
  refine l_q (by exact y_as_bool rfl) ?_
  refine l_end ?_
  refine e_then ?_
  refine s_seq ?_
  refine s_reg ?_
  refine l_w (w_call rfl (new_c (n := 7) (by decide) hs) rfl (fun _ w h => ?_))
  obtain ⟨M, rfl, hd⟩ := h; obtain ⟨os, hos, hs⟩ := hd.ex
  refine l_q (by exact y_mv_tuple rfl) ?_
  refine l_q (by exact y_extract rfl rfl) ?_
  refine l_q (by exact y_extract rfl rfl) ?_
  refine l_q (by exact y_as_ptr rfl) ?_
  refine l_q (by exact y_as_int rfl) ?_
  refine l_end ?_
  refine e_then ?_
  refine s_seq ?_
  refine s_seq ?_
  refine s_reg ?_
  refine l_w (w_call rfl (fact_c hs) rfl (fun _ w h => ?_))
  obtain ⟨rfl, hs⟩ := h; replace hd : Dg W w M (initS 7) [] := ⟨os, hos, hs⟩
  refine l_q (by first | exact y_not_t rfl | exact y_not_f rfl | exact y_notd rfl) ?_
  refine l_q (by exact y_mv_bool rfl) ?_
  first | refine l_gskip rfl rfl ?_ | refine l_gskip_u rfl rfl ?_ | refine l_gdo rfl rfl (by exact y_mv_int rfl) ?_
  first | refine l_gskip rfl rfl ?_ | refine l_gskip_u rfl rfl ?_ | refine l_gdo rfl rfl (by first | exact y_neq rfl rfl (decide_eq_true (by omega)) | exact y_neq rfl rfl (decide_eq_false (by omega)) | exact y_neq rfl rfl rfl) ?_
  refine l_q (by first | exact y_pk_bt rfl rfl | exact y_pk_bf rfl rfl) ?_
  refine l_q (by exact y_mv_bool rfl) ?_
  first | refine l_gskip rfl rfl ?_ | refine l_gskip_u rfl rfl ?_ | refine l_gdo rfl rfl (by exact y_mv_ptr rfl) ?_
  first | refine l_gskip rfl rfl ?_ | refine l_gskip_u rfl rfl ?_ | refine l_gdo rfl rfl (by first | exact y_ptr_nn rfl rfl | exact y_ptr_eql rfl rfl rfl) ?_
  refine l_q (by first | exact y_pk_bt rfl rfl | exact y_pk_bf rfl rfl) ?_
  refine l_end ?_
  refine e_then ?_
  refine cond_f rfl ?_
  refine s_skip ?_
  refine e_then ?_
  refine s_seq ?_
  refine s_reg ?_
  refine l_q (by exact y_mv_ptr rfl) ?_
  refine l_q (by exact y_mv_slice rfl) ?_
  refine l_q (by exact y_mv_slice rfl) ?_
  refine l_q (by exact y_mv_slice rfl) ?_
  refine l_w (w_call rfl (drawn_c h0 h1 h2 l0 l1 l2 hd) rfl (fun _ w h => ?_))
  obtain ⟨s, l, ol, n, rfl, D, hn9, hn34, hd⟩ := h; obtain ⟨ix, a, fa, hrx, hix, hga, Ka⟩ := drawn_k D (by omega) x; have hln := D.len; have hokl := D.ok; obtain ⟨g, hg, had, hca⟩ := own_now hokl hix; rw [hga] at hca; haveI := inl_blk hg (nV l) 3; have I := D.inv; have h7 := D.v7; have hc := D.cnt; obtain ⟨os, hos, hs⟩ := hd.ex
  refine l_q (by exact y_as_slice rfl) ?_
  refine l_end ?_
  refine e_then ?_
  refine s_seq ?_
  refine s_reg ?_
  refine l_q (by exact y_mv_slice rfl) ?_
  refine l_q (by exact y_mv_int rfl) ?_
  refine l_q (by exact y_mv_slice rfl) ?_
  refine l_q (by exact y_len_slice rfl) ?_
  refine l_w (w_call rfl (rest_e hrx _ (by omega) (by omega)) rfl (fun _ w h => ?_))
  obtain ⟨rfl, rfl⟩ := h
  refine l_q (by exact y_indexT (off := ix) rfl rfl (by omega) (by omega) had (by omega)) ?_
  refine l_q (by exact y_ld (v := I64 (a : Nat)) hs rfl hca) ?_
  refine l_w (w_buildSlice (pv := [(0, .int .i64 _)]) (vs := [_]) hs rfl rfl rfl rfl (fun b51 w hs hb51 => ?_))
  refine l_q (by exact y_as_slice rfl) ?_
  refine l_end ?_
  refine e_then ?_
  refine s_seq ?_
  refine s_reg ?_
  refine l_q (by exact y_as_slice rfl) ?_
  refine l_end ?_
  refine e_then ?_
  refine s_seq ?_
  refine s_reg ?_
  refine l_q (by exact y_as_slice rfl) ?_
  refine l_end ?_
  refine e_then ?_
  refine s_seq ?_
  refine s_block ?_
  have hlt := Ka.lt
  have hn : s.nodes.length ≤ 60000 := by omega
  replace hs := stB_rotN (Q := [_]) hs
  obtain ⟨Rl, hRl⟩ : ∃ R, ol.blk (nV l) 3 ++ [] = R := ⟨_, rfl⟩
  rw [hRl] at hs
  refine loop_st (X := OT × OS × OS × List Nat × List Nat) (fun y => [(3, I64 x), (9, M.p), (11, .slice ol.ad l.length ol.cap), (12, .slice y.1.ad y.2.2.2.1.length y.1.cap), (13, .slice y.2.2.1.ad y.2.2.2.2.length y.2.2.1.cap), (14, .slice y.2.1.ad y.2.2.2.2.length y.2.1.cap)])
    (fun y w => Dg W w M s (y.2.1.blk (nV y.2.2.2.2) 3 ++ (y.2.2.1.blk (flatN (y.2.2.2.2.map s.nd)) 39 ++ (y.1.blk (nV y.2.2.2.1) 3 ++ Rl))) ∧ RdI s a y.1 y.2.1 y.2.2.1 y.2.2.2.1 y.2.2.2.2) (fun y => 2 * (200 - y.2.2.2.2.length) + y.2.2.2.1.length)
    (⟨some b51, [], 1, []⟩, OS.nl, OS.nl, [a], []) ⟨rfl, rfl, rfl, rfl, rfl, rfl, trivial⟩ ⟨⟨os, hos, hs⟩, ⟨Bfs.start' hlt, ⟨rfl, Nat.le_refl _, Nat.le_refl _, fun h => by cases h⟩, OS.ok_nl 1, OS.ok_nl 3, Nat.zero_le _, Nat.le_refl _⟩⟩ ?_
  clear hs hos hd
  rintro ⟨ot, dn, sn, op, done⟩ ρ w ⟨hd, RI⟩
  dsimp only at hd RI ⊢
  have d200 := RI.d200
  have hol := RI.ol
  obtain ⟨os, hos, hs⟩ := hd.ex
  cases op with
  | nil =>
    have hsz := (dfs_all I.toOrd hlt).len RI.bfs.all
    subst hRl
    refine s_seq ?_
    refine s_seq ?_
    refine s_reg ?_
    refine l_q (by exact y_mv_slice rfl) ?_
    refine l_q (by exact y_len_slice rfl) ?_
    refine l_q (by first | exact y_gtr rfl rfl (decide_eq_true (by omega)) | exact y_gtr rfl rfl (decide_eq_false (by omega)) | exact y_gtr rfl rfl rfl) ?_
    refine l_q (by exact y_mv_bool rfl) ?_
    first | refine l_gskip rfl rfl ?_ | refine l_gskip_u rfl rfl ?_ | refine l_gdo rfl rfl (by exact y_mv_slice rfl) ?_
    first | refine l_gskip rfl rfl ?_ | refine l_gskip_u rfl rfl ?_ | refine l_gdo rfl rfl (by exact y_len_slice rfl) ?_
    first | refine l_gskip rfl rfl ?_ | refine l_gskip_u rfl rfl ?_ | refine l_gdo rfl rfl (by first | exact y_lss rfl rfl (decide_eq_true (by omega)) | exact y_lss rfl rfl (decide_eq_false (by omega)) | exact y_lss rfl rfl rfl) ?_
    refine l_q (by first | exact y_pk_bt rfl rfl | exact y_pk_bf rfl rfl) ?_
    refine l_end ?_
    refine e_then ?_
    refine cond_f rfl ?_
    refine s_exit ?_
    refine e_then_x ?_
    refine e_then_x ?_
    refine e_blk_x ?_
    refine e_then ?_
    refine s_seq ?_
    refine s_reg ?_
    refine l_q (by exact y_mv_ptr rfl) ?_
    refine l_q (by exact y_mv_slice rfl) ?_
    refine l_q (by exact y_mv_int rfl) ?_
    refine l_q (by exact y_mv_slice rfl) ?_
    refine l_q (by exact y_len_slice rfl) ?_
    refine l_w (w_call rfl (rest_e hrx _ (by omega) (by omega)) rfl (fun _ w h => ?_))
    obtain ⟨rfl, rfl⟩ := h
    refine l_q (by exact y_indexT (off := ix) rfl rfl (by omega) (by omega) had (by omega)) ?_
    refine l_q (by exact y_ld (v := I64 (a : Nat)) hs rfl hca) ?_
    refine l_w (w_call rfl (size_c I hlt hn ⟨os, hos, hs⟩) rfl (fun _ w h => ?_))
    obtain ⟨rfl, hd⟩ := h
    refine l_q (by exact y_mv_tuple rfl) ?_
    refine l_q (by exact y_extract rfl rfl) ?_
    refine l_q (by exact y_extract rfl rfl) ?_
    refine l_q (by exact y_as_int rfl) ?_
    refine l_q (by exact y_as_int rfl) ?_
    refine l_end ?_
    refine e_then ?_
    refine s_seq ?_
    refine s_reg ?_
    refine l_q (by exact y_mv_int rfl) ?_
    refine l_q (by first | exact y_eql rfl rfl (decide_eq_true (by omega)) | exact y_eql rfl rfl (decide_eq_false (by omega)) | exact y_eql rfl rfl rfl) ?_
    refine l_q (by exact y_mv_bool rfl) ?_
    first | refine l_gskip rfl rfl ?_ | refine l_gskip_u rfl rfl ?_ | refine l_gdo rfl rfl (by exact y_mv_int rfl) ?_
    first | refine l_gskip rfl rfl ?_ | refine l_gskip_u rfl rfl ?_ | refine l_gdo rfl rfl (by exact y_mv_slice rfl) ?_
    first | refine l_gskip rfl rfl ?_ | refine l_gskip_u rfl rfl ?_ | refine l_gdo rfl rfl (by exact y_len_slice rfl) ?_
    first | refine l_gskip rfl rfl ?_ | refine l_gskip_u rfl rfl ?_ | refine l_gdo rfl rfl (by first | exact y_eql rfl rfl (decide_eq_true (by omega)) | exact y_eql rfl rfl (decide_eq_false (by omega)) | exact y_eql rfl rfl rfl) ?_
    first | refine l_gskip rfl rfl ?_ | refine l_gskip_u rfl rfl ?_ | refine l_gdo rfl rfl (by exact y_mv_bool rfl) ?_
    first | refine l_gskip rfl rfl ?_ | refine l_gskip_u rfl rfl ?_ | refine l_gdo rfl rfl (by exact y_mv_slice rfl) ?_
    first | refine l_gskip rfl rfl ?_ | refine l_gskip_u rfl rfl ?_ | refine l_gdo rfl rfl (by exact y_len_slice rfl) ?_
    first | refine l_gskip rfl rfl ?_ | refine l_gskip_u rfl rfl ?_ | refine l_gdo rfl rfl (by first | exact y_eql rfl rfl (decide_eq_true (by omega)) | exact y_eql rfl rfl (decide_eq_false (by omega)) | exact y_eql rfl rfl rfl) ?_
    first | refine l_gskip rfl rfl ?_ | refine l_gskip_u rfl rfl ?_ | refine l_gdo rfl rfl (by first | exact y_pk_bt rfl rfl | exact y_pk_bf rfl rfl) ?_
    refine l_q (by first | exact y_pk_bt rfl rfl | exact y_pk_bf rfl rfl) ?_
    refine l_q (by exact y_as_bool rfl) ?_
    refine l_end ?_
    refine e_then ?_
    refine s_ret ?_
    exact ret_ [.bool _] rfl ⟨rfl, trivial⟩ ⟨rfl, hd.rest.nil⟩
  | cons a0 op =>
    have hcl : (a0 :: op).length = op.length + 1 := rfl
    have hcl2 : (nV (a0 :: op)).length = op.length + 1 := by simp
    by_cases c2 : done.length < 200
    · have ha0 := RI.bfs.olt a0 (List.mem_cons_self ..)
      obtain ⟨gt, hgt⟩ : ∃ g, ot.a = some g := by
        cases h : ot.a with
        | none => have := RI.okt.nil_ h; omega
        | some g => exact ⟨g, rfl⟩
      have hadt : ot.ad = some ⟨gt, ot.pre.length, none⟩ := by simp [OT.ad, hgt]
      have hct : (ot.pre ++ (nV (a0 :: op) ++ ot.sp))[ot.pre.length]? = some (I64 (a0 : Nat)) := by simp
      haveI := inl_blkT hgt (nV (a0 :: op)) 3
      have hokt2 : (ot.tl (I64 (a0 : Nat))).ok (nV op) op.length 1 := OT.tl_ok (x := I64 (a0 : Nat)) (xs := nV op) (len := op.length) RI.okt
      have htb : (ot.tl (I64 (a0 : Nat))).blk (nV op) 3 = ot.blk (nV (a0 :: op)) 3 := OT.tl_blk ot (I64 (a0 : Nat)) (nV op) (fun hc => by
        have := RI.okt.cap_
        have h0 : op.length = 0 := by omega
        rw [List.length_eq_zero_iff.1 h0]; rfl) 3
      replace hs := stB_outN hs
      have hcont : ∀ w', St W w' (dn.blk (nV done) 3 ++ stB M s os (sn.blk (flatN (done.map s.nd)) 39 ++ (ot.blk (nV (a0 :: op)) 3 ++ Rl))) → (a0 < 2 ∨ a0 ∈ done) → Dg W w' M s (dn.blk (nV done) 3 ++ (sn.blk (flatN (done.map s.nd)) 39 ++ ((ot.tl (I64 (a0 : Nat))).blk (nV op) 3 ++ Rl))) ∧ RdI s a (ot.tl (I64 (a0 : Nat))) dn sn op done := by
        intro w' hs' hq
        rw [htb]
        exact ⟨⟨os, hos, stB_rotN hs'⟩, ⟨RI.bfs.drop hq, hokt2, RI.okd, RI.oks, RI.d200, by omega⟩⟩
      by_cases d1 : a0 < 2
      · refine s_seq ?_
        refine s_seq ?_
        refine s_reg ?_
        refine l_q (by exact y_mv_slice rfl) ?_
        refine l_q (by exact y_len_slice rfl) ?_
        refine l_q (by first | exact y_gtr rfl rfl (decide_eq_true (by omega)) | exact y_gtr rfl rfl (decide_eq_false (by omega)) | exact y_gtr rfl rfl rfl) ?_
        refine l_q (by exact y_mv_bool rfl) ?_
        first | refine l_gskip rfl rfl ?_ | refine l_gskip_u rfl rfl ?_ | refine l_gdo rfl rfl (by exact y_mv_slice rfl) ?_
        first | refine l_gskip rfl rfl ?_ | refine l_gskip_u rfl rfl ?_ | refine l_gdo rfl rfl (by exact y_len_slice rfl) ?_
        first | refine l_gskip rfl rfl ?_ | refine l_gskip_u rfl rfl ?_ | refine l_gdo rfl rfl (by first | exact y_lss rfl rfl (decide_eq_true (by omega)) | exact y_lss rfl rfl (decide_eq_false (by omega)) | exact y_lss rfl rfl rfl) ?_
        refine l_q (by first | exact y_pk_bt rfl rfl | exact y_pk_bf rfl rfl) ?_
        refine l_end ?_
        refine e_then ?_
        refine cond_t rfl ?_
        refine s_skip ?_
        refine e_then ?_
        refine s_block ?_
        refine s_seq ?_
        refine s_reg ?_
        refine l_q (by exact y_mv_slice rfl) ?_
        refine l_q (by exact y_indexT (off := ot.pre.length) rfl rfl (by omega) (by omega) hadt (by omega)) ?_
        refine l_q (by exact y_ld (v := I64 (a0 : Nat)) hs rfl hct) ?_
        refine l_q (by exact y_as_int rfl) ?_
        refine l_end ?_
        refine e_then ?_
        refine s_seq ?_
        refine s_reg ?_
        refine l_q (by exact y_mv_slice rfl) ?_
        refine l_q (by exact y_sliceT (s := ot) (m := op.length) (x0 := I64 (a0 : Nat)) rfl rfl ⟨gt, hgt⟩) ?_
        refine l_q (by exact y_as_slice rfl) ?_
        refine l_end ?_
        refine e_then ?_
        refine s_seq ?_
        refine s_seq ?_
        refine s_reg ?_
        refine l_q (by exact y_mv_int rfl) ?_
        refine l_q (by first | exact y_lss rfl rfl (decide_eq_true (by omega)) | exact y_lss rfl rfl (decide_eq_false (by omega)) | exact y_lss rfl rfl rfl) ?_
        refine l_q (by exact y_mv_bool rfl) ?_
        first | refine l_gskip rfl rfl ?_ | refine l_gskip_u rfl rfl ?_ | refine l_gdo rfl rfl (by exact y_mv_slice rfl) ?_
        first | refine l_gskip rfl rfl ?_ | refine l_gskip_u rfl rfl ?_ | refine l_gdo rfl rfl (by exact y_mv_int rfl) ?_
        first | refine l_gskip rfl rfl ?_ | refine l_gskip_u rfl rfl ?_ | (refine l_gw rfl rfl (w_call rfl (contains_v RI.okd hmem (by omega) (fun g hg => ⟨by simp [OS.blk, hg]⟩) hs) rfl (fun _ w h => ?_)); obtain ⟨rfl, hs⟩ := h)
        refine l_q (by first | exact y_pk_bt rfl rfl | exact y_pk_bf rfl rfl) ?_
        refine l_end ?_
        refine e_then ?_
        refine cond_t rfl ?_
        refine s_exit ?_
        refine e_then_x ?_
        refine e_blk_x ?_
        refine e_then ?_
        exact ⟨(ot.tl (I64 (a0 : Nat)), dn, sn, op, done), _, nx ⟨rfl, rfl, rfl, rfl, rfl, rfl, trivial⟩, hcont _ hs (.inl d1), by dsimp only; omega⟩
      obtain ⟨mb, hmem⟩ : ∃ b, decide (a0 ∈ done) = b := ⟨_, rfl⟩
      cases mb with
      | true =>
        refine s_seq ?_
        refine s_seq ?_
        refine s_reg ?_
        refine l_q (by exact y_mv_slice rfl) ?_
        refine l_q (by exact y_len_slice rfl) ?_
        refine l_q (by first | exact y_gtr rfl rfl (decide_eq_true (by omega)) | exact y_gtr rfl rfl (decide_eq_false (by omega)) | exact y_gtr rfl rfl rfl) ?_
        refine l_q (by exact y_mv_bool rfl) ?_
        first | refine l_gskip rfl rfl ?_ | refine l_gskip_u rfl rfl ?_ | refine l_gdo rfl rfl (by exact y_mv_slice rfl) ?_
        first | refine l_gskip rfl rfl ?_ | refine l_gskip_u rfl rfl ?_ | refine l_gdo rfl rfl (by exact y_len_slice rfl) ?_
        first | refine l_gskip rfl rfl ?_ | refine l_gskip_u rfl rfl ?_ | refine l_gdo rfl rfl (by first | exact y_lss rfl rfl (decide_eq_true (by omega)) | exact y_lss rfl rfl (decide_eq_false (by omega)) | exact y_lss rfl rfl rfl) ?_
        refine l_q (by first | exact y_pk_bt rfl rfl | exact y_pk_bf rfl rfl) ?_
        refine l_end ?_
        refine e_then ?_
        refine cond_t rfl ?_
        refine s_skip ?_
        refine e_then ?_
        refine s_block ?_
        refine s_seq ?_
        refine s_reg ?_
        refine l_q (by exact y_mv_slice rfl) ?_
        refine l_q (by exact y_indexT (off := ot.pre.length) rfl rfl (by omega) (by omega) hadt (by omega)) ?_
        refine l_q (by exact y_ld (v := I64 (a0 : Nat)) hs rfl hct) ?_
        refine l_q (by exact y_as_int rfl) ?_
        refine l_end ?_
        refine e_then ?_
        refine s_seq ?_
        refine s_reg ?_
        refine l_q (by exact y_mv_slice rfl) ?_
        refine l_q (by exact y_sliceT (s := ot) (m := op.length) (x0 := I64 (a0 : Nat)) rfl rfl ⟨gt, hgt⟩) ?_
        refine l_q (by exact y_as_slice rfl) ?_
        refine l_end ?_
        refine e_then ?_
        refine s_seq ?_
        refine s_seq ?_
        refine s_reg ?_
        refine l_q (by exact y_mv_int rfl) ?_
        refine l_q (by first | exact y_lss rfl rfl (decide_eq_true (by omega)) | exact y_lss rfl rfl (decide_eq_false (by omega)) | exact y_lss rfl rfl rfl) ?_
        refine l_q (by exact y_mv_bool rfl) ?_
        first | refine l_gskip rfl rfl ?_ | refine l_gskip_u rfl rfl ?_ | refine l_gdo rfl rfl (by exact y_mv_slice rfl) ?_
        first | refine l_gskip rfl rfl ?_ | refine l_gskip_u rfl rfl ?_ | refine l_gdo rfl rfl (by exact y_mv_int rfl) ?_
        first | refine l_gskip rfl rfl ?_ | refine l_gskip_u rfl rfl ?_ | (refine l_gw rfl rfl (w_call rfl (contains_v RI.okd hmem (by omega) (fun g hg => ⟨by simp [OS.blk, hg]⟩) hs) rfl (fun _ w h => ?_)); obtain ⟨rfl, hs⟩ := h)
        refine l_q (by first | exact y_pk_bt rfl rfl | exact y_pk_bf rfl rfl) ?_
        refine l_end ?_
        refine e_then ?_
        refine cond_t rfl ?_
        refine s_exit ?_
        refine e_then_x ?_
        refine e_blk_x ?_
        refine e_then ?_
        exact ⟨(ot.tl (I64 (a0 : Nat)), dn, sn, op, done), _, nx ⟨rfl, rfl, rfl, rfl, rfl, rfl, trivial⟩, hcont _ hs (.inr (of_decide_eq_true hmem)), by dsimp only; omega⟩
      | false =>
        clear hcont
        have hnm := of_decide_eq_false hmem
        have hla := I.lo a0 ha0
        have hha := I.hi a0 ha0
        have ho := I.ord a0 (by omega) ha0
        have hred := I.red a0 (by omega) ha0
        refine s_seq ?_
        refine s_seq ?_
        refine s_reg ?_
        refine l_q (by exact y_mv_slice rfl) ?_
        refine l_q (by exact y_len_slice rfl) ?_
        refine l_q (by first | exact y_gtr rfl rfl (decide_eq_true (by omega)) | exact y_gtr rfl rfl (decide_eq_false (by omega)) | exact y_gtr rfl rfl rfl) ?_
        refine l_q (by exact y_mv_bool rfl) ?_
        first | refine l_gskip rfl rfl ?_ | refine l_gskip_u rfl rfl ?_ | refine l_gdo rfl rfl (by exact y_mv_slice rfl) ?_
        first | refine l_gskip rfl rfl ?_ | refine l_gskip_u rfl rfl ?_ | refine l_gdo rfl rfl (by exact y_len_slice rfl) ?_
        first | refine l_gskip rfl rfl ?_ | refine l_gskip_u rfl rfl ?_ | refine l_gdo rfl rfl (by first | exact y_lss rfl rfl (decide_eq_true (by omega)) | exact y_lss rfl rfl (decide_eq_false (by omega)) | exact y_lss rfl rfl rfl) ?_
        refine l_q (by first | exact y_pk_bt rfl rfl | exact y_pk_bf rfl rfl) ?_
        refine l_end ?_
        refine e_then ?_
        refine cond_t rfl ?_
        refine s_skip ?_
        refine e_then ?_
        refine s_block ?_
        refine s_seq ?_
        refine s_reg ?_
        refine l_q (by exact y_mv_slice rfl) ?_
        refine l_q (by exact y_indexT (off := ot.pre.length) rfl rfl (by omega) (by omega) hadt (by omega)) ?_
        refine l_q (by exact y_ld (v := I64 (a0 : Nat)) hs rfl hct) ?_
        refine l_q (by exact y_as_int rfl) ?_
        refine l_end ?_
        refine e_then ?_
        refine s_seq ?_
        refine s_reg ?_
        refine l_q (by exact y_mv_slice rfl) ?_
        refine l_q (by exact y_sliceT (s := ot) (m := op.length) (x0 := I64 (a0 : Nat)) rfl rfl ⟨gt, hgt⟩) ?_
        refine l_q (by exact y_as_slice rfl) ?_
        refine l_end ?_
        refine e_then ?_
        refine s_seq ?_
        refine s_seq ?_
        refine s_reg ?_
        refine l_q (by exact y_mv_int rfl) ?_
        refine l_q (by first | exact y_lss rfl rfl (decide_eq_true (by omega)) | exact y_lss rfl rfl (decide_eq_false (by omega)) | exact y_lss rfl rfl rfl) ?_
        refine l_q (by exact y_mv_bool rfl) ?_
        first | refine l_gskip rfl rfl ?_ | refine l_gskip_u rfl rfl ?_ | refine l_gdo rfl rfl (by exact y_mv_slice rfl) ?_
        first | refine l_gskip rfl rfl ?_ | refine l_gskip_u rfl rfl ?_ | refine l_gdo rfl rfl (by exact y_mv_int rfl) ?_
        first | refine l_gskip rfl rfl ?_ | refine l_gskip_u rfl rfl ?_ | (refine l_gw rfl rfl (w_call rfl (contains_v RI.okd hmem (by omega) (fun g hg => ⟨by simp [OS.blk, hg]⟩) hs) rfl (fun _ w h => ?_)); obtain ⟨rfl, hs⟩ := h)
        refine l_q (by first | exact y_pk_bt rfl rfl | exact y_pk_bf rfl rfl) ?_
        refine l_end ?_
        refine e_then ?_
        refine cond_f rfl ?_
        refine s_skip ?_
        refine e_then ?_
        refine s_seq ?_
        refine s_reg ?_
        refine l_q (by exact y_mv_slice rfl) ?_
        refine l_q (by exact y_mv_int rfl) ?_
        refine l_w (w_buildSlice (pv := [(0, .int .i64 _)]) (vs := [_]) hs rfl rfl rfl rfl (fun b74 w hs hb74 => ?_))
        refine l_w (w_append (ys := [_]) [(b74, _)] hs RI.okd rfl rfl rfl rfl rfl rfl (.inl (by decide)) (by decide) (by omega) (fun dn' w okd' hgd' hs => ?_))
        replace hs := stB_rotN hs.tail
        refine l_q (by exact y_as_slice rfl) ?_
        refine l_end ?_
        refine e_then ?_
        refine s_seq ?_
        refine s_reg ?_
        refine l_q (by exact y_mv_ptr rfl) ?_
        refine l_q (by exact y_mv_int rfl) ?_
        refine l_w (w_call rfl (nodeGet_c I ha0 hn ⟨os, hos, hs⟩) rfl (fun _ w h => ?_))
        obtain ⟨rfl, hd⟩ := h; obtain ⟨os, hos, hs⟩ := hd.ex
        refine l_q (by exact y_mv_tuple rfl) ?_
        refine l_q (by exact y_extract rfl rfl) ?_
        refine l_q (by exact y_extract rfl rfl) ?_
        refine l_w (w_alloc (cs := [_, _, _]) hs rfl (fun b16 w hs hb16 => ?_))
        refine l_w (w_storeA (vs := [I64 (s.nd a0).1, I64 (s.nd a0).2.1, I64 (s.nd a0).2.2]) hs rfl rfl rfl rfl rfl (fun w hs => ?_))
        replace hs := stB_rotN (Q := [(b16, .cells [I64 (s.nd a0).1, I64 (s.nd a0).2.1, I64 (s.nd a0).2.2] 39)]) hs
        refine l_q (by exact y_as_int rfl) ?_
        refine l_end ?_
        refine e_then ?_
        refine s_seq ?_
        refine s_reg ?_
        refine l_q (by exact y_mv_ptr rfl) ?_
        refine l_q (by exact y_field rfl) ?_
        refine l_q (by exact y_ld hs rfl rfl) ?_
        refine l_w (w_call rfl (nodeGet_c I hla hn ⟨os, hos, hs⟩) rfl (fun _ w h => ?_))
        obtain ⟨rfl, hd⟩ := h; obtain ⟨os, hos, hs⟩ := hd.ex
        refine l_q (by exact y_mv_tuple rfl) ?_
        refine l_q (by exact y_extract rfl rfl) ?_
        refine l_q (by exact y_extract rfl rfl) ?_
        refine l_w (w_alloc (cs := [_, _, _]) hs rfl (fun b18 w hs hb18 => ?_))
        refine l_w (w_storeA (vs := [I64 (s.nd (s.nd a0).2.1).1, _, _]) hs rfl rfl rfl rfl rfl (fun w hs => ?_))
        replace hs := stB_rotN (Q := [(b18, .cells [I64 (s.nd (s.nd a0).2.1).1, I64 (s.nd (s.nd a0).2.1).2.1, I64 (s.nd (s.nd a0).2.1).2.2] 39)]) hs
        refine l_q (by exact y_as_int rfl) ?_
        refine l_end ?_
        refine e_then ?_
        refine s_seq ?_
        refine s_reg ?_
        refine l_q (by exact y_mv_ptr rfl) ?_
        refine l_q (by exact y_field rfl) ?_
        refine l_q (by exact y_ld hs rfl rfl) ?_
        refine l_w (w_call rfl (nodeGet_c I hha hn ⟨os, hos, hs⟩) rfl (fun _ w h => ?_))
        obtain ⟨rfl, hd⟩ := h; obtain ⟨os, hos, hs⟩ := hd.ex
        refine l_q (by exact y_mv_tuple rfl) ?_
        refine l_q (by exact y_extract rfl rfl) ?_
        refine l_q (by exact y_extract rfl rfl) ?_
        refine l_w (w_alloc (cs := [_, _, _]) hs rfl (fun b20 w hs hb20 => ?_))
        refine l_w (w_storeA (vs := [I64 (s.nd (s.nd a0).2.2).1, _, _]) hs rfl rfl rfl rfl rfl (fun w hs => ?_))
        replace hs := stB_rotN (Q := [(b20, .cells [I64 (s.nd (s.nd a0).2.2).1, I64 (s.nd (s.nd a0).2.2).2.1, I64 (s.nd (s.nd a0).2.2).2.2] 39)]) hs
        refine l_q (by exact y_as_int rfl) ?_
        refine l_end ?_
        refine e_then ?_
        refine s_seq ?_
        refine s_seq ?_
        refine s_reg ?_
        refine l_q (by exact y_mv_int rfl) ?_
        refine l_q (by first | exact y_neq rfl rfl (decide_eq_true (by omega)) | exact y_neq rfl rfl (decide_eq_false (by omega)) | exact y_neq rfl rfl rfl) ?_
        refine l_q (by exact y_mv_bool rfl) ?_
        first | refine l_gskip rfl rfl ?_ | refine l_gskip_u rfl rfl ?_ | refine l_gdo rfl rfl (by exact y_mv_int rfl) ?_
        first | refine l_gskip rfl rfl ?_ | refine l_gskip_u rfl rfl ?_ | refine l_gdo rfl rfl (by first | exact y_neq rfl rfl (decide_eq_true (by omega)) | exact y_neq rfl rfl (decide_eq_false (by omega)) | exact y_neq rfl rfl rfl) ?_
        refine l_q (by first | exact y_pk_bt rfl rfl | exact y_pk_bf rfl rfl) ?_
        refine l_q (by exact y_mv_bool rfl) ?_
        first | refine l_gskip rfl rfl ?_ | refine l_gskip_u rfl rfl ?_ | refine l_gdo rfl rfl (by exact y_mv_int rfl) ?_
        first | refine l_gskip rfl rfl ?_ | refine l_gskip_u rfl rfl ?_ | refine l_gdo rfl rfl (by first | exact y_neq rfl rfl (decide_eq_true (by omega)) | exact y_neq rfl rfl (decide_eq_false (by omega)) | exact y_neq rfl rfl rfl) ?_
        refine l_q (by first | exact y_pk_bt rfl rfl | exact y_pk_bf rfl rfl) ?_
        refine l_q (by exact y_mv_bool rfl) ?_
        first | refine l_gskip rfl rfl ?_ | refine l_gskip_u rfl rfl ?_ | refine l_gdo rfl rfl (by exact y_field rfl) ?_
        first | refine l_gskip rfl rfl ?_ | refine l_gskip_u rfl rfl ?_ | refine l_gdo rfl rfl (by exact y_ld hs rfl rfl) ?_
        first | refine l_gskip rfl rfl ?_ | refine l_gskip_u rfl rfl ?_ | refine l_gdo rfl rfl (by exact y_field rfl) ?_
        first | refine l_gskip rfl rfl ?_ | refine l_gskip_u rfl rfl ?_ | refine l_gdo rfl rfl (by exact y_ld hs rfl rfl) ?_
        first | refine l_gskip rfl rfl ?_ | refine l_gskip_u rfl rfl ?_ | refine l_gdo rfl rfl (by first | exact y_eql rfl rfl (decide_eq_true (by omega)) | exact y_eql rfl rfl (decide_eq_false (by omega)) | exact y_eql rfl rfl rfl) ?_
        refine l_q (by first | exact y_pk_bt rfl rfl | exact y_pk_bf rfl rfl) ?_
        refine l_q (by exact y_mv_bool rfl) ?_
        first | refine l_gskip rfl rfl ?_ | refine l_gskip_u rfl rfl ?_ | refine l_gdo rfl rfl (by exact y_field rfl) ?_
        first | refine l_gskip rfl rfl ?_ | refine l_gskip_u rfl rfl ?_ | refine l_gdo rfl rfl (by exact y_ld hs rfl rfl) ?_
        first | refine l_gskip rfl rfl ?_ | refine l_gskip_u rfl rfl ?_ | refine l_gdo rfl rfl (by exact y_field rfl) ?_
        first | refine l_gskip rfl rfl ?_ | refine l_gskip_u rfl rfl ?_ | refine l_gdo rfl rfl (by exact y_ld hs rfl rfl) ?_
        first | refine l_gskip rfl rfl ?_ | refine l_gskip_u rfl rfl ?_ | refine l_gdo rfl rfl (by first | exact y_leq rfl rfl (decide_eq_true (by omega)) | exact y_leq rfl rfl (decide_eq_false (by omega)) | exact y_leq rfl rfl rfl) ?_
        refine l_q (by first | exact y_pk_bt rfl rfl | exact y_pk_bf rfl rfl) ?_
        refine l_q (by exact y_mv_bool rfl) ?_
        first | refine l_gskip rfl rfl ?_ | refine l_gskip_u rfl rfl ?_ | refine l_gdo rfl rfl (by exact y_field rfl) ?_
        first | refine l_gskip rfl rfl ?_ | refine l_gskip_u rfl rfl ?_ | refine l_gdo rfl rfl (by exact y_ld hs rfl rfl) ?_
        first | refine l_gskip rfl rfl ?_ | refine l_gskip_u rfl rfl ?_ | refine l_gdo rfl rfl (by exact y_field rfl) ?_
        first | refine l_gskip rfl rfl ?_ | refine l_gskip_u rfl rfl ?_ | refine l_gdo rfl rfl (by exact y_ld hs rfl rfl) ?_
        first | refine l_gskip rfl rfl ?_ | refine l_gskip_u rfl rfl ?_ | refine l_gdo rfl rfl (by first | exact y_leq rfl rfl (decide_eq_true (by omega)) | exact y_leq rfl rfl (decide_eq_false (by omega)) | exact y_leq rfl rfl rfl) ?_
        refine l_q (by first | exact y_pk_bt rfl rfl | exact y_pk_bf rfl rfl) ?_
        refine l_end ?_
        refine e_then ?_
        refine cond_f rfl ?_
        refine s_skip ?_
        refine e_then ?_
        refine s_seq ?_
        refine s_seq ?_
        refine s_reg ?_
        refine l_q (by exact y_mv_slice rfl) ?_
        refine l_q (by exact y_len_slice rfl) ?_
        refine l_q (by exact y_mv_int rfl) ?_
        refine l_end ?_
        refine e_then ?_
        refine s_block ?_
        refine loop_st (X := Nat) (fun j => [(3, I64 x), (9, M.p), (11, .slice ol.ad l.length ol.cap), (12, .slice (ot.tl (I64 (a0 : Nat))).ad op.length (ot.tl (I64 (a0 : Nat))).cap), (13, .slice sn.ad done.length sn.cap), (14, .slice dn'.ad (done.length + 1) dn'.cap), (16, .pointer (some ⟨b16, 0, none⟩)), (127, .slice sn.ad done.length sn.cap), (128, I64 done.length), (129, I64 j)])
          (fun j w => St W w (stB M s os ((b20, .cells [I64 (s.nd (s.nd a0).2.2).1, I64 (s.nd (s.nd a0).2.2).2.1, I64 (s.nd (s.nd a0).2.2).2.2] 39) :: (b18, .cells [I64 (s.nd (s.nd a0).2.1).1, I64 (s.nd (s.nd a0).2.1).2.1, I64 (s.nd (s.nd a0).2.1).2.2] 39) :: (b16, .cells [I64 (s.nd a0).1, I64 (s.nd a0).2.1, I64 (s.nd a0).2.2] 39) :: (dn'.blk (nV done ++ [I64 (a0 : Nat)]) 3 ++ (sn.blk (flatN (done.map s.nd)) 39 ++ (ot.blk (nV (a0 :: op)) 3 ++ Rl))))) ∧ j ≤ done.length) (fun j => done.length - j) 0 ⟨rfl, rfl, rfl, rfl, rfl, rfl, rfl, rfl, rfl, rfl, trivial⟩ ⟨hs, by omega⟩ ?_
        clear hs
        rintro j ρ w ⟨hs, j1⟩
        by_cases cj : j < done.length
        · have hjl : j < (done.map s.nd).length := by simpa using cj
          obtain ⟨gs, hgs, hads⟩ : ∃ g, sn.a = some g ∧ sn.ad = some ⟨g, 0, none⟩ := by
            cases h : sn.a with
            | none => have := RI.oks.nil_ h; omega
            | some g => exact ⟨g, rfl, by simp [OS.ad, h]⟩
          haveI := inl_blk hgs (flatN (done.map s.nd)) 39
          have hdj : done.getD j 0 ∈ done := mem_getD cj
          have hdg := RI.bfs.ge _ hdj
          have hgd : (done.map s.nd).getD j (0, 0, 0) = s.nd (done.getD j 0) := by simp [cj]
          have hsm : sameInts [I64 ((done.map s.nd).getD j (0, 0, 0)).1, I64 ((done.map s.nd).getD j (0, 0, 0)).2.1, I64 ((done.map s.nd).getD j (0, 0, 0)).2.2] [I64 (s.nd a0).1, I64 (s.nd a0).2.1, I64 (s.nd a0).2.2] = some false :=
            same3 _ _ (by rw [hgd]; exact nd_ne I hdg.1 (by omega) hdg.2 ha0 (fun e => hnm (e ▸ hdj)))
          refine s_seq ?_
          refine s_reg ?_
          refine l_q (by first | exact y_lss rfl rfl (decide_eq_true (by omega)) | exact y_lss rfl rfl (decide_eq_false (by omega)) | exact y_lss rfl rfl rfl) ?_
          refine l_end ?_
          refine e_then ?_
          refine s_seq ?_
          refine cond_t rfl ?_
          refine s_skip ?_
          refine e_then ?_
          refine s_seq ?_
          refine s_block ?_
          refine s_seq ?_
          refine s_reg ?_
          refine l_q (by exact y_indexT (off := 3 * j) rfl rfl (by omega) (by omega) hads (by omega)) ?_
          refine l_q (by exact y_ldA (vs := [I64 ((done.map s.nd).getD j (0, 0, 0)).1, I64 ((done.map s.nd).getD j (0, 0, 0)).2.1, I64 ((done.map s.nd).getD j (0, 0, 0)).2.2]) hs rfl (flatN_room hjl _) (flatN_take hjl _)) ?_
          refine l_w (w_alloc (cs := [_, _, _]) hs rfl (fun b23 w hs hb23 => ?_))
          refine l_w (w_storeA (vs := [_, _, _]) hs rfl rfl rfl rfl rfl (fun w hs => ?_))
          refine l_end ?_
          refine e_then ?_
          refine s_seq ?_
          refine s_reg ?_
          refine l_q (by exact y_ldA (vs := [_, _, _]) hs rfl rfl rfl) ?_
          refine l_q (by exact y_ldA (vs := [_, _, _]) hs rfl rfl rfl) ?_
          refine l_q (by exact y_eqlA (r := false) rfl rfl rfl hsm) ?_
          refine l_end ?_
          refine e_then ?_
          refine cond_f rfl ?_
          refine s_skip ?_
          refine e_blk ?_
          refine e_then ?_
          refine s_reg ?_
          refine l_q (by first | exact y_addn rfl rfl (by omega) | exact y_add rfl rfl rfl) ?_
          refine l_q (by exact y_mv_int rfl) ?_
          refine l_end ?_
          refine e_then ?_
          exact ⟨j + 1, _, nx ⟨rfl, rfl, rfl, rfl, rfl, rfl, rfl, rfl, rfl, rfl, trivial⟩, ⟨hs.tail, by omega⟩, by omega⟩
        · replace hs := stB_outN (stB_perm (perm_3 _ _ _ _ _ _) hs)
          refine s_seq ?_
          refine s_reg ?_
          refine l_q (by first | exact y_lss rfl rfl (decide_eq_true (by omega)) | exact y_lss rfl rfl (decide_eq_false (by omega)) | exact y_lss rfl rfl rfl) ?_
          refine l_end ?_
          refine e_then ?_
          refine s_seq ?_
          refine cond_f rfl ?_
          refine s_exit ?_
          refine e_then_x ?_
          refine e_then_x ?_
          refine e_blk_x ?_
          refine e_then ?_
          refine s_seq ?_
          refine s_reg ?_
          refine l_q (by exact y_mv_slice rfl) ?_
          refine l_q (by exact y_ldA (vs := [_, _, _]) hs rfl rfl rfl) ?_
          refine l_w (w_buildSliceV (pv := [.agg (List.toArray [_, _, _])]) (cs := [_, _, _]) hs rfl rfl rfl rfl rfl rfl (fun b139 w hs hb139 => ?_))
          refine l_w (w_append (ys := [_, _, _]) [(b139, _)] hs RI.oks rfl rfl rfl rfl rfl rfl (.inl (by decide)) (by decide) (by omega) (fun sn' w oks' hgs' hs => ?_))
          replace hs := stB_rotN hs.tail; replace hs := stB_outN (stB_perm (perm_4 _ _ _ _ _ _ _) hs); rw [← htb] at hs
          refine l_q (by exact y_as_slice rfl) ?_
          refine l_end ?_
          refine e_then ?_
          refine s_reg ?_
          refine l_q (by exact y_mv_slice rfl) ?_
          refine l_q (by exact y_field rfl) ?_
          refine l_q (by exact y_ld hs rfl rfl) ?_
          refine l_q (by exact y_field rfl) ?_
          refine l_q (by exact y_ld hs rfl rfl) ?_
          refine l_w (w_buildSlice (pv := [(0, .int .i64 _), (1, .int .i64 _)]) (vs := [_, _]) hs rfl rfl rfl rfl (fun b146 w hs hb146 => ?_))
          refine l_w (w_appendT (ys := [_, _]) [(b146, _)] hs hokt2 rfl rfl rfl rfl rfl rfl (.inl (by decide)) (by decide) (by omega) (fun ot' w okt' hgt' hs => ?_))
          replace hs := stB_rotN hs.tail; replace hs := stB_perm (perm_acb _ _ _ _) (stB_dropN (.append_left (.append_left (.cons _ (.cons _ (.cons _ (List.Sublist.refl _)))) _) _) hs)
          refine l_q (by exact y_as_slice rfl) ?_
          refine l_end ?_
          refine e_blk ?_
          refine e_then ?_
          have e1 : nV (done ++ [a0]) = nV done ++ [I64 (a0 : Nat)] := nV_app done a0
          have e2 : flatN ((done ++ [a0]).map s.nd) = flatN (done.map s.nd) ++ [I64 (s.nd a0).1, I64 (s.nd a0).2.1, I64 (s.nd a0).2.2] := by simp [flatN]
          have e3 : nV (op ++ [(s.nd a0).2.1, (s.nd a0).2.2]) = nV op ++ [I64 ((s.nd a0).2.1 : Nat), I64 ((s.nd a0).2.2 : Nat)] := by simp [nV, nI]
          have e4 : (done ++ [a0]).length = done.length + 1 := by simp
          have e5 : (op ++ [(s.nd a0).2.1, (s.nd a0).2.2]).length = op.length + 2 := by simp
          refine ⟨(ot', dn', sn', op ++ [(s.nd a0).2.1, (s.nd a0).2.2], done ++ [a0]), _, nx ⟨rfl, rfl, rfl, by dsimp only; rw [e5]; rfl, by dsimp only; rw [e4]; rfl, by dsimp only; rw [e4]; rfl, trivial⟩, ⟨?_, ⟨RI.bfs.step I.toWf0 (by omega) hnm, by rw [e3, e5]; exact okt', by rw [e1, e4]; exact okd', by rw [e2, e4]; exact oks', by rw [e4]; omega, by rw [e4, e5]; omega⟩⟩, by dsimp only; rw [e4, e5]; omega⟩
          dsimp only
          rw [e1, e2, e3]
          exact ⟨os, hos, hs⟩
    · have hz : done.length = 200 := by omega
      obtain ⟨sz, hszz⟩ : ∃ z, (dfsF s (s.vars + 1) [] a).length = z := ⟨_, rfl⟩
      subst hRl
      by_cases c3 : sz = done.length
      · refine s_seq ?_
        refine s_seq ?_
        refine s_reg ?_
        refine l_q (by exact y_mv_slice rfl) ?_
        refine l_q (by exact y_len_slice rfl) ?_
        refine l_q (by first | exact y_gtr rfl rfl (decide_eq_true (by omega)) | exact y_gtr rfl rfl (decide_eq_false (by omega)) | exact y_gtr rfl rfl rfl) ?_
        refine l_q (by exact y_mv_bool rfl) ?_
        first | refine l_gskip rfl rfl ?_ | refine l_gskip_u rfl rfl ?_ | refine l_gdo rfl rfl (by exact y_mv_slice rfl) ?_
        first | refine l_gskip rfl rfl ?_ | refine l_gskip_u rfl rfl ?_ | refine l_gdo rfl rfl (by exact y_len_slice rfl) ?_
        first | refine l_gskip rfl rfl ?_ | refine l_gskip_u rfl rfl ?_ | refine l_gdo rfl rfl (by first | exact y_lss rfl rfl (decide_eq_true (by omega)) | exact y_lss rfl rfl (decide_eq_false (by omega)) | exact y_lss rfl rfl rfl) ?_
        refine l_q (by first | exact y_pk_bt rfl rfl | exact y_pk_bf rfl rfl) ?_
        refine l_end ?_
        refine e_then ?_
        refine cond_f rfl ?_
        refine s_exit ?_
        refine e_then_x ?_
        refine e_then_x ?_
        refine e_blk_x ?_
        refine e_then ?_
        refine s_seq ?_
        refine s_reg ?_
        refine l_q (by exact y_mv_ptr rfl) ?_
        refine l_q (by exact y_mv_slice rfl) ?_
        refine l_q (by exact y_mv_int rfl) ?_
        refine l_q (by exact y_mv_slice rfl) ?_
        refine l_q (by exact y_len_slice rfl) ?_
        refine l_w (w_call rfl (rest_e hrx _ (by omega) (by omega)) rfl (fun _ w h => ?_))
        obtain ⟨rfl, rfl⟩ := h
        refine l_q (by exact y_indexT (off := ix) rfl rfl (by omega) (by omega) had (by omega)) ?_
        refine l_q (by exact y_ld (v := I64 (a : Nat)) hs rfl hca) ?_
        refine l_w (w_call rfl (size_c I hlt hn ⟨os, hos, hs⟩) rfl (fun _ w h => ?_))
        obtain ⟨rfl, hd⟩ := h
        refine l_q (by exact y_mv_tuple rfl) ?_
        refine l_q (by exact y_extract rfl rfl) ?_
        refine l_q (by exact y_extract rfl rfl) ?_
        refine l_q (by exact y_as_int rfl) ?_
        refine l_q (by exact y_as_int rfl) ?_
        refine l_end ?_
        refine e_then ?_
        refine s_seq ?_
        refine s_reg ?_
        refine l_q (by exact y_mv_int rfl) ?_
        refine l_q (by first | exact y_eql rfl rfl (decide_eq_true (by omega)) | exact y_eql rfl rfl (decide_eq_false (by omega)) | exact y_eql rfl rfl rfl) ?_
        refine l_q (by exact y_mv_bool rfl) ?_
        first | refine l_gskip rfl rfl ?_ | refine l_gskip_u rfl rfl ?_ | refine l_gdo rfl rfl (by exact y_mv_int rfl) ?_
        first | refine l_gskip rfl rfl ?_ | refine l_gskip_u rfl rfl ?_ | refine l_gdo rfl rfl (by exact y_mv_slice rfl) ?_
        first | refine l_gskip rfl rfl ?_ | refine l_gskip_u rfl rfl ?_ | refine l_gdo rfl rfl (by exact y_len_slice rfl) ?_
        first | refine l_gskip rfl rfl ?_ | refine l_gskip_u rfl rfl ?_ | refine l_gdo rfl rfl (by first | exact y_eql rfl rfl (decide_eq_true (by omega)) | exact y_eql rfl rfl (decide_eq_false (by omega)) | exact y_eql rfl rfl rfl) ?_
        first | refine l_gskip rfl rfl ?_ | refine l_gskip_u rfl rfl ?_ | refine l_gdo rfl rfl (by exact y_mv_bool rfl) ?_
        first | refine l_gskip rfl rfl ?_ | refine l_gskip_u rfl rfl ?_ | refine l_gdo rfl rfl (by exact y_mv_slice rfl) ?_
        first | refine l_gskip rfl rfl ?_ | refine l_gskip_u rfl rfl ?_ | refine l_gdo rfl rfl (by exact y_len_slice rfl) ?_
        first | refine l_gskip rfl rfl ?_ | refine l_gskip_u rfl rfl ?_ | refine l_gdo rfl rfl (by first | exact y_eql rfl rfl (decide_eq_true (by omega)) | exact y_eql rfl rfl (decide_eq_false (by omega)) | exact y_eql rfl rfl rfl) ?_
        first | refine l_gskip rfl rfl ?_ | refine l_gskip_u rfl rfl ?_ | refine l_gdo rfl rfl (by first | exact y_pk_bt rfl rfl | exact y_pk_bf rfl rfl) ?_
        refine l_q (by first | exact y_pk_bt rfl rfl | exact y_pk_bf rfl rfl) ?_
        refine l_q (by exact y_as_bool rfl) ?_
        refine l_end ?_
        refine e_then ?_
        refine s_ret ?_
        exact ret_ [.bool _] rfl ⟨rfl, trivial⟩ ⟨rfl, hd.rest.nil⟩
      · refine s_seq ?_
        refine s_seq ?_
        refine s_reg ?_
        refine l_q (by exact y_mv_slice rfl) ?_
        refine l_q (by exact y_len_slice rfl) ?_
        refine l_q (by first | exact y_gtr rfl rfl (decide_eq_true (by omega)) | exact y_gtr rfl rfl (decide_eq_false (by omega)) | exact y_gtr rfl rfl rfl) ?_
        refine l_q (by exact y_mv_bool rfl) ?_
        first | refine l_gskip rfl rfl ?_ | refine l_gskip_u rfl rfl ?_ | refine l_gdo rfl rfl (by exact y_mv_slice rfl) ?_
        first | refine l_gskip rfl rfl ?_ | refine l_gskip_u rfl rfl ?_ | refine l_gdo rfl rfl (by exact y_len_slice rfl) ?_
        first | refine l_gskip rfl rfl ?_ | refine l_gskip_u rfl rfl ?_ | refine l_gdo rfl rfl (by first | exact y_lss rfl rfl (decide_eq_true (by omega)) | exact y_lss rfl rfl (decide_eq_false (by omega)) | exact y_lss rfl rfl rfl) ?_
        refine l_q (by first | exact y_pk_bt rfl rfl | exact y_pk_bf rfl rfl) ?_
        refine l_end ?_
        refine e_then ?_
        refine cond_f rfl ?_
        refine s_exit ?_
        refine e_then_x ?_
        refine e_then_x ?_
        refine e_blk_x ?_
        refine e_then ?_
        refine s_seq ?_
        refine s_reg ?_
        refine l_q (by exact y_mv_ptr rfl) ?_
        refine l_q (by exact y_mv_slice rfl) ?_
        refine l_q (by exact y_mv_int rfl) ?_
        refine l_q (by exact y_mv_slice rfl) ?_
        refine l_q (by exact y_len_slice rfl) ?_
        refine l_w (w_call rfl (rest_e hrx _ (by omega) (by omega)) rfl (fun _ w h => ?_))
        obtain ⟨rfl, rfl⟩ := h
        refine l_q (by exact y_indexT (off := ix) rfl rfl (by omega) (by omega) had (by omega)) ?_
        refine l_q (by exact y_ld (v := I64 (a : Nat)) hs rfl hca) ?_
        refine l_w (w_call rfl (size_c I hlt hn ⟨os, hos, hs⟩) rfl (fun _ w h => ?_))
        obtain ⟨rfl, hd⟩ := h
        refine l_q (by exact y_mv_tuple rfl) ?_
        refine l_q (by exact y_extract rfl rfl) ?_
        refine l_q (by exact y_extract rfl rfl) ?_
        refine l_q (by exact y_as_int rfl) ?_
        refine l_q (by exact y_as_int rfl) ?_
        refine l_end ?_
        refine e_then ?_
        refine s_seq ?_
        refine s_reg ?_
        refine l_q (by exact y_mv_int rfl) ?_
        refine l_q (by first | exact y_eql rfl rfl (decide_eq_true (by omega)) | exact y_eql rfl rfl (decide_eq_false (by omega)) | exact y_eql rfl rfl rfl) ?_
        refine l_q (by exact y_mv_bool rfl) ?_
        first | refine l_gskip rfl rfl ?_ | refine l_gskip_u rfl rfl ?_ | refine l_gdo rfl rfl (by exact y_mv_int rfl) ?_
        first | refine l_gskip rfl rfl ?_ | refine l_gskip_u rfl rfl ?_ | refine l_gdo rfl rfl (by exact y_mv_slice rfl) ?_
        first | refine l_gskip rfl rfl ?_ | refine l_gskip_u rfl rfl ?_ | refine l_gdo rfl rfl (by exact y_len_slice rfl) ?_
        first | refine l_gskip rfl rfl ?_ | refine l_gskip_u rfl rfl ?_ | refine l_gdo rfl rfl (by first | exact y_eql rfl rfl (decide_eq_true (by omega)) | exact y_eql rfl rfl (decide_eq_false (by omega)) | exact y_eql rfl rfl rfl) ?_
        first | refine l_gskip rfl rfl ?_ | refine l_gskip_u rfl rfl ?_ | refine l_gdo rfl rfl (by exact y_mv_bool rfl) ?_
        first | refine l_gskip rfl rfl ?_ | refine l_gskip_u rfl rfl ?_ | refine l_gdo rfl rfl (by exact y_mv_slice rfl) ?_
        first | refine l_gskip rfl rfl ?_ | refine l_gskip_u rfl rfl ?_ | refine l_gdo rfl rfl (by exact y_len_slice rfl) ?_
        first | refine l_gskip rfl rfl ?_ | refine l_gskip_u rfl rfl ?_ | refine l_gdo rfl rfl (by first | exact y_eql rfl rfl (decide_eq_true (by omega)) | exact y_eql rfl rfl (decide_eq_false (by omega)) | exact y_eql rfl rfl rfl) ?_
        first | refine l_gskip rfl rfl ?_ | refine l_gskip_u rfl rfl ?_ | refine l_gdo rfl rfl (by first | exact y_pk_bt rfl rfl | exact y_pk_bf rfl rfl) ?_
        refine l_q (by first | exact y_pk_bt rfl rfl | exact y_pk_bf rfl rfl) ?_
        refine l_q (by exact y_as_bool rfl) ?_
        refine l_end ?_
        refine e_then ?_
        refine s_ret ?_
        exact ret_ [.bool _] rfl ⟨rfl, trivial⟩ ⟨rfl, hd.rest.nil⟩
end Go.Proofs.Ytfjniocobcoepaa
