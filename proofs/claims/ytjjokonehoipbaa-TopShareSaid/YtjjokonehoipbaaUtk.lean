/- Facts on the functions and types of this seat that its laws are proved from: contracts under the premises that each theorem names. -/
import Derived.Test.YtjjokonehoipbaaUtj
set_option linter.unusedSimpArgs false
set_option linter.unusedVariables false
set_option linter.unnecessarySimpa false
namespace Go.Proofs.Ytjjokonehoipbaa
open Go Go.RowKit PB
set_option linter.unusedVariables false

abbrev nI (acc : List Nat) : List Int := acc.map fun (k : Nat) => (k : Int)
theorem own_now {s : OS} {acc : List Nat} (hok : s.ok ((nI acc).map I64) acc.length 1) {j : Nat} (hj : j < acc.length) :
    ∃ g, s.a = some g ∧ s.ad = some ⟨g, 0, none⟩ ∧ ((nI acc).map I64 ++ s.sp)[j]? = some (I64 ((acc.getD j 0 : Nat) : Int)) := by
  obtain ⟨g, h1, h2, h3⟩ := own_int hok hj
  refine ⟨g, h1, h2, ?_⟩
  have e : 0 + (j : Int).toNat * 1 = j := by omega
  rw [e] at h3
  rw [h3]
  simp [nI, hj]
theorem now_len (l : List Stn) : ∀ k, (nowF l k).length ≤ k
  | 0 => Nat.le_refl _
  | k + 1 => by
    have := now_len l k
    simp only [nowF]
    unfold nowStep
    split
    · omega
    · by_cases c : nowF l k ≠ [] ∧ (gS l k).next < (gS l ((nowF l k).getD 0 0)).next
      · simp only [if_pos c, true_or, if_true, List.nil_append, List.length_singleton]; omega
      · simp only [if_neg c]
        split
        · simp; exact this
        · omega
theorem flatS_room {l : List Stn} {i : Nat} (h : i < l.length) (k : Nat) (hk : k ≤ 3) : Nat.ble (3 * i + k) (flatS l).length = true := by
  rw [Nat.ble_eq, flatS_len]; omega




theorem retry_len (len : Nat) (z : List Int) (slot : Int) (c : CS) (i : Nat) : (retryC len z slot c i).l.length = c.l.length := by unfold retryC; split <;> simp
theorem retry_ne {len : Nat} {z : List Int} {slot : Int} {c : CS} {i j : Nat} (hi : i < c.l.length) (h : j ≠ i) : gS (retryC len z slot c i).l j = gS c.l j := by
  unfold retryC
  split <;> (dsimp only; rw [gS_set hi, if_neg h])
theorem fold_keep {len : Nat} {z : List Int} {slot : Int} : ∀ (now : List Nat) (c : CS) (i : Nat), i ∉ now → (∀ j ∈ now, j < c.l.length) → gS (now.foldl (retryC len z slot) c).l i = gS c.l i
  | [], _, _, _, _ => rfl
  | j :: now, c, i, h, hl => by
    rw [List.foldl_cons, fold_keep now _ i (fun hm => h (List.mem_cons_of_mem _ hm)) (fun k hk => by rw [retry_len]; exact hl k (List.mem_cons_of_mem _ hk))]
    exact retry_ne (hl j (List.mem_cons_self ..)) (fun e => h (e ▸ List.mem_cons_self ..))
theorem mem_getDn {l : List Nat} {i : Nat} (h : i < l.length) : l.getD i 0 ∈ l := by simp [h]
theorem take_getD {l : List Nat} {i : Nat} (h : i < l.length) : l.take (i + 1) = l.take i ++ [l.getD i 0] := by
  rw [List.take_add_one]; simp [h]
theorem not_take {l : List Nat} (hd : l.Nodup) {i : Nat} (h : i < l.length) : l.getD i 0 ∉ l.take i := by
  intro hm
  have e := take_getD h
  have : (l.take (i + 1)).Nodup := hd.sublist (List.take_sublist _ _)
  rw [e, List.nodup_append] at this
  exact this.2.2 _ hm _ (by simp) rfl
def outC (l : List Stn) (n i : Nat) : List Value := (((l.take i).map Stn.sent).map I64) ++ List.replicate (n - i) (I64 0)
theorem out_len {l : List Stn} {n i : Nat} (hl : l.length = n) (h : i ≤ n) : (outC l n i).length = n := by unfold outC; simp; omega
theorem out_zero (l : List Stn) (n : Nat) : zerosL (I64 0) (n * 1) = outC l n 0 := by rw [Nat.mul_one, zerosL_one rfl]; simp [outC]
theorem out_set {l : List Stn} {n i : Nat} (hl : l.length = n) (h : i < n) : (outC l n i).set i (I64 (gS l i).sent) = outC l n (i + 1) := by
  unfold outC
  have h2 : i < l.length := by omega
  have e : l.take (i + 1) = l.take i ++ [gS l i] := by rw [List.take_add_one]; simp [h2, gS]
  rw [show n - i = (n - (i + 1)) + 1 by omega, List.replicate_succ, List.set_append_right _ _ (by simp; omega), e]
  have : i - min i l.length = 0 := by omega
  simp only [List.map_append, List.length_map, List.length_take, this, List.set_cons_zero, List.append_assoc, List.map_cons, List.map_nil, List.cons_append, List.nil_append]
theorem out_full {l : List Stn} {n : Nat} (hl : l.length = n) : outC l n n = (l.map Stn.sent).map I64 := by unfold outC; rw [List.take_of_length_le (by omega)]; simp


theorem contend_c {W0 w : World} {L : List (Nat × MObj)} {n : Nat} (hn : n ≤ 8) {a : Option Addr} {len cap : Nat} {z : List Int} (hr : Rd W0 L a len z) (hlen : len ≤ 256) {K : Nat} {lf : List Stn} (hK : contF len z K (contInit n) = some lf) (hs : St W0 w L) :
    FnC Try.prog 4 [I64 n, .slice a len cap] w (fun v w' => ∃ b, v = .tuple #[.slice (some ⟨b, 0, none⟩) n n, I64 0] ∧ St W0 w' ((b, .cells ((lf.map Stn.sent).map I64) 3) :: L)) := by
  refine FnC.enter Try.func4 rfl Try.ntmps4 rfl fun ρ => ?_
  refine s_seq ?_
  refine s_reg ?_
  refine l_q (by exact y_as_slice rfl) ?_
  refine l_q (by exact y_as_int rfl) ?_
  refine l_end ?_
  refine e_then ?_
  refine s_seq ?_
  refine s_seq ?_
  refine s_reg ?_
  refine l_q (by exact y_mv_int rfl) ?_
  refine l_q (by first | exact y_lss rfl rfl (decide_eq_true (by omega)) | exact y_lss rfl rfl (decide_eq_false (by omega)) | exact y_lss rfl rfl rfl) ?_
  refine l_q (by exact y_mv_bool rfl) ?_
  first | refine l_gskip rfl rfl ?_ | refine l_gskip_u rfl rfl ?_ | refine l_gdo rfl rfl (by exact y_mv_int rfl) ?_
  first | refine l_gskip rfl rfl ?_ | refine l_gskip_u rfl rfl ?_ | refine l_gdo rfl rfl (by first | exact y_gtr rfl rfl (decide_eq_true (by omega)) | exact y_gtr rfl rfl (decide_eq_false (by omega)) | exact y_gtr rfl rfl rfl) ?_
  refine l_q (by first | exact y_pk_bt rfl rfl | exact y_pk_bf rfl rfl) ?_
  refine l_end ?_
  refine e_then ?_
  refine cond_f rfl ?_
  refine s_skip ?_
  refine e_then ?_
  refine s_seq ?_
  refine s_seq ?_
  refine s_reg ?_
  refine l_q (by exact y_mv_slice rfl) ?_
  refine l_q (by exact y_len_slice rfl) ?_
  refine l_q (by first | exact y_gtr rfl rfl (decide_eq_true (by omega)) | exact y_gtr rfl rfl (decide_eq_false (by omega)) | exact y_gtr rfl rfl rfl) ?_
  refine l_end ?_
  refine e_then ?_
  refine cond_f rfl ?_
  refine s_skip ?_
  refine e_then ?_
  refine s_seq ?_
  refine s_reg ?_
  refine l_q (by exact y_mv_int rfl) ?_
  refine l_w (w_makeSlice (m := n) hs rfl rfl (by omega) (by omega) (fun b32 w hs hb32 => ?_))
  refine l_q (by exact y_as_slice rfl) ?_
  refine l_end ?_
  refine e_then ?_
  refine s_seq ?_
  refine s_reg ?_
  refine l_q (by exact y_as_int rfl) ?_
  refine l_end ?_
  refine e_then ?_
  refine s_seq ?_
  refine s_seq ?_
  refine s_reg ?_
  refine l_q (by exact y_mv_int rfl) ?_
  refine l_q (by exact y_as_int rfl) ?_
  refine l_end ?_
  refine e_then ?_
  refine s_block ?_
  rw [flatS_init] at hs
  refine loop_st (X := Nat × CS) (fun y => [(0, I64 n), (1, .slice a len cap), (6, .slice (some ⟨b32, 0, none⟩) n n), (7, I64 y.2.used), (8, I64 y.2.left)])
    (fun y w => St W0 w ((b32, .cells (flatS y.2.l) 39) :: L) ∧ WFc n y.2 ∧ contF len z y.1 y.2 = some lf) (fun y => y.1) (K, contInit n) ⟨rfl, rfl, rfl, rfl, rfl, trivial⟩ ⟨hs, wf_init n, hK⟩ ?_
  clear hs
  rintro ⟨k, c⟩ ρ w ⟨hs, hwf, hk⟩
  dsimp only at *
  have hcl := hwf.len
  cases k with
  | zero => cases hk
  | succ k =>
  by_cases hl0 : c.left = 0
  · simp only [contF, if_pos hl0, Option.some.injEq] at hk
    subst hk
    refine s_seq ?_
    refine s_seq ?_
    refine s_reg ?_
    refine l_q (by exact y_mv_int rfl) ?_
    refine l_q (by first | exact y_gtr rfl rfl (decide_eq_true (by omega)) | exact y_gtr rfl rfl (decide_eq_false (by omega)) | exact y_gtr rfl rfl rfl) ?_
    refine l_end ?_
    refine e_then ?_
    refine cond_f rfl ?_
    refine s_exit ?_
    refine e_then_x ?_
    refine e_then_x ?_
    refine e_blk_x ?_
    refine e_then ?_
    refine s_seq ?_
    refine s_reg ?_
    refine l_q (by exact y_mv_int rfl) ?_
    refine l_w (w_makeSlice (m := n) hs rfl rfl (by omega) (by omega) (fun b165 w hs hb165 => ?_))
    refine l_q (by exact y_as_slice rfl) ?_
    refine l_end ?_
    refine e_then ?_
    refine s_seq ?_
    refine s_seq ?_
    refine s_reg ?_
    refine l_q (by exact y_mv_slice rfl) ?_
    refine l_q (by exact y_len_slice rfl) ?_
    refine l_q (by exact y_mv_int rfl) ?_
    refine l_end ?_
    refine e_then ?_
    refine s_block ?_
    rw [out_zero c.l] at hs
    refine loop_st (X := Nat) (fun i => [(19, .slice (some ⟨b165, 0, none⟩) n n), (166, .slice (some ⟨b32, 0, none⟩) n n), (167, I64 n), (168, I64 i)])
      (fun i w => St W0 w ((b165, .cells (outC c.l n i) 3) :: (b32, .cells (flatS c.l) 39) :: L) ∧ i ≤ n) (fun i => n - i) 0 ⟨rfl, rfl, rfl, rfl, trivial⟩ ⟨hs, by omega⟩ ?_
    clear hs
    rintro i ρ w ⟨hs, i1⟩
    by_cases c1 : i < n
    · have hil : i < c.l.length := by omega
      refine s_seq ?_
      refine s_reg ?_
      refine l_q (by first | exact y_lss rfl rfl (decide_eq_true (by omega)) | exact y_lss rfl rfl (decide_eq_false (by omega)) | exact y_lss rfl rfl rfl) ?_
      refine l_end ?_
      refine e_then ?_
      refine s_seq ?_
      refine cond_t rfl ?_
      refine s_skip ?_
      refine e_then ?_
      refine s_seq ?_
      refine s_block ?_
      refine s_seq ?_
      refine s_reg ?_
      refine l_q (by exact y_mv_int rfl) ?_
      refine l_q (by exact y_indexT (off := 3 * i) rfl rfl (by omega) (by omega) rfl (by omega)) ?_
      refine l_q (by exact y_ldA (vs := [I64 (gS c.l i).next, I64 (gS c.l i).tries, I64 (gS c.l i).sent]) hs rfl (flatS_room hil 3 (by omega)) (flatS_take hil)) ?_
      refine l_w (w_alloc (cs := [_, _, _]) hs rfl (fun b21 w hs hb21 => ?_))
      refine l_q (by exact y_as_int rfl) ?_
      refine l_w (w_storeA (vs := [_, _, _]) hs rfl rfl rfl rfl rfl (fun w hs => ?_))
      refine l_end ?_
      refine e_then ?_
      refine s_reg ?_
      refine l_q (by exact y_mv_slice rfl) ?_
      refine l_q (by exact y_mv_int rfl) ?_
      refine l_q (by exact y_field rfl) ?_
      refine l_q (by exact y_ld hs rfl rfl) ?_
      refine l_q (by exact y_indexT (off := i) rfl rfl (by omega) (by omega) rfl (by omega)) ?_
      refine l_w (w_store (v := .int .i64 (gS c.l i).sent) (off := i) hs rfl rfl rfl (by rw [Nat.blt_eq, out_len (by omega) (by omega)]; omega) (fun w hs => ?_))
      rw [out_set hcl c1] at hs
      refine l_end ?_
      refine e_blk ?_
      refine e_then ?_
      refine s_reg ?_
      refine l_q (by first | exact y_addn rfl rfl (by omega) | exact y_add rfl rfl rfl) ?_
      refine l_q (by exact y_mv_int rfl) ?_
      refine l_end ?_
      refine e_then ?_
      exact ⟨i + 1, _, nx ⟨rfl, rfl, rfl, rfl, trivial⟩, ⟨hs.tail, by omega⟩, by omega⟩
    · refine s_seq ?_
      refine s_reg ?_
      refine l_q (by first | exact y_lss rfl rfl (decide_eq_true (by omega)) | exact y_lss rfl rfl (decide_eq_false (by omega)) | exact y_lss rfl rfl rfl) ?_
      refine l_end ?_
      refine e_then ?_
      refine s_seq ?_
      refine cond_f rfl ?_
      refine s_exit ?_
      refine e_then_x ?_
      refine e_then_x ?_
      refine e_blk_x ?_
      refine e_then ?_
      refine s_seq ?_
      refine s_reg ?_
      refine l_q (by exact y_mv_slice rfl) ?_
      refine l_q (by exact y_as_slice rfl) ?_
      refine l_q (by exact y_as_int rfl) ?_
      refine l_end ?_
      refine e_then ?_
      refine s_ret ?_
      have hi : i = n := by omega
      rw [hi, out_full hcl] at hs
      exact ret_ [.slice _ _ _, .int .i64 _] rfl ⟨rfl, rfl, trivial⟩ ⟨b165, rfl, hs.sub (by simp)⟩
  · simp only [contF, if_neg hl0] at hk
    have hR := round_ok hwf (by omega)
    obtain ⟨hwf', hneed⟩ := wf_round (len := len) (z := z) hwf (by omega)
    refine s_seq ?_
    refine s_seq ?_
    refine s_reg ?_
    refine l_q (by exact y_mv_int rfl) ?_
    refine l_q (by first | exact y_gtr rfl rfl (decide_eq_true (by omega)) | exact y_gtr rfl rfl (decide_eq_false (by omega)) | exact y_gtr rfl rfl rfl) ?_
    refine l_end ?_
    refine e_then ?_
    refine cond_t rfl ?_
    refine s_skip ?_
    refine e_then ?_
    refine s_block ?_
    refine s_seq ?_
    refine s_reg ?_
    refine l_q (by exact y_as_slice rfl) ?_
    refine l_end ?_
    refine e_then ?_
    refine s_seq ?_
    refine s_seq ?_
    refine s_reg ?_
    refine l_q (by exact y_mv_slice rfl) ?_
    refine l_q (by exact y_len_slice rfl) ?_
    refine l_q (by exact y_mv_int rfl) ?_
    refine l_end ?_
    refine e_then ?_
    refine s_block ?_
    refine loop_st (X := Nat × OS) (fun y => [(0, I64 n), (1, .slice a len cap), (6, .slice (some ⟨b32, 0, none⟩) n n), (7, I64 c.used), (8, I64 c.left), (9, .slice y.2.ad (nowF c.l y.1).length y.2.cap), (36, .slice (some ⟨b32, 0, none⟩) n n), (37, I64 n), (38, I64 y.1)])
      (fun y w => St W0 w (y.2.blk ((nI (nowF c.l y.1)).map I64) 3 ++ ((b32, .cells (flatS c.l) 39) :: L)) ∧ y.2.ok ((nI (nowF c.l y.1)).map I64) (nowF c.l y.1).length 1 ∧ y.1 ≤ n) (fun y => n - y.1) (0, OS.nl) ⟨rfl, rfl, rfl, rfl, rfl, rfl, rfl, rfl, rfl, trivial⟩ ⟨hs, OS.ok_nl 1, by dsimp only; omega⟩ ?_
    clear hs
    rintro ⟨i, now⟩ ρ w ⟨hs, nok, i1⟩
    dsimp only at *
    by_cases c1 : i < n
    · have hil : i < c.l.length := by omega
      have hst : nowF c.l (i + 1) = nowStep c.l (nowF c.l i) i := rfl
      have hE := hwf.each i c1
      have hE1 := hE.n1
      have NO := now_ok c.l i
      have NOlt := NO.lt
      have hacl : (nowF c.l i).length ≤ n := by have := now_len c.l i; omega
      generalize hacc : nowF c.l i = acc at *
      by_cases s0 : (gS c.l i).next < 0
      · have e : nowF c.l (i + 1) = acc := by rw [hst]; unfold nowStep; rw [if_pos s0]
        refine s_seq ?_
        refine s_reg ?_
        refine l_q (by first | exact y_lss rfl rfl (decide_eq_true (by omega)) | exact y_lss rfl rfl (decide_eq_false (by omega)) | exact y_lss rfl rfl rfl) ?_
        refine l_end ?_
        refine e_then ?_
        refine s_seq ?_
        refine cond_t rfl ?_
        refine s_skip ?_
        refine e_then ?_
        refine s_seq ?_
        refine s_block ?_
        refine s_seq ?_
        refine s_reg ?_
        refine l_q (by exact y_mv_int rfl) ?_
        refine l_q (by exact y_indexT (off := 3 * i) rfl rfl (by omega) (by omega) rfl (by omega)) ?_
        refine l_q (by exact y_ldA (vs := [I64 (gS c.l i).next, I64 (gS c.l i).tries, I64 (gS c.l i).sent]) hs rfl (flatS_room hil 3 (by omega)) (flatS_take hil)) ?_
        refine l_w (w_alloc (cs := [_, _, _]) hs rfl (fun b11 w hs hb11 => ?_))
        refine l_q (by exact y_as_int rfl) ?_
        refine l_w (w_storeA (vs := [_, _, _]) hs rfl rfl rfl rfl rfl (fun w hs => ?_))
        refine l_end ?_
        refine e_then ?_
        refine s_seq ?_
        refine s_seq ?_
        refine s_reg ?_
        refine l_q (by exact y_field rfl) ?_
        refine l_q (by exact y_ld hs rfl rfl) ?_
        refine l_q (by first | exact y_lss rfl rfl (decide_eq_true (by omega)) | exact y_lss rfl rfl (decide_eq_false (by omega)) | exact y_lss rfl rfl rfl) ?_
        refine l_end ?_
        refine e_then ?_
        refine cond_t rfl ?_
        refine s_exit ?_
        refine e_then_x ?_
        refine e_blk_x ?_
        refine e_then ?_
        refine s_reg ?_
        refine l_q (by first | exact y_addn rfl rfl (by omega) | exact y_add rfl rfl rfl) ?_
        refine l_q (by exact y_mv_int rfl) ?_
        refine l_end ?_
        refine e_then ?_
        exact ⟨(i + 1, now), _, nx ⟨rfl, rfl, rfl, rfl, rfl, by dsimp only; rw [e]; rfl, rfl, rfl, rfl, trivial⟩, ⟨by dsimp only; rw [e]; exact hs.tail, by dsimp only; rw [e]; exact nok, by dsimp only; omega⟩, by dsimp only; omega⟩
      · by_cases ce : acc = []
        · have e : nowF c.l (i + 1) = acc ++ [i] := by rw [hst]; unfold nowStep; rw [if_neg s0]; simp [ce]
          have hz : acc.length = 0 := by rw [ce]; rfl
          refine s_seq ?_
          refine s_reg ?_
          refine l_q (by first | exact y_lss rfl rfl (decide_eq_true (by omega)) | exact y_lss rfl rfl (decide_eq_false (by omega)) | exact y_lss rfl rfl rfl) ?_
          refine l_end ?_
          refine e_then ?_
          refine s_seq ?_
          refine cond_t rfl ?_
          refine s_skip ?_
          refine e_then ?_
          refine s_seq ?_
          refine s_block ?_
          refine s_seq ?_
          refine s_reg ?_
          refine l_q (by exact y_mv_int rfl) ?_
          refine l_q (by exact y_indexT (off := 3 * i) rfl rfl (by omega) (by omega) rfl (by omega)) ?_
          refine l_q (by exact y_ldA (vs := [I64 (gS c.l i).next, I64 (gS c.l i).tries, I64 (gS c.l i).sent]) hs rfl (flatS_room hil 3 (by omega)) (flatS_take hil)) ?_
          refine l_w (w_alloc (cs := [_, _, _]) hs rfl (fun b11 w hs hb11 => ?_))
          refine l_q (by exact y_as_int rfl) ?_
          refine l_w (w_storeA (vs := [_, _, _]) hs rfl rfl rfl rfl rfl (fun w hs => ?_))
          refine l_end ?_
          refine e_then ?_
          refine s_seq ?_
          refine s_seq ?_
          refine s_reg ?_
          refine l_q (by exact y_field rfl) ?_
          refine l_q (by exact y_ld hs rfl rfl) ?_
          refine l_q (by first | exact y_lss rfl rfl (decide_eq_true (by omega)) | exact y_lss rfl rfl (decide_eq_false (by omega)) | exact y_lss rfl rfl rfl) ?_
          refine l_end ?_
          refine e_then ?_
          refine cond_f rfl ?_
          refine s_skip ?_
          refine e_then ?_
          refine s_seq ?_
          refine s_seq ?_
          refine r_dr (.q 0 (.q 1 (.q 2 (.q 3 (.q 4 (.q 5 (.q 6 (.q 7 (.q 8 (.q 9 (.q 10 (.q 11 (.q 12 (.q 13 (.q 14 (.nil)))))))))))))))) 14 hs mixed (by kernel_rfl) (fun hs => ?_)
          refine c_q rfl (by first | exact hs | exact hs.subl | exact hs.cellAt rfl | trivial) (fun _ _ _ h => h) (fun w hs => by exact y_mv_slice rfl) ?_
          refine c_q rfl (by first | exact hs | exact hs.subl | exact hs.cellAt rfl | trivial) (fun _ _ _ h => h) (fun w hs => by exact y_len_slice rfl) ?_
          refine c_q rfl (by first | exact hs | exact hs.subl | exact hs.cellAt rfl | trivial) (fun _ _ _ h => h) (fun w hs => by first | exact y_gtr rfl rfl (decide_eq_true (by omega)) | exact y_gtr rfl rfl (decide_eq_false (by omega)) | exact y_gtr rfl rfl rfl) ?_
          refine c_q rfl (by first | exact hs | exact hs.subl | exact hs.cellAt rfl | trivial) (fun _ _ _ h => h) (fun w hs => by exact y_mv_bool rfl) ?_
          first | refine c_gskip rfl (by first | exact hs | exact hs.subl | exact hs.cellAt rfl | trivial) (fun _ _ _ h => h) rfl rfl ?_ | refine c_gskip_u rfl (by first | exact hs | exact hs.subl | exact hs.cellAt rfl | trivial) (fun _ _ _ h => h) rfl rfl ?_ | refine c_gdo rfl (by first | exact hs | exact hs.subl | exact hs.cellAt rfl | trivial) (fun _ _ _ h => h) rfl rfl (fun w hs => by exact y_field rfl) ?_
          first | refine c_gskip rfl (by first | exact hs | exact hs.subl | exact hs.cellAt rfl | trivial) (fun _ _ _ h => h) rfl rfl ?_ | refine c_gskip_u rfl (by first | exact hs | exact hs.subl | exact hs.cellAt rfl | trivial) (fun _ _ _ h => h) rfl rfl ?_ | refine c_gdo rfl (by first | exact hs | exact hs.subl | exact hs.cellAt rfl | trivial) (fun _ _ _ h => h) rfl rfl (fun w hs => by exact y_ld hs rfl rfl) ?_
          first | refine c_gskip rfl (by first | exact hs | exact hs.subl | exact hs.cellAt rfl | trivial) (fun _ _ _ h => h) rfl rfl ?_ | refine c_gskip_u rfl (by first | exact hs | exact hs.subl | exact hs.cellAt rfl | trivial) (fun _ _ _ h => h) rfl rfl ?_ | refine c_gdo rfl (by first | exact hs | exact hs.subl | exact hs.cellAt rfl | trivial) (fun _ _ _ h => h) rfl rfl (fun w hs => by exact y_mv_slice rfl) ?_
          first | refine c_gskip rfl (by first | exact hs | exact hs.subl | exact hs.cellAt rfl | trivial) (fun _ _ _ h => h) rfl rfl ?_ | refine c_gskip_u rfl (by first | exact hs | exact hs.subl | exact hs.cellAt rfl | trivial) (fun _ _ _ h => h) rfl rfl ?_ | refine c_gdo rfl (by first | exact hs | exact hs.subl | exact hs.cellAt rfl | trivial) (fun _ _ _ h => h) rfl rfl (fun w hs => by exact y_mv_slice rfl) ?_
          first | refine c_gskip rfl (by first | exact hs | exact hs.subl | exact hs.cellAt rfl | trivial) (fun _ _ _ h => h) rfl rfl ?_ | refine c_gskip_u rfl (by first | exact hs | exact hs.subl | exact hs.cellAt rfl | trivial) (fun _ _ _ h => h) rfl rfl ?_ | refine c_gdo rfl (by first | exact hs | exact hs.subl | exact hs.cellAt rfl | trivial) (fun _ _ _ h => h) rfl rfl (fun w hs => by exact y_indexT (off := 0) rfl rfl (by omega) (by omega) hnad (by omega)) ?_
          first | refine c_gskip rfl (by first | exact hs | exact hs.subl | exact hs.cellAt rfl | trivial) (fun _ _ _ h => h) rfl rfl ?_ | refine c_gskip_u rfl (by first | exact hs | exact hs.subl | exact hs.cellAt rfl | trivial) (fun _ _ _ h => h) rfl rfl ?_ | refine c_gdo rfl (by first | exact hs | exact hs.subl | exact hs.cellAt rfl | trivial) (fun _ _ _ h => h) rfl rfl (fun w hs => by exact y_ld (v := .int .i64 ((acc.getD 0 0 : Nat) : Int)) hs rfl hncell) ?_
          first | refine c_gskip rfl (by first | exact hs | exact hs.subl | exact hs.cellAt rfl | trivial) (fun _ _ _ h => h) rfl rfl ?_ | refine c_gskip_u rfl (by first | exact hs | exact hs.subl | exact hs.cellAt rfl | trivial) (fun _ _ _ h => h) rfl rfl ?_ | refine c_gdo rfl (by first | exact hs | exact hs.subl | exact hs.cellAt rfl | trivial) (fun _ _ _ h => h) rfl rfl (fun w hs => by exact y_indexT (off := 3 * acc.getD 0 0) rfl rfl (by omega) (by omega) rfl (by omega)) ?_
          first | refine c_gskip rfl (by first | exact hs | exact hs.subl | exact hs.cellAt rfl | trivial) (fun _ _ _ h => h) rfl rfl ?_ | refine c_gskip_u rfl (by first | exact hs | exact hs.subl | exact hs.cellAt rfl | trivial) (fun _ _ _ h => h) rfl rfl ?_ | refine c_gdo rfl (by first | exact hs | exact hs.subl | exact hs.cellAt rfl | trivial) (fun _ _ _ h => h) rfl rfl (fun w hs => by exact y_field rfl) ?_
          first | refine c_gskip rfl (by first | exact hs | exact hs.subl | exact hs.cellAt rfl | trivial) (fun _ _ _ h => h) rfl rfl ?_ | refine c_gskip_u rfl (by first | exact hs | exact hs.subl | exact hs.cellAt rfl | trivial) (fun _ _ _ h => h) rfl rfl ?_ | refine c_gdo rfl (by first | exact hs | exact hs.subl | exact hs.cellAt rfl | trivial) (fun _ _ _ h => h) rfl rfl (fun w hs => by exact y_ld (v := .int .i64 (gS c.l (acc.getD 0 0)).next) hs rfl (flatS_get hhl 0 (by omega))) ?_
          first | refine c_gskip rfl (by first | exact hs | exact hs.subl | exact hs.cellAt rfl | trivial) (fun _ _ _ h => h) rfl rfl ?_ | refine c_gskip_u rfl (by first | exact hs | exact hs.subl | exact hs.cellAt rfl | trivial) (fun _ _ _ h => h) rfl rfl ?_ | refine c_gdo rfl (by first | exact hs | exact hs.subl | exact hs.cellAt rfl | trivial) (fun _ _ _ h => h) rfl rfl (fun w hs => by first | exact y_lss rfl rfl (decide_eq_true (by omega)) | exact y_lss rfl rfl (decide_eq_false (by omega)) | exact y_lss rfl rfl rfl) ?_
          refine c_q rfl (by first | exact hs | exact hs.subl | exact hs.cellAt rfl | trivial) (fun _ _ _ h => h) (fun w hs => by first | exact y_pk_bt rfl rfl | exact y_pk_bf rfl rfl) ?_
          refine c_end ?_
          refine e_then ?_
          refine cond_f rfl ?_
          refine s_skip ?_
          refine e_then ?_
          refine s_seq ?_
          refine r_dr (.q 0 (.q 1 (.q 2 (.q 3 (.q 4 (.q 5 (.q 6 (.q 7 (.q 8 (.q 9 (.q 10 (.q 11 (.q 12 (.q 13 (.q 14 (.nil)))))))))))))))) 14 hs mixed (by kernel_rfl) (fun hs => ?_)
          refine c_q rfl (by first | exact hs | exact hs.subl | exact hs.cellAt rfl | trivial) (fun _ _ _ h => h) (fun w hs => by exact y_mv_slice rfl) ?_
          refine c_q rfl (by first | exact hs | exact hs.subl | exact hs.cellAt rfl | trivial) (fun _ _ _ h => h) (fun w hs => by exact y_len_slice rfl) ?_
          refine c_q rfl (by first | exact hs | exact hs.subl | exact hs.cellAt rfl | trivial) (fun _ _ _ h => h) (fun w hs => by first | exact y_eql rfl rfl (decide_eq_true (by omega)) | exact y_eql rfl rfl (decide_eq_false (by omega)) | exact y_eql rfl rfl rfl) ?_
          refine c_q rfl (by first | exact hs | exact hs.subl | exact hs.cellAt rfl | trivial) (fun _ _ _ h => h) (fun w hs => by exact y_mv_bool rfl) ?_
          first | refine c_gskip rfl (by first | exact hs | exact hs.subl | exact hs.cellAt rfl | trivial) (fun _ _ _ h => h) rfl rfl ?_ | refine c_gskip_u rfl (by first | exact hs | exact hs.subl | exact hs.cellAt rfl | trivial) (fun _ _ _ h => h) rfl rfl ?_ | refine c_gdo rfl (by first | exact hs | exact hs.subl | exact hs.cellAt rfl | trivial) (fun _ _ _ h => h) rfl rfl (fun w hs => by exact y_field rfl) ?_
          first | refine c_gskip rfl (by first | exact hs | exact hs.subl | exact hs.cellAt rfl | trivial) (fun _ _ _ h => h) rfl rfl ?_ | refine c_gskip_u rfl (by first | exact hs | exact hs.subl | exact hs.cellAt rfl | trivial) (fun _ _ _ h => h) rfl rfl ?_ | refine c_gdo rfl (by first | exact hs | exact hs.subl | exact hs.cellAt rfl | trivial) (fun _ _ _ h => h) rfl rfl (fun w hs => by exact y_ld hs rfl rfl) ?_
          first | refine c_gskip rfl (by first | exact hs | exact hs.subl | exact hs.cellAt rfl | trivial) (fun _ _ _ h => h) rfl rfl ?_ | refine c_gskip_u rfl (by first | exact hs | exact hs.subl | exact hs.cellAt rfl | trivial) (fun _ _ _ h => h) rfl rfl ?_ | refine c_gdo rfl (by first | exact hs | exact hs.subl | exact hs.cellAt rfl | trivial) (fun _ _ _ h => h) rfl rfl (fun w hs => by exact y_mv_slice rfl) ?_
          first | refine c_gskip rfl (by first | exact hs | exact hs.subl | exact hs.cellAt rfl | trivial) (fun _ _ _ h => h) rfl rfl ?_ | refine c_gskip_u rfl (by first | exact hs | exact hs.subl | exact hs.cellAt rfl | trivial) (fun _ _ _ h => h) rfl rfl ?_ | refine c_gdo rfl (by first | exact hs | exact hs.subl | exact hs.cellAt rfl | trivial) (fun _ _ _ h => h) rfl rfl (fun w hs => by exact y_mv_slice rfl) ?_
          first | refine c_gskip rfl (by first | exact hs | exact hs.subl | exact hs.cellAt rfl | trivial) (fun _ _ _ h => h) rfl rfl ?_ | refine c_gskip_u rfl (by first | exact hs | exact hs.subl | exact hs.cellAt rfl | trivial) (fun _ _ _ h => h) rfl rfl ?_ | refine c_gdo rfl (by first | exact hs | exact hs.subl | exact hs.cellAt rfl | trivial) (fun _ _ _ h => h) rfl rfl (fun w hs => by exact y_indexT (off := 0) rfl rfl (by omega) (by omega) hnad (by omega)) ?_
          first | refine c_gskip rfl (by first | exact hs | exact hs.subl | exact hs.cellAt rfl | trivial) (fun _ _ _ h => h) rfl rfl ?_ | refine c_gskip_u rfl (by first | exact hs | exact hs.subl | exact hs.cellAt rfl | trivial) (fun _ _ _ h => h) rfl rfl ?_ | refine c_gdo rfl (by first | exact hs | exact hs.subl | exact hs.cellAt rfl | trivial) (fun _ _ _ h => h) rfl rfl (fun w hs => by exact y_ld (v := .int .i64 ((acc.getD 0 0 : Nat) : Int)) hs rfl hncell) ?_
          first | refine c_gskip rfl (by first | exact hs | exact hs.subl | exact hs.cellAt rfl | trivial) (fun _ _ _ h => h) rfl rfl ?_ | refine c_gskip_u rfl (by first | exact hs | exact hs.subl | exact hs.cellAt rfl | trivial) (fun _ _ _ h => h) rfl rfl ?_ | refine c_gdo rfl (by first | exact hs | exact hs.subl | exact hs.cellAt rfl | trivial) (fun _ _ _ h => h) rfl rfl (fun w hs => by exact y_indexT (off := 3 * acc.getD 0 0) rfl rfl (by omega) (by omega) rfl (by omega)) ?_
          first | refine c_gskip rfl (by first | exact hs | exact hs.subl | exact hs.cellAt rfl | trivial) (fun _ _ _ h => h) rfl rfl ?_ | refine c_gskip_u rfl (by first | exact hs | exact hs.subl | exact hs.cellAt rfl | trivial) (fun _ _ _ h => h) rfl rfl ?_ | refine c_gdo rfl (by first | exact hs | exact hs.subl | exact hs.cellAt rfl | trivial) (fun _ _ _ h => h) rfl rfl (fun w hs => by exact y_field rfl) ?_
          first | refine c_gskip rfl (by first | exact hs | exact hs.subl | exact hs.cellAt rfl | trivial) (fun _ _ _ h => h) rfl rfl ?_ | refine c_gskip_u rfl (by first | exact hs | exact hs.subl | exact hs.cellAt rfl | trivial) (fun _ _ _ h => h) rfl rfl ?_ | refine c_gdo rfl (by first | exact hs | exact hs.subl | exact hs.cellAt rfl | trivial) (fun _ _ _ h => h) rfl rfl (fun w hs => by exact y_ld (v := .int .i64 (gS c.l (acc.getD 0 0)).next) hs rfl (flatS_get hhl 0 (by omega))) ?_
          first | refine c_gskip rfl (by first | exact hs | exact hs.subl | exact hs.cellAt rfl | trivial) (fun _ _ _ h => h) rfl rfl ?_ | refine c_gskip_u rfl (by first | exact hs | exact hs.subl | exact hs.cellAt rfl | trivial) (fun _ _ _ h => h) rfl rfl ?_ | refine c_gdo rfl (by first | exact hs | exact hs.subl | exact hs.cellAt rfl | trivial) (fun _ _ _ h => h) rfl rfl (fun w hs => by first | exact y_eql rfl rfl (decide_eq_true (by omega)) | exact y_eql rfl rfl (decide_eq_false (by omega)) | exact y_eql rfl rfl rfl) ?_
          refine c_q rfl (by first | exact hs | exact hs.subl | exact hs.cellAt rfl | trivial) (fun _ _ _ h => h) (fun w hs => by first | exact y_pk_bt rfl rfl | exact y_pk_bf rfl rfl) ?_
          refine c_end ?_
          refine e_then ?_
          refine cond_t rfl ?_
          refine s_reg ?_
          refine l_q (by exact y_mv_slice rfl) ?_
          refine l_q (by exact y_mv_int rfl) ?_
          refine l_w (w_buildSlice (pv := [(0, .int .i64 _)]) (vs := [_]) hs rfl rfl rfl rfl (fun b78 w hs hb78 => ?_))
          first | refine l_w (w_append (ys := [_]) [(b78, _), (b11, _)] hs nok rfl rfl rfl rfl rfl rfl (.inl (by decide)) (by decide) (by omega) (fun now' w nok' hng' hs => ?_)) | refine l_w (w_append (s := OS.nl) (xs := []) (len := 0) (ys := [_]) [(b78, _), (b11, _)] hs (OS.ok_nl 1) rfl rfl rfl rfl rfl rfl (.inl (by decide)) (by decide) (by omega) (fun now' w nok' hng' hs => ?_))
          refine l_q (by exact y_as_slice rfl) ?_
          refine l_end ?_
          refine e_blk ?_
          refine e_then ?_
          refine s_reg ?_
          refine l_q (by first | exact y_addn rfl rfl (by omega) | exact y_add rfl rfl rfl) ?_
          refine l_q (by exact y_mv_int rfl) ?_
          refine l_end ?_
          refine e_then ?_
          exact ⟨(i + 1, now'), _, nx ⟨rfl, rfl, rfl, rfl, rfl, by dsimp only; rw [e, List.length_append]; rfl, rfl, rfl, rfl, trivial⟩, ⟨by dsimp only; rw [e]; simpa [nI] using hs.tail.tail, by dsimp only; rw [e]; simpa [nI] using nok', by dsimp only; omega⟩, by dsimp only; omega⟩
        · have hz : acc.length ≠ 0 := fun h => ce (List.length_eq_zero_iff.1 h)
          obtain ⟨g, hng, hnad, hncell⟩ := own_now nok (j := 0) (by omega)
          haveI := inl_blk hng ((nI acc).map I64) 3
          have hmem : acc.getD 0 0 ∈ acc := by
            cases hq : acc with
            | nil => exact absurd hq ce
            | cons a b => simp
          have hhn := NOlt _ hmem
          have hhl : acc.getD 0 0 < c.l.length := by omega
          by_cases c2 : (gS c.l i).next < (gS c.l (acc.getD 0 0)).next
          · have e : nowF c.l (i + 1) = [i] := by rw [hst]; unfold nowStep; rw [if_neg s0]; simp only [if_pos (And.intro ce c2)]; simp
            refine s_seq ?_
            refine s_reg ?_
            refine l_q (by first | exact y_lss rfl rfl (decide_eq_true (by omega)) | exact y_lss rfl rfl (decide_eq_false (by omega)) | exact y_lss rfl rfl rfl) ?_
            refine l_end ?_
            refine e_then ?_
            refine s_seq ?_
            refine cond_t rfl ?_
            refine s_skip ?_
            refine e_then ?_
            refine s_seq ?_
            refine s_block ?_
            refine s_seq ?_
            refine s_reg ?_
            refine l_q (by exact y_mv_int rfl) ?_
            refine l_q (by exact y_indexT (off := 3 * i) rfl rfl (by omega) (by omega) rfl (by omega)) ?_
            refine l_q (by exact y_ldA (vs := [I64 (gS c.l i).next, I64 (gS c.l i).tries, I64 (gS c.l i).sent]) hs rfl (flatS_room hil 3 (by omega)) (flatS_take hil)) ?_
            refine l_w (w_alloc (cs := [_, _, _]) hs rfl (fun b11 w hs hb11 => ?_))
            refine l_q (by exact y_as_int rfl) ?_
            refine l_w (w_storeA (vs := [_, _, _]) hs rfl rfl rfl rfl rfl (fun w hs => ?_))
            refine l_end ?_
            refine e_then ?_
            refine s_seq ?_
            refine s_seq ?_
            refine s_reg ?_
            refine l_q (by exact y_field rfl) ?_
            refine l_q (by exact y_ld hs rfl rfl) ?_
            refine l_q (by first | exact y_lss rfl rfl (decide_eq_true (by omega)) | exact y_lss rfl rfl (decide_eq_false (by omega)) | exact y_lss rfl rfl rfl) ?_
            refine l_end ?_
            refine e_then ?_
            refine cond_f rfl ?_
            refine s_skip ?_
            refine e_then ?_
            refine s_seq ?_
            refine s_seq ?_
            refine r_dr (.q 0 (.q 1 (.q 2 (.q 3 (.q 4 (.q 5 (.q 6 (.q 7 (.q 8 (.q 9 (.q 10 (.q 11 (.q 12 (.q 13 (.q 14 (.nil)))))))))))))))) 14 hs mixed (by kernel_rfl) (fun hs => ?_)
            refine c_q rfl (by first | exact hs | exact hs.subl | exact hs.cellAt rfl | trivial) (fun _ _ _ h => h) (fun w hs => by exact y_mv_slice rfl) ?_
            refine c_q rfl (by first | exact hs | exact hs.subl | exact hs.cellAt rfl | trivial) (fun _ _ _ h => h) (fun w hs => by exact y_len_slice rfl) ?_
            refine c_q rfl (by first | exact hs | exact hs.subl | exact hs.cellAt rfl | trivial) (fun _ _ _ h => h) (fun w hs => by first | exact y_gtr rfl rfl (decide_eq_true (by omega)) | exact y_gtr rfl rfl (decide_eq_false (by omega)) | exact y_gtr rfl rfl rfl) ?_
            refine c_q rfl (by first | exact hs | exact hs.subl | exact hs.cellAt rfl | trivial) (fun _ _ _ h => h) (fun w hs => by exact y_mv_bool rfl) ?_
            first | refine c_gskip rfl (by first | exact hs | exact hs.subl | exact hs.cellAt rfl | trivial) (fun _ _ _ h => h) rfl rfl ?_ | refine c_gskip_u rfl (by first | exact hs | exact hs.subl | exact hs.cellAt rfl | trivial) (fun _ _ _ h => h) rfl rfl ?_ | refine c_gdo rfl (by first | exact hs | exact hs.subl | exact hs.cellAt rfl | trivial) (fun _ _ _ h => h) rfl rfl (fun w hs => by exact y_field rfl) ?_
            first | refine c_gskip rfl (by first | exact hs | exact hs.subl | exact hs.cellAt rfl | trivial) (fun _ _ _ h => h) rfl rfl ?_ | refine c_gskip_u rfl (by first | exact hs | exact hs.subl | exact hs.cellAt rfl | trivial) (fun _ _ _ h => h) rfl rfl ?_ | refine c_gdo rfl (by first | exact hs | exact hs.subl | exact hs.cellAt rfl | trivial) (fun _ _ _ h => h) rfl rfl (fun w hs => by exact y_ld hs rfl rfl) ?_
            first | refine c_gskip rfl (by first | exact hs | exact hs.subl | exact hs.cellAt rfl | trivial) (fun _ _ _ h => h) rfl rfl ?_ | refine c_gskip_u rfl (by first | exact hs | exact hs.subl | exact hs.cellAt rfl | trivial) (fun _ _ _ h => h) rfl rfl ?_ | refine c_gdo rfl (by first | exact hs | exact hs.subl | exact hs.cellAt rfl | trivial) (fun _ _ _ h => h) rfl rfl (fun w hs => by exact y_mv_slice rfl) ?_
            first | refine c_gskip rfl (by first | exact hs | exact hs.subl | exact hs.cellAt rfl | trivial) (fun _ _ _ h => h) rfl rfl ?_ | refine c_gskip_u rfl (by first | exact hs | exact hs.subl | exact hs.cellAt rfl | trivial) (fun _ _ _ h => h) rfl rfl ?_ | refine c_gdo rfl (by first | exact hs | exact hs.subl | exact hs.cellAt rfl | trivial) (fun _ _ _ h => h) rfl rfl (fun w hs => by exact y_mv_slice rfl) ?_
            first | refine c_gskip rfl (by first | exact hs | exact hs.subl | exact hs.cellAt rfl | trivial) (fun _ _ _ h => h) rfl rfl ?_ | refine c_gskip_u rfl (by first | exact hs | exact hs.subl | exact hs.cellAt rfl | trivial) (fun _ _ _ h => h) rfl rfl ?_ | refine c_gdo rfl (by first | exact hs | exact hs.subl | exact hs.cellAt rfl | trivial) (fun _ _ _ h => h) rfl rfl (fun w hs => by exact y_indexT (off := 0) rfl rfl (by omega) (by omega) hnad (by omega)) ?_
            first | refine c_gskip rfl (by first | exact hs | exact hs.subl | exact hs.cellAt rfl | trivial) (fun _ _ _ h => h) rfl rfl ?_ | refine c_gskip_u rfl (by first | exact hs | exact hs.subl | exact hs.cellAt rfl | trivial) (fun _ _ _ h => h) rfl rfl ?_ | refine c_gdo rfl (by first | exact hs | exact hs.subl | exact hs.cellAt rfl | trivial) (fun _ _ _ h => h) rfl rfl (fun w hs => by exact y_ld (v := .int .i64 ((acc.getD 0 0 : Nat) : Int)) hs rfl hncell) ?_
            first | refine c_gskip rfl (by first | exact hs | exact hs.subl | exact hs.cellAt rfl | trivial) (fun _ _ _ h => h) rfl rfl ?_ | refine c_gskip_u rfl (by first | exact hs | exact hs.subl | exact hs.cellAt rfl | trivial) (fun _ _ _ h => h) rfl rfl ?_ | refine c_gdo rfl (by first | exact hs | exact hs.subl | exact hs.cellAt rfl | trivial) (fun _ _ _ h => h) rfl rfl (fun w hs => by exact y_indexT (off := 3 * acc.getD 0 0) rfl rfl (by omega) (by omega) rfl (by omega)) ?_
            first | refine c_gskip rfl (by first | exact hs | exact hs.subl | exact hs.cellAt rfl | trivial) (fun _ _ _ h => h) rfl rfl ?_ | refine c_gskip_u rfl (by first | exact hs | exact hs.subl | exact hs.cellAt rfl | trivial) (fun _ _ _ h => h) rfl rfl ?_ | refine c_gdo rfl (by first | exact hs | exact hs.subl | exact hs.cellAt rfl | trivial) (fun _ _ _ h => h) rfl rfl (fun w hs => by exact y_field rfl) ?_
            first | refine c_gskip rfl (by first | exact hs | exact hs.subl | exact hs.cellAt rfl | trivial) (fun _ _ _ h => h) rfl rfl ?_ | refine c_gskip_u rfl (by first | exact hs | exact hs.subl | exact hs.cellAt rfl | trivial) (fun _ _ _ h => h) rfl rfl ?_ | refine c_gdo rfl (by first | exact hs | exact hs.subl | exact hs.cellAt rfl | trivial) (fun _ _ _ h => h) rfl rfl (fun w hs => by exact y_ld (v := .int .i64 (gS c.l (acc.getD 0 0)).next) hs rfl (flatS_get hhl 0 (by omega))) ?_
            first | refine c_gskip rfl (by first | exact hs | exact hs.subl | exact hs.cellAt rfl | trivial) (fun _ _ _ h => h) rfl rfl ?_ | refine c_gskip_u rfl (by first | exact hs | exact hs.subl | exact hs.cellAt rfl | trivial) (fun _ _ _ h => h) rfl rfl ?_ | refine c_gdo rfl (by first | exact hs | exact hs.subl | exact hs.cellAt rfl | trivial) (fun _ _ _ h => h) rfl rfl (fun w hs => by first | exact y_lss rfl rfl (decide_eq_true (by omega)) | exact y_lss rfl rfl (decide_eq_false (by omega)) | exact y_lss rfl rfl rfl) ?_
            refine c_q rfl (by first | exact hs | exact hs.subl | exact hs.cellAt rfl | trivial) (fun _ _ _ h => h) (fun w hs => by first | exact y_pk_bt rfl rfl | exact y_pk_bf rfl rfl) ?_
            refine c_end ?_
            refine e_then ?_
            refine cond_t rfl ?_
            refine s_reg ?_
            refine l_q (by exact y_as_slice rfl) ?_
            refine l_end ?_
            refine e_then ?_
            refine s_seq ?_
            refine r_dr (.q 0 (.q 1 (.q 2 (.q 3 (.q 4 (.q 5 (.q 6 (.q 7 (.q 8 (.q 9 (.q 10 (.q 11 (.q 12 (.q 13 (.q 14 (.nil)))))))))))))))) 14 hs mixed (by kernel_rfl) (fun hs => ?_)
            refine c_q rfl (by first | exact hs | exact hs.subl | exact hs.cellAt rfl | trivial) (fun _ _ _ h => h) (fun w hs => by exact y_mv_slice rfl) ?_
            refine c_q rfl (by first | exact hs | exact hs.subl | exact hs.cellAt rfl | trivial) (fun _ _ _ h => h) (fun w hs => by exact y_len_slice rfl) ?_
            refine c_q rfl (by first | exact hs | exact hs.subl | exact hs.cellAt rfl | trivial) (fun _ _ _ h => h) (fun w hs => by first | exact y_eql rfl rfl (decide_eq_true (by omega)) | exact y_eql rfl rfl (decide_eq_false (by omega)) | exact y_eql rfl rfl rfl) ?_
            refine c_q rfl (by first | exact hs | exact hs.subl | exact hs.cellAt rfl | trivial) (fun _ _ _ h => h) (fun w hs => by exact y_mv_bool rfl) ?_
            first | refine c_gskip rfl (by first | exact hs | exact hs.subl | exact hs.cellAt rfl | trivial) (fun _ _ _ h => h) rfl rfl ?_ | refine c_gskip_u rfl (by first | exact hs | exact hs.subl | exact hs.cellAt rfl | trivial) (fun _ _ _ h => h) rfl rfl ?_ | refine c_gdo rfl (by first | exact hs | exact hs.subl | exact hs.cellAt rfl | trivial) (fun _ _ _ h => h) rfl rfl (fun w hs => by exact y_field rfl) ?_
            first | refine c_gskip rfl (by first | exact hs | exact hs.subl | exact hs.cellAt rfl | trivial) (fun _ _ _ h => h) rfl rfl ?_ | refine c_gskip_u rfl (by first | exact hs | exact hs.subl | exact hs.cellAt rfl | trivial) (fun _ _ _ h => h) rfl rfl ?_ | refine c_gdo rfl (by first | exact hs | exact hs.subl | exact hs.cellAt rfl | trivial) (fun _ _ _ h => h) rfl rfl (fun w hs => by exact y_ld hs rfl rfl) ?_
            first | refine c_gskip rfl (by first | exact hs | exact hs.subl | exact hs.cellAt rfl | trivial) (fun _ _ _ h => h) rfl rfl ?_ | refine c_gskip_u rfl (by first | exact hs | exact hs.subl | exact hs.cellAt rfl | trivial) (fun _ _ _ h => h) rfl rfl ?_ | refine c_gdo rfl (by first | exact hs | exact hs.subl | exact hs.cellAt rfl | trivial) (fun _ _ _ h => h) rfl rfl (fun w hs => by exact y_mv_slice rfl) ?_
            first | refine c_gskip rfl (by first | exact hs | exact hs.subl | exact hs.cellAt rfl | trivial) (fun _ _ _ h => h) rfl rfl ?_ | refine c_gskip_u rfl (by first | exact hs | exact hs.subl | exact hs.cellAt rfl | trivial) (fun _ _ _ h => h) rfl rfl ?_ | refine c_gdo rfl (by first | exact hs | exact hs.subl | exact hs.cellAt rfl | trivial) (fun _ _ _ h => h) rfl rfl (fun w hs => by exact y_mv_slice rfl) ?_
            first | refine c_gskip rfl (by first | exact hs | exact hs.subl | exact hs.cellAt rfl | trivial) (fun _ _ _ h => h) rfl rfl ?_ | refine c_gskip_u rfl (by first | exact hs | exact hs.subl | exact hs.cellAt rfl | trivial) (fun _ _ _ h => h) rfl rfl ?_ | refine c_gdo rfl (by first | exact hs | exact hs.subl | exact hs.cellAt rfl | trivial) (fun _ _ _ h => h) rfl rfl (fun w hs => by exact y_indexT (off := 0) rfl rfl (by omega) (by omega) hnad (by omega)) ?_
            first | refine c_gskip rfl (by first | exact hs | exact hs.subl | exact hs.cellAt rfl | trivial) (fun _ _ _ h => h) rfl rfl ?_ | refine c_gskip_u rfl (by first | exact hs | exact hs.subl | exact hs.cellAt rfl | trivial) (fun _ _ _ h => h) rfl rfl ?_ | refine c_gdo rfl (by first | exact hs | exact hs.subl | exact hs.cellAt rfl | trivial) (fun _ _ _ h => h) rfl rfl (fun w hs => by exact y_ld (v := .int .i64 ((acc.getD 0 0 : Nat) : Int)) hs rfl hncell) ?_
            first | refine c_gskip rfl (by first | exact hs | exact hs.subl | exact hs.cellAt rfl | trivial) (fun _ _ _ h => h) rfl rfl ?_ | refine c_gskip_u rfl (by first | exact hs | exact hs.subl | exact hs.cellAt rfl | trivial) (fun _ _ _ h => h) rfl rfl ?_ | refine c_gdo rfl (by first | exact hs | exact hs.subl | exact hs.cellAt rfl | trivial) (fun _ _ _ h => h) rfl rfl (fun w hs => by exact y_indexT (off := 3 * acc.getD 0 0) rfl rfl (by omega) (by omega) rfl (by omega)) ?_
            first | refine c_gskip rfl (by first | exact hs | exact hs.subl | exact hs.cellAt rfl | trivial) (fun _ _ _ h => h) rfl rfl ?_ | refine c_gskip_u rfl (by first | exact hs | exact hs.subl | exact hs.cellAt rfl | trivial) (fun _ _ _ h => h) rfl rfl ?_ | refine c_gdo rfl (by first | exact hs | exact hs.subl | exact hs.cellAt rfl | trivial) (fun _ _ _ h => h) rfl rfl (fun w hs => by exact y_field rfl) ?_
            first | refine c_gskip rfl (by first | exact hs | exact hs.subl | exact hs.cellAt rfl | trivial) (fun _ _ _ h => h) rfl rfl ?_ | refine c_gskip_u rfl (by first | exact hs | exact hs.subl | exact hs.cellAt rfl | trivial) (fun _ _ _ h => h) rfl rfl ?_ | refine c_gdo rfl (by first | exact hs | exact hs.subl | exact hs.cellAt rfl | trivial) (fun _ _ _ h => h) rfl rfl (fun w hs => by exact y_ld (v := .int .i64 (gS c.l (acc.getD 0 0)).next) hs rfl (flatS_get hhl 0 (by omega))) ?_
            first | refine c_gskip rfl (by first | exact hs | exact hs.subl | exact hs.cellAt rfl | trivial) (fun _ _ _ h => h) rfl rfl ?_ | refine c_gskip_u rfl (by first | exact hs | exact hs.subl | exact hs.cellAt rfl | trivial) (fun _ _ _ h => h) rfl rfl ?_ | refine c_gdo rfl (by first | exact hs | exact hs.subl | exact hs.cellAt rfl | trivial) (fun _ _ _ h => h) rfl rfl (fun w hs => by first | exact y_eql rfl rfl (decide_eq_true (by omega)) | exact y_eql rfl rfl (decide_eq_false (by omega)) | exact y_eql rfl rfl rfl) ?_
            refine c_q rfl (by first | exact hs | exact hs.subl | exact hs.cellAt rfl | trivial) (fun _ _ _ h => h) (fun w hs => by first | exact y_pk_bt rfl rfl | exact y_pk_bf rfl rfl) ?_
            refine c_end ?_
            refine e_then ?_
            refine cond_t rfl ?_
            refine s_reg ?_
            refine l_q (by exact y_mv_slice rfl) ?_
            refine l_q (by exact y_mv_int rfl) ?_
            refine l_w (w_buildSlice (pv := [(0, .int .i64 _)]) (vs := [_]) hs rfl rfl rfl rfl (fun b78 w hs hb78 => ?_))
            first | refine l_w (w_append (ys := [_]) [(b78, _), (b11, _)] hs nok rfl rfl rfl rfl rfl rfl (.inl (by decide)) (by decide) (by omega) (fun now' w nok' hng' hs => ?_)) | refine l_w (w_append (s := OS.nl) (xs := []) (len := 0) (ys := [_]) [(b78, _), (b11, _)] hs (OS.ok_nl 1) rfl rfl rfl rfl rfl rfl (.inl (by decide)) (by decide) (by omega) (fun now' w nok' hng' hs => ?_))
            refine l_q (by exact y_as_slice rfl) ?_
            refine l_end ?_
            refine e_blk ?_
            refine e_then ?_
            refine s_reg ?_
            refine l_q (by first | exact y_addn rfl rfl (by omega) | exact y_add rfl rfl rfl) ?_
            refine l_q (by exact y_mv_int rfl) ?_
            refine l_end ?_
            refine e_then ?_
            have hs2 : St W0 w (now'.blk ((nI [i]).map I64) 3 ++ ((b32, .cells (flatS c.l) 39) :: L)) := hs.tail.tail.sub (List.Sublist.append_left (List.sublist_append_right _ _) _)
            exact ⟨(i + 1, now'), _, nx ⟨rfl, rfl, rfl, rfl, rfl, by dsimp only; rw [e]; rfl, rfl, rfl, rfl, trivial⟩, ⟨by dsimp only; rw [e]; exact hs2, by dsimp only; rw [e]; exact nok', by dsimp only; omega⟩, by dsimp only; omega⟩
          · by_cases c3 : (gS c.l i).next = (gS c.l (acc.getD 0 0)).next
            · have e : nowF c.l (i + 1) = acc ++ [i] := by rw [hst]; unfold nowStep; rw [if_neg s0]; simp [ce, c3]
              refine s_seq ?_
              refine s_reg ?_
              refine l_q (by first | exact y_lss rfl rfl (decide_eq_true (by omega)) | exact y_lss rfl rfl (decide_eq_false (by omega)) | exact y_lss rfl rfl rfl) ?_
              refine l_end ?_
              refine e_then ?_
              refine s_seq ?_
              refine cond_t rfl ?_
              refine s_skip ?_
              refine e_then ?_
              refine s_seq ?_
              refine s_block ?_
              refine s_seq ?_
              refine s_reg ?_
              refine l_q (by exact y_mv_int rfl) ?_
              refine l_q (by exact y_indexT (off := 3 * i) rfl rfl (by omega) (by omega) rfl (by omega)) ?_
              refine l_q (by exact y_ldA (vs := [I64 (gS c.l i).next, I64 (gS c.l i).tries, I64 (gS c.l i).sent]) hs rfl (flatS_room hil 3 (by omega)) (flatS_take hil)) ?_
              refine l_w (w_alloc (cs := [_, _, _]) hs rfl (fun b11 w hs hb11 => ?_))
              refine l_q (by exact y_as_int rfl) ?_
              refine l_w (w_storeA (vs := [_, _, _]) hs rfl rfl rfl rfl rfl (fun w hs => ?_))
              refine l_end ?_
              refine e_then ?_
              refine s_seq ?_
              refine s_seq ?_
              refine s_reg ?_
              refine l_q (by exact y_field rfl) ?_
              refine l_q (by exact y_ld hs rfl rfl) ?_
              refine l_q (by first | exact y_lss rfl rfl (decide_eq_true (by omega)) | exact y_lss rfl rfl (decide_eq_false (by omega)) | exact y_lss rfl rfl rfl) ?_
              refine l_end ?_
              refine e_then ?_
              refine cond_f rfl ?_
              refine s_skip ?_
              refine e_then ?_
              refine s_seq ?_
              refine s_seq ?_
              refine r_dr (.q 0 (.q 1 (.q 2 (.q 3 (.q 4 (.q 5 (.q 6 (.q 7 (.q 8 (.q 9 (.q 10 (.q 11 (.q 12 (.q 13 (.q 14 (.nil)))))))))))))))) 14 hs mixed (by kernel_rfl) (fun hs => ?_)
              refine c_q rfl (by first | exact hs | exact hs.subl | exact hs.cellAt rfl | trivial) (fun _ _ _ h => h) (fun w hs => by exact y_mv_slice rfl) ?_
              refine c_q rfl (by first | exact hs | exact hs.subl | exact hs.cellAt rfl | trivial) (fun _ _ _ h => h) (fun w hs => by exact y_len_slice rfl) ?_
              refine c_q rfl (by first | exact hs | exact hs.subl | exact hs.cellAt rfl | trivial) (fun _ _ _ h => h) (fun w hs => by first | exact y_gtr rfl rfl (decide_eq_true (by omega)) | exact y_gtr rfl rfl (decide_eq_false (by omega)) | exact y_gtr rfl rfl rfl) ?_
              refine c_q rfl (by first | exact hs | exact hs.subl | exact hs.cellAt rfl | trivial) (fun _ _ _ h => h) (fun w hs => by exact y_mv_bool rfl) ?_
              first | refine c_gskip rfl (by first | exact hs | exact hs.subl | exact hs.cellAt rfl | trivial) (fun _ _ _ h => h) rfl rfl ?_ | refine c_gskip_u rfl (by first | exact hs | exact hs.subl | exact hs.cellAt rfl | trivial) (fun _ _ _ h => h) rfl rfl ?_ | refine c_gdo rfl (by first | exact hs | exact hs.subl | exact hs.cellAt rfl | trivial) (fun _ _ _ h => h) rfl rfl (fun w hs => by exact y_field rfl) ?_
              first | refine c_gskip rfl (by first | exact hs | exact hs.subl | exact hs.cellAt rfl | trivial) (fun _ _ _ h => h) rfl rfl ?_ | refine c_gskip_u rfl (by first | exact hs | exact hs.subl | exact hs.cellAt rfl | trivial) (fun _ _ _ h => h) rfl rfl ?_ | refine c_gdo rfl (by first | exact hs | exact hs.subl | exact hs.cellAt rfl | trivial) (fun _ _ _ h => h) rfl rfl (fun w hs => by exact y_ld hs rfl rfl) ?_
              first | refine c_gskip rfl (by first | exact hs | exact hs.subl | exact hs.cellAt rfl | trivial) (fun _ _ _ h => h) rfl rfl ?_ | refine c_gskip_u rfl (by first | exact hs | exact hs.subl | exact hs.cellAt rfl | trivial) (fun _ _ _ h => h) rfl rfl ?_ | refine c_gdo rfl (by first | exact hs | exact hs.subl | exact hs.cellAt rfl | trivial) (fun _ _ _ h => h) rfl rfl (fun w hs => by exact y_mv_slice rfl) ?_
              first | refine c_gskip rfl (by first | exact hs | exact hs.subl | exact hs.cellAt rfl | trivial) (fun _ _ _ h => h) rfl rfl ?_ | refine c_gskip_u rfl (by first | exact hs | exact hs.subl | exact hs.cellAt rfl | trivial) (fun _ _ _ h => h) rfl rfl ?_ | refine c_gdo rfl (by first | exact hs | exact hs.subl | exact hs.cellAt rfl | trivial) (fun _ _ _ h => h) rfl rfl (fun w hs => by exact y_mv_slice rfl) ?_
              first | refine c_gskip rfl (by first | exact hs | exact hs.subl | exact hs.cellAt rfl | trivial) (fun _ _ _ h => h) rfl rfl ?_ | refine c_gskip_u rfl (by first | exact hs | exact hs.subl | exact hs.cellAt rfl | trivial) (fun _ _ _ h => h) rfl rfl ?_ | refine c_gdo rfl (by first | exact hs | exact hs.subl | exact hs.cellAt rfl | trivial) (fun _ _ _ h => h) rfl rfl (fun w hs => by exact y_indexT (off := 0) rfl rfl (by omega) (by omega) hnad (by omega)) ?_
              first | refine c_gskip rfl (by first | exact hs | exact hs.subl | exact hs.cellAt rfl | trivial) (fun _ _ _ h => h) rfl rfl ?_ | refine c_gskip_u rfl (by first | exact hs | exact hs.subl | exact hs.cellAt rfl | trivial) (fun _ _ _ h => h) rfl rfl ?_ | refine c_gdo rfl (by first | exact hs | exact hs.subl | exact hs.cellAt rfl | trivial) (fun _ _ _ h => h) rfl rfl (fun w hs => by exact y_ld (v := .int .i64 ((acc.getD 0 0 : Nat) : Int)) hs rfl hncell) ?_
              first | refine c_gskip rfl (by first | exact hs | exact hs.subl | exact hs.cellAt rfl | trivial) (fun _ _ _ h => h) rfl rfl ?_ | refine c_gskip_u rfl (by first | exact hs | exact hs.subl | exact hs.cellAt rfl | trivial) (fun _ _ _ h => h) rfl rfl ?_ | refine c_gdo rfl (by first | exact hs | exact hs.subl | exact hs.cellAt rfl | trivial) (fun _ _ _ h => h) rfl rfl (fun w hs => by exact y_indexT (off := 3 * acc.getD 0 0) rfl rfl (by omega) (by omega) rfl (by omega)) ?_
              first | refine c_gskip rfl (by first | exact hs | exact hs.subl | exact hs.cellAt rfl | trivial) (fun _ _ _ h => h) rfl rfl ?_ | refine c_gskip_u rfl (by first | exact hs | exact hs.subl | exact hs.cellAt rfl | trivial) (fun _ _ _ h => h) rfl rfl ?_ | refine c_gdo rfl (by first | exact hs | exact hs.subl | exact hs.cellAt rfl | trivial) (fun _ _ _ h => h) rfl rfl (fun w hs => by exact y_field rfl) ?_
              first | refine c_gskip rfl (by first | exact hs | exact hs.subl | exact hs.cellAt rfl | trivial) (fun _ _ _ h => h) rfl rfl ?_ | refine c_gskip_u rfl (by first | exact hs | exact hs.subl | exact hs.cellAt rfl | trivial) (fun _ _ _ h => h) rfl rfl ?_ | refine c_gdo rfl (by first | exact hs | exact hs.subl | exact hs.cellAt rfl | trivial) (fun _ _ _ h => h) rfl rfl (fun w hs => by exact y_ld (v := .int .i64 (gS c.l (acc.getD 0 0)).next) hs rfl (flatS_get hhl 0 (by omega))) ?_
              first | refine c_gskip rfl (by first | exact hs | exact hs.subl | exact hs.cellAt rfl | trivial) (fun _ _ _ h => h) rfl rfl ?_ | refine c_gskip_u rfl (by first | exact hs | exact hs.subl | exact hs.cellAt rfl | trivial) (fun _ _ _ h => h) rfl rfl ?_ | refine c_gdo rfl (by first | exact hs | exact hs.subl | exact hs.cellAt rfl | trivial) (fun _ _ _ h => h) rfl rfl (fun w hs => by first | exact y_lss rfl rfl (decide_eq_true (by omega)) | exact y_lss rfl rfl (decide_eq_false (by omega)) | exact y_lss rfl rfl rfl) ?_
              refine c_q rfl (by first | exact hs | exact hs.subl | exact hs.cellAt rfl | trivial) (fun _ _ _ h => h) (fun w hs => by first | exact y_pk_bt rfl rfl | exact y_pk_bf rfl rfl) ?_
              refine c_end ?_
              refine e_then ?_
              refine cond_f rfl ?_
              refine s_skip ?_
              refine e_then ?_
              refine s_seq ?_
              refine r_dr (.q 0 (.q 1 (.q 2 (.q 3 (.q 4 (.q 5 (.q 6 (.q 7 (.q 8 (.q 9 (.q 10 (.q 11 (.q 12 (.q 13 (.q 14 (.nil)))))))))))))))) 14 hs mixed (by kernel_rfl) (fun hs => ?_)
              refine c_q rfl (by first | exact hs | exact hs.subl | exact hs.cellAt rfl | trivial) (fun _ _ _ h => h) (fun w hs => by exact y_mv_slice rfl) ?_
              refine c_q rfl (by first | exact hs | exact hs.subl | exact hs.cellAt rfl | trivial) (fun _ _ _ h => h) (fun w hs => by exact y_len_slice rfl) ?_
              refine c_q rfl (by first | exact hs | exact hs.subl | exact hs.cellAt rfl | trivial) (fun _ _ _ h => h) (fun w hs => by first | exact y_eql rfl rfl (decide_eq_true (by omega)) | exact y_eql rfl rfl (decide_eq_false (by omega)) | exact y_eql rfl rfl rfl) ?_
              refine c_q rfl (by first | exact hs | exact hs.subl | exact hs.cellAt rfl | trivial) (fun _ _ _ h => h) (fun w hs => by exact y_mv_bool rfl) ?_
              first | refine c_gskip rfl (by first | exact hs | exact hs.subl | exact hs.cellAt rfl | trivial) (fun _ _ _ h => h) rfl rfl ?_ | refine c_gskip_u rfl (by first | exact hs | exact hs.subl | exact hs.cellAt rfl | trivial) (fun _ _ _ h => h) rfl rfl ?_ | refine c_gdo rfl (by first | exact hs | exact hs.subl | exact hs.cellAt rfl | trivial) (fun _ _ _ h => h) rfl rfl (fun w hs => by exact y_field rfl) ?_
              first | refine c_gskip rfl (by first | exact hs | exact hs.subl | exact hs.cellAt rfl | trivial) (fun _ _ _ h => h) rfl rfl ?_ | refine c_gskip_u rfl (by first | exact hs | exact hs.subl | exact hs.cellAt rfl | trivial) (fun _ _ _ h => h) rfl rfl ?_ | refine c_gdo rfl (by first | exact hs | exact hs.subl | exact hs.cellAt rfl | trivial) (fun _ _ _ h => h) rfl rfl (fun w hs => by exact y_ld hs rfl rfl) ?_
              first | refine c_gskip rfl (by first | exact hs | exact hs.subl | exact hs.cellAt rfl | trivial) (fun _ _ _ h => h) rfl rfl ?_ | refine c_gskip_u rfl (by first | exact hs | exact hs.subl | exact hs.cellAt rfl | trivial) (fun _ _ _ h => h) rfl rfl ?_ | refine c_gdo rfl (by first | exact hs | exact hs.subl | exact hs.cellAt rfl | trivial) (fun _ _ _ h => h) rfl rfl (fun w hs => by exact y_mv_slice rfl) ?_
              first | refine c_gskip rfl (by first | exact hs | exact hs.subl | exact hs.cellAt rfl | trivial) (fun _ _ _ h => h) rfl rfl ?_ | refine c_gskip_u rfl (by first | exact hs | exact hs.subl | exact hs.cellAt rfl | trivial) (fun _ _ _ h => h) rfl rfl ?_ | refine c_gdo rfl (by first | exact hs | exact hs.subl | exact hs.cellAt rfl | trivial) (fun _ _ _ h => h) rfl rfl (fun w hs => by exact y_mv_slice rfl) ?_
              first | refine c_gskip rfl (by first | exact hs | exact hs.subl | exact hs.cellAt rfl | trivial) (fun _ _ _ h => h) rfl rfl ?_ | refine c_gskip_u rfl (by first | exact hs | exact hs.subl | exact hs.cellAt rfl | trivial) (fun _ _ _ h => h) rfl rfl ?_ | refine c_gdo rfl (by first | exact hs | exact hs.subl | exact hs.cellAt rfl | trivial) (fun _ _ _ h => h) rfl rfl (fun w hs => by exact y_indexT (off := 0) rfl rfl (by omega) (by omega) hnad (by omega)) ?_
              first | refine c_gskip rfl (by first | exact hs | exact hs.subl | exact hs.cellAt rfl | trivial) (fun _ _ _ h => h) rfl rfl ?_ | refine c_gskip_u rfl (by first | exact hs | exact hs.subl | exact hs.cellAt rfl | trivial) (fun _ _ _ h => h) rfl rfl ?_ | refine c_gdo rfl (by first | exact hs | exact hs.subl | exact hs.cellAt rfl | trivial) (fun _ _ _ h => h) rfl rfl (fun w hs => by exact y_ld (v := .int .i64 ((acc.getD 0 0 : Nat) : Int)) hs rfl hncell) ?_
              first | refine c_gskip rfl (by first | exact hs | exact hs.subl | exact hs.cellAt rfl | trivial) (fun _ _ _ h => h) rfl rfl ?_ | refine c_gskip_u rfl (by first | exact hs | exact hs.subl | exact hs.cellAt rfl | trivial) (fun _ _ _ h => h) rfl rfl ?_ | refine c_gdo rfl (by first | exact hs | exact hs.subl | exact hs.cellAt rfl | trivial) (fun _ _ _ h => h) rfl rfl (fun w hs => by exact y_indexT (off := 3 * acc.getD 0 0) rfl rfl (by omega) (by omega) rfl (by omega)) ?_
              first | refine c_gskip rfl (by first | exact hs | exact hs.subl | exact hs.cellAt rfl | trivial) (fun _ _ _ h => h) rfl rfl ?_ | refine c_gskip_u rfl (by first | exact hs | exact hs.subl | exact hs.cellAt rfl | trivial) (fun _ _ _ h => h) rfl rfl ?_ | refine c_gdo rfl (by first | exact hs | exact hs.subl | exact hs.cellAt rfl | trivial) (fun _ _ _ h => h) rfl rfl (fun w hs => by exact y_field rfl) ?_
              first | refine c_gskip rfl (by first | exact hs | exact hs.subl | exact hs.cellAt rfl | trivial) (fun _ _ _ h => h) rfl rfl ?_ | refine c_gskip_u rfl (by first | exact hs | exact hs.subl | exact hs.cellAt rfl | trivial) (fun _ _ _ h => h) rfl rfl ?_ | refine c_gdo rfl (by first | exact hs | exact hs.subl | exact hs.cellAt rfl | trivial) (fun _ _ _ h => h) rfl rfl (fun w hs => by exact y_ld (v := .int .i64 (gS c.l (acc.getD 0 0)).next) hs rfl (flatS_get hhl 0 (by omega))) ?_
              first | refine c_gskip rfl (by first | exact hs | exact hs.subl | exact hs.cellAt rfl | trivial) (fun _ _ _ h => h) rfl rfl ?_ | refine c_gskip_u rfl (by first | exact hs | exact hs.subl | exact hs.cellAt rfl | trivial) (fun _ _ _ h => h) rfl rfl ?_ | refine c_gdo rfl (by first | exact hs | exact hs.subl | exact hs.cellAt rfl | trivial) (fun _ _ _ h => h) rfl rfl (fun w hs => by first | exact y_eql rfl rfl (decide_eq_true (by omega)) | exact y_eql rfl rfl (decide_eq_false (by omega)) | exact y_eql rfl rfl rfl) ?_
              refine c_q rfl (by first | exact hs | exact hs.subl | exact hs.cellAt rfl | trivial) (fun _ _ _ h => h) (fun w hs => by first | exact y_pk_bt rfl rfl | exact y_pk_bf rfl rfl) ?_
              refine c_end ?_
              refine e_then ?_
              refine cond_t rfl ?_
              refine s_reg ?_
              refine l_q (by exact y_mv_slice rfl) ?_
              refine l_q (by exact y_mv_int rfl) ?_
              refine l_w (w_buildSlice (pv := [(0, .int .i64 _)]) (vs := [_]) hs rfl rfl rfl rfl (fun b78 w hs hb78 => ?_))
              first | refine l_w (w_append (ys := [_]) [(b78, _), (b11, _)] hs nok rfl rfl rfl rfl rfl rfl (.inl (by decide)) (by decide) (by omega) (fun now' w nok' hng' hs => ?_)) | refine l_w (w_append (s := OS.nl) (xs := []) (len := 0) (ys := [_]) [(b78, _), (b11, _)] hs (OS.ok_nl 1) rfl rfl rfl rfl rfl rfl (.inl (by decide)) (by decide) (by omega) (fun now' w nok' hng' hs => ?_))
              refine l_q (by exact y_as_slice rfl) ?_
              refine l_end ?_
              refine e_blk ?_
              refine e_then ?_
              refine s_reg ?_
              refine l_q (by first | exact y_addn rfl rfl (by omega) | exact y_add rfl rfl rfl) ?_
              refine l_q (by exact y_mv_int rfl) ?_
              refine l_end ?_
              refine e_then ?_
              exact ⟨(i + 1, now'), _, nx ⟨rfl, rfl, rfl, rfl, rfl, by dsimp only; rw [e, List.length_append]; rfl, rfl, rfl, rfl, trivial⟩, ⟨by dsimp only; rw [e]; simpa [nI] using hs.tail.tail, by dsimp only; rw [e]; simpa [nI] using nok', by dsimp only; omega⟩, by dsimp only; omega⟩
            · have e : nowF c.l (i + 1) = acc := by
                rw [hst]; unfold nowStep; rw [if_neg s0]
                have : ¬ (acc ≠ [] ∧ (gS c.l i).next < (gS c.l (acc.getD 0 0)).next) := fun h => c2 h.2
                simp only [if_neg this, ce, false_or, if_neg c3]
              refine s_seq ?_
              refine s_reg ?_
              refine l_q (by first | exact y_lss rfl rfl (decide_eq_true (by omega)) | exact y_lss rfl rfl (decide_eq_false (by omega)) | exact y_lss rfl rfl rfl) ?_
              refine l_end ?_
              refine e_then ?_
              refine s_seq ?_
              refine cond_t rfl ?_
              refine s_skip ?_
              refine e_then ?_
              refine s_seq ?_
              refine s_block ?_
              refine s_seq ?_
              refine s_reg ?_
              refine l_q (by exact y_mv_int rfl) ?_
              refine l_q (by exact y_indexT (off := 3 * i) rfl rfl (by omega) (by omega) rfl (by omega)) ?_
              refine l_q (by exact y_ldA (vs := [I64 (gS c.l i).next, I64 (gS c.l i).tries, I64 (gS c.l i).sent]) hs rfl (flatS_room hil 3 (by omega)) (flatS_take hil)) ?_
              refine l_w (w_alloc (cs := [_, _, _]) hs rfl (fun b11 w hs hb11 => ?_))
              refine l_q (by exact y_as_int rfl) ?_
              refine l_w (w_storeA (vs := [_, _, _]) hs rfl rfl rfl rfl rfl (fun w hs => ?_))
              refine l_end ?_
              refine e_then ?_
              refine s_seq ?_
              refine s_seq ?_
              refine s_reg ?_
              refine l_q (by exact y_field rfl) ?_
              refine l_q (by exact y_ld hs rfl rfl) ?_
              refine l_q (by first | exact y_lss rfl rfl (decide_eq_true (by omega)) | exact y_lss rfl rfl (decide_eq_false (by omega)) | exact y_lss rfl rfl rfl) ?_
              refine l_end ?_
              refine e_then ?_
              refine cond_f rfl ?_
              refine s_skip ?_
              refine e_then ?_
              refine s_seq ?_
              refine s_seq ?_
              refine r_dr (.q 0 (.q 1 (.q 2 (.q 3 (.q 4 (.q 5 (.q 6 (.q 7 (.q 8 (.q 9 (.q 10 (.q 11 (.q 12 (.q 13 (.q 14 (.nil)))))))))))))))) 14 hs mixed (by kernel_rfl) (fun hs => ?_)
              refine c_q rfl (by first | exact hs | exact hs.subl | exact hs.cellAt rfl | trivial) (fun _ _ _ h => h) (fun w hs => by exact y_mv_slice rfl) ?_
              refine c_q rfl (by first | exact hs | exact hs.subl | exact hs.cellAt rfl | trivial) (fun _ _ _ h => h) (fun w hs => by exact y_len_slice rfl) ?_
              refine c_q rfl (by first | exact hs | exact hs.subl | exact hs.cellAt rfl | trivial) (fun _ _ _ h => h) (fun w hs => by first | exact y_gtr rfl rfl (decide_eq_true (by omega)) | exact y_gtr rfl rfl (decide_eq_false (by omega)) | exact y_gtr rfl rfl rfl) ?_
              refine c_q rfl (by first | exact hs | exact hs.subl | exact hs.cellAt rfl | trivial) (fun _ _ _ h => h) (fun w hs => by exact y_mv_bool rfl) ?_
              first | refine c_gskip rfl (by first | exact hs | exact hs.subl | exact hs.cellAt rfl | trivial) (fun _ _ _ h => h) rfl rfl ?_ | refine c_gskip_u rfl (by first | exact hs | exact hs.subl | exact hs.cellAt rfl | trivial) (fun _ _ _ h => h) rfl rfl ?_ | refine c_gdo rfl (by first | exact hs | exact hs.subl | exact hs.cellAt rfl | trivial) (fun _ _ _ h => h) rfl rfl (fun w hs => by exact y_field rfl) ?_
              first | refine c_gskip rfl (by first | exact hs | exact hs.subl | exact hs.cellAt rfl | trivial) (fun _ _ _ h => h) rfl rfl ?_ | refine c_gskip_u rfl (by first | exact hs | exact hs.subl | exact hs.cellAt rfl | trivial) (fun _ _ _ h => h) rfl rfl ?_ | refine c_gdo rfl (by first | exact hs | exact hs.subl | exact hs.cellAt rfl | trivial) (fun _ _ _ h => h) rfl rfl (fun w hs => by exact y_ld hs rfl rfl) ?_
              first | refine c_gskip rfl (by first | exact hs | exact hs.subl | exact hs.cellAt rfl | trivial) (fun _ _ _ h => h) rfl rfl ?_ | refine c_gskip_u rfl (by first | exact hs | exact hs.subl | exact hs.cellAt rfl | trivial) (fun _ _ _ h => h) rfl rfl ?_ | refine c_gdo rfl (by first | exact hs | exact hs.subl | exact hs.cellAt rfl | trivial) (fun _ _ _ h => h) rfl rfl (fun w hs => by exact y_mv_slice rfl) ?_
              first | refine c_gskip rfl (by first | exact hs | exact hs.subl | exact hs.cellAt rfl | trivial) (fun _ _ _ h => h) rfl rfl ?_ | refine c_gskip_u rfl (by first | exact hs | exact hs.subl | exact hs.cellAt rfl | trivial) (fun _ _ _ h => h) rfl rfl ?_ | refine c_gdo rfl (by first | exact hs | exact hs.subl | exact hs.cellAt rfl | trivial) (fun _ _ _ h => h) rfl rfl (fun w hs => by exact y_mv_slice rfl) ?_
              first | refine c_gskip rfl (by first | exact hs | exact hs.subl | exact hs.cellAt rfl | trivial) (fun _ _ _ h => h) rfl rfl ?_ | refine c_gskip_u rfl (by first | exact hs | exact hs.subl | exact hs.cellAt rfl | trivial) (fun _ _ _ h => h) rfl rfl ?_ | refine c_gdo rfl (by first | exact hs | exact hs.subl | exact hs.cellAt rfl | trivial) (fun _ _ _ h => h) rfl rfl (fun w hs => by exact y_indexT (off := 0) rfl rfl (by omega) (by omega) hnad (by omega)) ?_
              first | refine c_gskip rfl (by first | exact hs | exact hs.subl | exact hs.cellAt rfl | trivial) (fun _ _ _ h => h) rfl rfl ?_ | refine c_gskip_u rfl (by first | exact hs | exact hs.subl | exact hs.cellAt rfl | trivial) (fun _ _ _ h => h) rfl rfl ?_ | refine c_gdo rfl (by first | exact hs | exact hs.subl | exact hs.cellAt rfl | trivial) (fun _ _ _ h => h) rfl rfl (fun w hs => by exact y_ld (v := .int .i64 ((acc.getD 0 0 : Nat) : Int)) hs rfl hncell) ?_
              first | refine c_gskip rfl (by first | exact hs | exact hs.subl | exact hs.cellAt rfl | trivial) (fun _ _ _ h => h) rfl rfl ?_ | refine c_gskip_u rfl (by first | exact hs | exact hs.subl | exact hs.cellAt rfl | trivial) (fun _ _ _ h => h) rfl rfl ?_ | refine c_gdo rfl (by first | exact hs | exact hs.subl | exact hs.cellAt rfl | trivial) (fun _ _ _ h => h) rfl rfl (fun w hs => by exact y_indexT (off := 3 * acc.getD 0 0) rfl rfl (by omega) (by omega) rfl (by omega)) ?_
              first | refine c_gskip rfl (by first | exact hs | exact hs.subl | exact hs.cellAt rfl | trivial) (fun _ _ _ h => h) rfl rfl ?_ | refine c_gskip_u rfl (by first | exact hs | exact hs.subl | exact hs.cellAt rfl | trivial) (fun _ _ _ h => h) rfl rfl ?_ | refine c_gdo rfl (by first | exact hs | exact hs.subl | exact hs.cellAt rfl | trivial) (fun _ _ _ h => h) rfl rfl (fun w hs => by exact y_field rfl) ?_
              first | refine c_gskip rfl (by first | exact hs | exact hs.subl | exact hs.cellAt rfl | trivial) (fun _ _ _ h => h) rfl rfl ?_ | refine c_gskip_u rfl (by first | exact hs | exact hs.subl | exact hs.cellAt rfl | trivial) (fun _ _ _ h => h) rfl rfl ?_ | refine c_gdo rfl (by first | exact hs | exact hs.subl | exact hs.cellAt rfl | trivial) (fun _ _ _ h => h) rfl rfl (fun w hs => by exact y_ld (v := .int .i64 (gS c.l (acc.getD 0 0)).next) hs rfl (flatS_get hhl 0 (by omega))) ?_
              first | refine c_gskip rfl (by first | exact hs | exact hs.subl | exact hs.cellAt rfl | trivial) (fun _ _ _ h => h) rfl rfl ?_ | refine c_gskip_u rfl (by first | exact hs | exact hs.subl | exact hs.cellAt rfl | trivial) (fun _ _ _ h => h) rfl rfl ?_ | refine c_gdo rfl (by first | exact hs | exact hs.subl | exact hs.cellAt rfl | trivial) (fun _ _ _ h => h) rfl rfl (fun w hs => by first | exact y_lss rfl rfl (decide_eq_true (by omega)) | exact y_lss rfl rfl (decide_eq_false (by omega)) | exact y_lss rfl rfl rfl) ?_
              refine c_q rfl (by first | exact hs | exact hs.subl | exact hs.cellAt rfl | trivial) (fun _ _ _ h => h) (fun w hs => by first | exact y_pk_bt rfl rfl | exact y_pk_bf rfl rfl) ?_
              refine c_end ?_
              refine e_then ?_
              refine cond_f rfl ?_
              refine s_skip ?_
              refine e_then ?_
              refine s_seq ?_
              refine r_dr (.q 0 (.q 1 (.q 2 (.q 3 (.q 4 (.q 5 (.q 6 (.q 7 (.q 8 (.q 9 (.q 10 (.q 11 (.q 12 (.q 13 (.q 14 (.nil)))))))))))))))) 14 hs mixed (by kernel_rfl) (fun hs => ?_)
              refine c_q rfl (by first | exact hs | exact hs.subl | exact hs.cellAt rfl | trivial) (fun _ _ _ h => h) (fun w hs => by exact y_mv_slice rfl) ?_
              refine c_q rfl (by first | exact hs | exact hs.subl | exact hs.cellAt rfl | trivial) (fun _ _ _ h => h) (fun w hs => by exact y_len_slice rfl) ?_
              refine c_q rfl (by first | exact hs | exact hs.subl | exact hs.cellAt rfl | trivial) (fun _ _ _ h => h) (fun w hs => by first | exact y_eql rfl rfl (decide_eq_true (by omega)) | exact y_eql rfl rfl (decide_eq_false (by omega)) | exact y_eql rfl rfl rfl) ?_
              refine c_q rfl (by first | exact hs | exact hs.subl | exact hs.cellAt rfl | trivial) (fun _ _ _ h => h) (fun w hs => by exact y_mv_bool rfl) ?_
              first | refine c_gskip rfl (by first | exact hs | exact hs.subl | exact hs.cellAt rfl | trivial) (fun _ _ _ h => h) rfl rfl ?_ | refine c_gskip_u rfl (by first | exact hs | exact hs.subl | exact hs.cellAt rfl | trivial) (fun _ _ _ h => h) rfl rfl ?_ | refine c_gdo rfl (by first | exact hs | exact hs.subl | exact hs.cellAt rfl | trivial) (fun _ _ _ h => h) rfl rfl (fun w hs => by exact y_field rfl) ?_
              first | refine c_gskip rfl (by first | exact hs | exact hs.subl | exact hs.cellAt rfl | trivial) (fun _ _ _ h => h) rfl rfl ?_ | refine c_gskip_u rfl (by first | exact hs | exact hs.subl | exact hs.cellAt rfl | trivial) (fun _ _ _ h => h) rfl rfl ?_ | refine c_gdo rfl (by first | exact hs | exact hs.subl | exact hs.cellAt rfl | trivial) (fun _ _ _ h => h) rfl rfl (fun w hs => by exact y_ld hs rfl rfl) ?_
              first | refine c_gskip rfl (by first | exact hs | exact hs.subl | exact hs.cellAt rfl | trivial) (fun _ _ _ h => h) rfl rfl ?_ | refine c_gskip_u rfl (by first | exact hs | exact hs.subl | exact hs.cellAt rfl | trivial) (fun _ _ _ h => h) rfl rfl ?_ | refine c_gdo rfl (by first | exact hs | exact hs.subl | exact hs.cellAt rfl | trivial) (fun _ _ _ h => h) rfl rfl (fun w hs => by exact y_mv_slice rfl) ?_
              first | refine c_gskip rfl (by first | exact hs | exact hs.subl | exact hs.cellAt rfl | trivial) (fun _ _ _ h => h) rfl rfl ?_ | refine c_gskip_u rfl (by first | exact hs | exact hs.subl | exact hs.cellAt rfl | trivial) (fun _ _ _ h => h) rfl rfl ?_ | refine c_gdo rfl (by first | exact hs | exact hs.subl | exact hs.cellAt rfl | trivial) (fun _ _ _ h => h) rfl rfl (fun w hs => by exact y_mv_slice rfl) ?_
              first | refine c_gskip rfl (by first | exact hs | exact hs.subl | exact hs.cellAt rfl | trivial) (fun _ _ _ h => h) rfl rfl ?_ | refine c_gskip_u rfl (by first | exact hs | exact hs.subl | exact hs.cellAt rfl | trivial) (fun _ _ _ h => h) rfl rfl ?_ | refine c_gdo rfl (by first | exact hs | exact hs.subl | exact hs.cellAt rfl | trivial) (fun _ _ _ h => h) rfl rfl (fun w hs => by exact y_indexT (off := 0) rfl rfl (by omega) (by omega) hnad (by omega)) ?_
              first | refine c_gskip rfl (by first | exact hs | exact hs.subl | exact hs.cellAt rfl | trivial) (fun _ _ _ h => h) rfl rfl ?_ | refine c_gskip_u rfl (by first | exact hs | exact hs.subl | exact hs.cellAt rfl | trivial) (fun _ _ _ h => h) rfl rfl ?_ | refine c_gdo rfl (by first | exact hs | exact hs.subl | exact hs.cellAt rfl | trivial) (fun _ _ _ h => h) rfl rfl (fun w hs => by exact y_ld (v := .int .i64 ((acc.getD 0 0 : Nat) : Int)) hs rfl hncell) ?_
              first | refine c_gskip rfl (by first | exact hs | exact hs.subl | exact hs.cellAt rfl | trivial) (fun _ _ _ h => h) rfl rfl ?_ | refine c_gskip_u rfl (by first | exact hs | exact hs.subl | exact hs.cellAt rfl | trivial) (fun _ _ _ h => h) rfl rfl ?_ | refine c_gdo rfl (by first | exact hs | exact hs.subl | exact hs.cellAt rfl | trivial) (fun _ _ _ h => h) rfl rfl (fun w hs => by exact y_indexT (off := 3 * acc.getD 0 0) rfl rfl (by omega) (by omega) rfl (by omega)) ?_
              first | refine c_gskip rfl (by first | exact hs | exact hs.subl | exact hs.cellAt rfl | trivial) (fun _ _ _ h => h) rfl rfl ?_ | refine c_gskip_u rfl (by first | exact hs | exact hs.subl | exact hs.cellAt rfl | trivial) (fun _ _ _ h => h) rfl rfl ?_ | refine c_gdo rfl (by first | exact hs | exact hs.subl | exact hs.cellAt rfl | trivial) (fun _ _ _ h => h) rfl rfl (fun w hs => by exact y_field rfl) ?_
              first | refine c_gskip rfl (by first | exact hs | exact hs.subl | exact hs.cellAt rfl | trivial) (fun _ _ _ h => h) rfl rfl ?_ | refine c_gskip_u rfl (by first | exact hs | exact hs.subl | exact hs.cellAt rfl | trivial) (fun _ _ _ h => h) rfl rfl ?_ | refine c_gdo rfl (by first | exact hs | exact hs.subl | exact hs.cellAt rfl | trivial) (fun _ _ _ h => h) rfl rfl (fun w hs => by exact y_ld (v := .int .i64 (gS c.l (acc.getD 0 0)).next) hs rfl (flatS_get hhl 0 (by omega))) ?_
              first | refine c_gskip rfl (by first | exact hs | exact hs.subl | exact hs.cellAt rfl | trivial) (fun _ _ _ h => h) rfl rfl ?_ | refine c_gskip_u rfl (by first | exact hs | exact hs.subl | exact hs.cellAt rfl | trivial) (fun _ _ _ h => h) rfl rfl ?_ | refine c_gdo rfl (by first | exact hs | exact hs.subl | exact hs.cellAt rfl | trivial) (fun _ _ _ h => h) rfl rfl (fun w hs => by first | exact y_eql rfl rfl (decide_eq_true (by omega)) | exact y_eql rfl rfl (decide_eq_false (by omega)) | exact y_eql rfl rfl rfl) ?_
              refine c_q rfl (by first | exact hs | exact hs.subl | exact hs.cellAt rfl | trivial) (fun _ _ _ h => h) (fun w hs => by first | exact y_pk_bt rfl rfl | exact y_pk_bf rfl rfl) ?_
              refine c_end ?_
              refine e_then ?_
              refine cond_f rfl ?_
              refine s_skip ?_
              refine e_blk ?_
              refine e_then ?_
              refine s_reg ?_
              refine l_q (by first | exact y_addn rfl rfl (by omega) | exact y_add rfl rfl rfl) ?_
              refine l_q (by exact y_mv_int rfl) ?_
              refine l_end ?_
              refine e_then ?_
              exact ⟨(i + 1, now), _, nx ⟨rfl, rfl, rfl, rfl, rfl, by dsimp only; rw [e]; rfl, rfl, rfl, rfl, trivial⟩, ⟨by dsimp only; rw [e]; exact hs.tail, by dsimp only; rw [e]; exact nok, by dsimp only; omega⟩, by dsimp only; omega⟩
    · have hin : n = i := by omega
      subst hin
      have hne := hR.ne
      have hRh := hR.hd
      have hRs := hR.slot
      have hRa := hR.all
      have hacl := now_len c.l n
      have hslot : slotC c = (gS c.l ((nowF c.l n).getD 0 0)).next := by unfold slotC; rw [hcl]
      have hRc : roundC len z c = if (nowF c.l n).length = 1 then sendC c ((nowF c.l n).getD 0 0) (slotC c) else (nowF c.l n).foldl (retryC len z (slotC c)) c := by unfold roundC; rw [hcl]
      have hnd := (now_ok c.l n).nd
      have hleft : c.left ≤ 8 := by
        have h1 := hwf.left
        have h2 := sum_le (f := pendS) (b := 1) c.l (fun i _ => by unfold pendS; split <;> omega)
        omega
      generalize hacc : nowF c.l n = acc at *
      have hz : acc.length ≠ 0 := fun h => hne (List.length_eq_zero_iff.1 h)
      obtain ⟨g, hng, hnad, hncell⟩ := own_now nok (j := 0) (by omega)
      haveI := inl_blk hng ((nI acc).map I64) 3
      have hhl : acc.getD 0 0 < c.l.length := by omega
      by_cases h1 : acc.length = 1
      · rw [if_pos h1] at hRc
        refine s_seq ?_
        refine s_reg ?_
        refine l_q (by first | exact y_lss rfl rfl (decide_eq_true (by omega)) | exact y_lss rfl rfl (decide_eq_false (by omega)) | exact y_lss rfl rfl rfl) ?_
        refine l_end ?_
        refine e_then ?_
        refine s_seq ?_
        refine cond_f rfl ?_
        refine s_exit ?_
        refine e_then_x ?_
        refine e_then_x ?_
        refine e_blk_x ?_
        refine e_then ?_
        refine s_seq ?_
        refine s_reg ?_
        refine l_q (by exact y_mv_slice rfl) ?_
        refine l_q (by exact y_mv_slice rfl) ?_
        refine l_q (by exact y_indexT (off := 0) rfl rfl (by omega) (by omega) hnad (by omega)) ?_
        refine l_q (by exact y_ld (v := .int .i64 ((acc.getD 0 0 : Nat) : Int)) hs rfl hncell) ?_
        refine l_q (by exact y_indexT (off := 3 * acc.getD 0 0) rfl rfl (by omega) (by omega) rfl (by omega)) ?_
        refine l_q (by exact y_field rfl) ?_
        refine l_q (by exact y_ld (v := .int .i64 (gS c.l (acc.getD 0 0)).next) hs rfl (flatS_get hhl 0 (by omega))) ?_
        refine l_q (by exact y_as_int rfl) ?_
        refine l_end ?_
        refine e_then ?_
        refine s_seq ?_
        refine s_seq ?_
        refine s_reg ?_
        refine l_q (by exact y_mv_slice rfl) ?_
        refine l_q (by exact y_len_slice rfl) ?_
        refine l_q (by first | exact y_eql rfl rfl (decide_eq_true (by omega)) | exact y_eql rfl rfl (decide_eq_false (by omega)) | exact y_eql rfl rfl rfl) ?_
        refine l_end ?_
        refine e_then ?_
        refine cond_t rfl ?_
        refine s_seq ?_
        refine r_draw (.q 0 (.q 1 (.q 2 (.q 3 (.q 4 (.q 5 (.q 6 (.q 7 (.q 8 (.q 9 (.q 10 (.w 11 (.q 12 (.q 13 (.w 14 (.nil)))))))))))))))) 14 (fun w => St W0 w (now.blk ((nI acc).map I64) 3 ++ [])) mixed (by kernel_rfl) ?_
        have hs := hs.drew
        refine c_q rfl (by first | exact hs | exact hs.subl | exact hs.cellAt rfl | trivial) (fun _ _ _ h => h) (fun w hs => by exact y_mv_slice rfl) ?_
        refine c_q rfl (by first | exact hs | exact hs.subl | exact hs.cellAt rfl | trivial) (fun _ _ _ h => h) (fun w hs => by exact y_mv_slice rfl) ?_
        refine c_q rfl (by first | exact hs | exact hs.subl | exact hs.cellAt rfl | trivial) (fun _ _ _ h => h) (fun w hs => by exact y_indexT (off := 0) rfl rfl (by omega) (by omega) hnad (by omega)) ?_
        refine c_q rfl (by first | exact hs | exact hs.subl | exact hs.cellAt rfl | trivial) (fun _ _ _ h => h) (fun w hs => by exact y_ld (v := .int .i64 ((acc.getD 0 0 : Nat) : Int)) hs rfl hncell) ?_
        refine c_q rfl (by first | exact hs | exact hs.subl | exact hs.cellAt rfl | trivial) (fun _ _ _ h => h) (fun w hs => by exact y_mv_slice rfl) ?_
        refine c_q rfl (by first | exact hs | exact hs.subl | exact hs.cellAt rfl | trivial) (fun _ _ _ h => h) (fun w hs => by exact y_mv_slice rfl) ?_
        refine c_q rfl (by first | exact hs | exact hs.subl | exact hs.cellAt rfl | trivial) (fun _ _ _ h => h) (fun w hs => by exact y_indexT (off := 0) rfl rfl (by omega) (by omega) hnad (by omega)) ?_
        refine c_q rfl (by first | exact hs | exact hs.subl | exact hs.cellAt rfl | trivial) (fun _ _ _ h => h) (fun w hs => by exact y_ld (v := .int .i64 ((acc.getD 0 0 : Nat) : Int)) hs rfl hncell) ?_
        refine c_q rfl (by first | exact hs | exact hs.subl | exact hs.cellAt rfl | trivial) (fun _ _ _ h => h) (fun w hs => by exact y_mv_int rfl) ?_
        refine c_q rfl (by first | exact hs | exact hs.subl | exact hs.cellAt rfl | trivial) (fun _ _ _ h => h) (fun w hs => by exact y_indexT (off := 3 * acc.getD 0 0) rfl rfl (by omega) (by omega) rfl (by omega)) ?_
        refine c_q rfl (by first | exact hs | exact hs.subl | exact hs.cellAt rfl | trivial) (fun _ _ _ h => h) (fun w hs => by exact y_field rfl) ?_
        refine c_w rfl (w_store (v := .int .i64 (gS c.l (acc.getD 0 0)).next) (off := 3 * acc.getD 0 0 + 2) hs rfl rfl rfl (flatS_room hhl 3 (by omega)) (fun w hs => ?_))
        rw [flatS_set hhl 2 (by omega) (s := ⟨(gS c.l (acc.getD 0 0)).next, (gS c.l (acc.getD 0 0)).tries, (gS c.l (acc.getD 0 0)).next⟩) rfl] at hs
        refine ⟨fun _ => by first | exact hs | exact hs.subl | exact hs.cellAt rfl | trivial, ?_⟩
        refine c_q rfl (by first | exact hs | exact hs.subl | exact hs.cellAt rfl | trivial) (fun _ _ _ h => h) (fun w hs => by exact y_indexT (off := 3 * acc.getD 0 0) rfl rfl (by omega) (by omega) rfl (by omega)) ?_
        refine c_q rfl (by first | exact hs | exact hs.subl | exact hs.cellAt rfl | trivial) (fun _ _ _ h => h) (fun w hs => by exact y_field rfl) ?_
        refine c_w rfl (w_store (v := .int .i64 (-1)) (off := 3 * acc.getD 0 0 + 0) hs rfl rfl rfl (flatS_room (by rw [List.length_set]; exact hhl) 1 (by omega)) (fun w hs => ?_))
        refine ⟨fun h => absurd rfl h, ?_⟩
        refine c_end ?_
        refine e_then ?_
        refine s_seq ?_
        refine s_reg ?_
        refine l_q (by exact y_mv_int rfl) ?_
        refine l_q (by exact y_toInt (b := ((c.left - 1 : Nat) : Int)) (y_subn rfl rfl (by omega)) (by omega)) ?_
        refine l_q (by exact y_as_int rfl) ?_
        refine l_end ?_
        refine e_then ?_
        refine s_exit ?_
        refine e_then_x ?_
        refine e_blk_x ?_
        refine e_then ?_
        rw [flatS_set (by rw [List.length_set]; exact hhl) 0 (by omega) (s := ⟨-1, (gS c.l (acc.getD 0 0)).tries, (gS c.l (acc.getD 0 0)).next⟩) (by rw [gS_set hhl, if_pos rfl]; rfl), List.set_set] at hs
        refine ⟨(k, roundC len z c), _, nx ⟨rfl, rfl, rfl, by dsimp only; rw [hRc]; rfl, by dsimp only; rw [hRc]; rfl, trivial⟩, ⟨?_, hwf', hk⟩, by dsimp only; omega⟩
        dsimp only
        rw [hRc, hslot]
        exact hs.sub (List.sublist_append_right _ _)
      · rw [if_neg h1] at hRc
        obtain ⟨sv, hsv⟩ : ∃ sv, (gS c.l (acc.getD 0 0)).next = sv := ⟨_, rfl⟩
        refine s_seq ?_
        refine s_reg ?_
        refine l_q (by first | exact y_lss rfl rfl (decide_eq_true (by omega)) | exact y_lss rfl rfl (decide_eq_false (by omega)) | exact y_lss rfl rfl rfl) ?_
        refine l_end ?_
        refine e_then ?_
        refine s_seq ?_
        refine cond_f rfl ?_
        refine s_exit ?_
        refine e_then_x ?_
        refine e_then_x ?_
        refine e_blk_x ?_
        refine e_then ?_
        refine s_seq ?_
        refine s_reg ?_
        refine l_q (by exact y_mv_slice rfl) ?_
        refine l_q (by exact y_mv_slice rfl) ?_
        refine l_q (by exact y_indexT (off := 0) rfl rfl (by omega) (by omega) hnad (by omega)) ?_
        refine l_q (by exact y_ld (v := .int .i64 ((acc.getD 0 0 : Nat) : Int)) hs rfl hncell) ?_
        refine l_q (by exact y_indexT (off := 3 * acc.getD 0 0) rfl rfl (by omega) (by omega) rfl (by omega)) ?_
        refine l_q (by exact y_field rfl) ?_
        refine l_q (by exact y_ld (v := .int .i64 (gS c.l (acc.getD 0 0)).next) hs rfl (flatS_get hhl 0 (by omega))) ?_
        refine l_q (by exact y_as_int rfl) ?_
        refine l_end ?_
        refine e_then ?_
        refine s_seq ?_
        refine s_seq ?_
        refine s_reg ?_
        refine l_q (by exact y_mv_slice rfl) ?_
        refine l_q (by exact y_len_slice rfl) ?_
        refine l_q (by first | exact y_eql rfl rfl (decide_eq_true (by omega)) | exact y_eql rfl rfl (decide_eq_false (by omega)) | exact y_eql rfl rfl rfl) ?_
        refine l_end ?_
        refine e_then ?_
        refine cond_f rfl ?_
        refine s_skip ?_
        refine e_then ?_
        refine s_seq ?_
        refine s_reg ?_
        refine l_q (by exact y_mv_slice rfl) ?_
        refine l_q (by exact y_len_slice rfl) ?_
        refine l_q (by exact y_mv_int rfl) ?_
        refine l_end ?_
        refine e_then ?_
        refine s_block ?_
        refine loop_st (X := Nat) (fun j => [(0, I64 n), (1, .slice a len cap), (6, .slice (some ⟨b32, 0, none⟩) n n), (7, I64 ((acc.take j).foldl (retryC len z sv) c).used), (8, I64 ((acc.take j).foldl (retryC len z sv) c).left), (12, I64 sv), (106, .slice now.ad acc.length now.cap), (107, I64 acc.length), (108, I64 j)])
          (fun j w => St W0 w (now.blk ((nI acc).map I64) 3 ++ ((b32, .cells (flatS ((acc.take j).foldl (retryC len z sv) c).l) 39) :: L)) ∧ j ≤ acc.length) (fun j => acc.length - j) 0 ⟨rfl, rfl, rfl, rfl, rfl, by rw [← hsv]; rfl, rfl, rfl, rfl, trivial⟩ ⟨hs, by omega⟩ ?_
        rw [hsv] at hslot
        clear hs hnad hncell hsv
        rintro j ρ w ⟨hs, j1⟩
        by_cases cj : j < acc.length
        · obtain ⟨g2, hng2, hnad, hncell⟩ := own_now nok cj
          have e2 : g2 = g := by rw [hng] at hng2; exact (Option.some.inj hng2).symm
          subst e2
          obtain ⟨hin2, his⟩ := hRa _ (mem_getDn cj)
          have F := fold_retry (len := len) (z := z) (slot := sv) (by omega) (acc.take j) c hwf (fun i hi => by rw [← hslot]; exact hRa i (List.mem_of_mem_take hi)) (hnd.sublist (List.take_sublist _ _))
          have hFw := F.1
          have hkeep := fold_keep (len := len) (z := z) (slot := sv) (acc.take j) c _ (not_take hnd cj) (fun i hi => by have := (hRa i (List.mem_of_mem_take hi)).1; omega)
          have hcs : (acc.take (j + 1)).foldl (retryC len z sv) c = retryC len z sv ((acc.take j).foldl (retryC len z sv) c) (acc.getD j 0) := by rw [take_getD cj, List.foldl_append]; rfl
          generalize (acc.take j).foldl (retryC len z sv) c = d at *
          clear F
          have hdn : (gS d.l (acc.getD j 0)).next = sv := by rw [hkeep, his, hslot]
          have hil : acc.getD j 0 < d.l.length := by rw [hFw.len]; omega
          have hE := hFw.each _ hin2
          have ht := hE.t (by omega)
          have hdl := hFw.left
          have hdu := hFw.used
          have hpp := pend_pos hil (by omega)
          have hsu := sum_le (f := Stn.tries) (b := 17) d.l (fun i hi => (hFw.each i (by rw [← hFw.len]; exact hi)).t17)
          have hsu2 := sum_le (f := pendS) (b := 1) d.l (fun i _ => by unfold pendS; split <;> omega)
          have hdn2 := hFw.len
          generalize hl1 : d.l.set (acc.getD j 0) ⟨(gS d.l (acc.getD j 0)).next, (gS d.l (acc.getD j 0)).tries + 1, (gS d.l (acc.getD j 0)).sent⟩ = l1
          have hil1 : acc.getD j 0 < l1.length := by rw [← hl1, List.length_set]; exact hil
          have hg1 : gS l1 (acc.getD j 0) = ⟨(gS d.l (acc.getD j 0)).next, (gS d.l (acc.getD j 0)).tries + 1, (gS d.l (acc.getD j 0)).sent⟩ := by rw [← hl1, gS_set hil, if_pos rfl]
          have hset : ∀ s, l1.set (acc.getD j 0) s = d.l.set (acc.getD j 0) s := fun s => by rw [← hl1, List.set_set]
          by_cases ct : 16 < (gS d.l (acc.getD j 0)).tries + 1
          · have hd' : (acc.take (j + 1)).foldl (retryC len z sv) c = ⟨d.l.set (acc.getD j 0) ⟨-1, (gS d.l (acc.getD j 0)).tries + 1, -1⟩, d.used, d.left - 1⟩ := by rw [hcs]; unfold retryC; rw [if_pos ct]
            refine s_seq ?_
            refine s_reg ?_
            refine l_q (by first | exact y_lss rfl rfl (decide_eq_true (by omega)) | exact y_lss rfl rfl (decide_eq_false (by omega)) | exact y_lss rfl rfl rfl) ?_
            refine l_end ?_
            refine e_then ?_
            refine s_seq ?_
            refine cond_t rfl ?_
            refine s_skip ?_
            refine e_then ?_
            refine s_seq ?_
            refine s_block ?_
            refine s_seq ?_
            refine s_reg ?_
            refine l_q (by exact y_indexT (off := j) rfl rfl (by omega) (by omega) hnad (by omega)) ?_
            refine l_q (by exact y_ld (v := .int .i64 ((acc.getD j 0 : Nat) : Int)) hs rfl hncell) ?_
            refine l_q (by exact y_as_int rfl) ?_
            refine l_end ?_
            refine e_then ?_
            refine s_seq ?_
            refine s_reg ?_
            refine l_q (by exact y_mv_slice rfl) ?_
            refine l_q (by exact y_mv_int rfl) ?_
            refine l_q (by exact y_indexT (off := 3 * acc.getD j 0) rfl rfl (by omega) (by omega) rfl (by omega)) ?_
            refine l_q (by exact y_as_ptr rfl) ?_
            refine l_end ?_
            refine e_then ?_
            refine s_seq ?_
            refine s_seq ?_
            refine s_reg ?_
            refine l_q (by exact y_mv_ptr rfl) ?_
            refine l_q (by first | exact y_nil rfl | exact y_nilf rfl) ?_
            refine l_q (by exact y_field rfl) ?_
            refine l_q (by exact y_ld (v := .int .i64 ((gS d.l (acc.getD j 0)).tries : Nat)) hs rfl (flatS_get hil 1 (by omega))) ?_
            refine l_q (by exact y_toInt (b := (((gS d.l (acc.getD j 0)).tries + 1 : Nat) : Int)) (y_addn rfl rfl (by omega)) rfl) ?_
            refine l_q (by first | exact y_nil rfl | exact y_nilf rfl) ?_
            refine l_q (by exact y_field rfl) ?_
            refine l_w (w_store (v := .int .i64 (((gS d.l (acc.getD j 0)).tries + 1 : Nat) : Int)) (off := 3 * acc.getD j 0 + 1) hs rfl rfl rfl (flatS_room hil 2 (by omega)) (fun w hs => ?_))
            rw [flatS_set hil 1 (by omega) (s := ⟨(gS d.l (acc.getD j 0)).next, (gS d.l (acc.getD j 0)).tries + 1, (gS d.l (acc.getD j 0)).sent⟩) rfl, hl1] at hs
            refine l_end ?_
            refine e_then ?_
            refine s_seq ?_
            refine s_reg ?_
            refine l_q (by exact y_mv_ptr rfl) ?_
            refine l_q (by first | exact y_nil rfl | exact y_nilf rfl) ?_
            refine l_q (by exact y_field rfl) ?_
            refine l_q (by exact y_ld (v := .int .i64 (((gS d.l (acc.getD j 0)).tries + 1 : Nat) : Int)) hs rfl (by rw [flatS_get hil1 1 (by omega), hg1]; rfl)) ?_
            refine l_q (by first | exact y_gtr rfl rfl (decide_eq_true (by omega)) | exact y_gtr rfl rfl (decide_eq_false (by omega)) | exact y_gtr rfl rfl rfl) ?_
            refine l_end ?_
            refine e_then ?_
            refine cond_t rfl ?_
            refine s_seq ?_
            refine s_reg ?_
            refine l_q (by exact y_mv_ptr rfl) ?_
            refine l_q (by exact y_mv_ptr rfl) ?_
            refine l_q (by first | exact y_nil rfl | exact y_nilf rfl) ?_
            refine l_q (by exact y_field rfl) ?_
            refine l_w (w_store (v := .int .i64 (-1)) (off := 3 * acc.getD j 0 + 2) hs rfl rfl rfl (flatS_room hil1 3 (by omega)) (fun w hs => ?_))
            rw [flatS_set hil1 2 (by omega) (s := ⟨(gS d.l (acc.getD j 0)).next, (gS d.l (acc.getD j 0)).tries + 1, -1⟩) (by rw [hg1]; rfl)] at hs
            refine l_q (by first | exact y_nil rfl | exact y_nilf rfl) ?_
            refine l_q (by exact y_field rfl) ?_
            refine l_w (w_store (v := .int .i64 (-1)) (off := 3 * acc.getD j 0 + 0) hs rfl rfl rfl (flatS_room (by rw [List.length_set]; exact hil1) 1 (by omega)) (fun w hs => ?_))
            rw [flatS_set (by rw [List.length_set]; exact hil1) 0 (by omega) (s := ⟨-1, (gS d.l (acc.getD j 0)).tries + 1, -1⟩) (by rw [gS_set hil1, if_pos rfl]; rfl), List.set_set] at hs
            refine l_end ?_
            refine e_then ?_
            refine s_seq ?_
            refine s_reg ?_
            refine l_q (by exact y_mv_int rfl) ?_
            refine l_q (by exact y_toInt (b := ((d.left - 1 : Nat) : Int)) (y_subn rfl rfl (by omega)) (by omega)) ?_
            refine l_q (by exact y_as_int rfl) ?_
            refine l_end ?_
            refine e_then ?_
            refine s_exit ?_
            refine e_then_x ?_
            refine e_blk_x ?_
            refine e_then ?_
            refine s_reg ?_
            refine l_q (by first | exact y_addn rfl rfl (by omega) | exact y_add rfl rfl rfl) ?_
            refine l_q (by exact y_mv_int rfl) ?_
            refine l_end ?_
            refine e_then ?_
            rw [hset] at hs
            exact ⟨j + 1, _, nx ⟨rfl, rfl, rfl, by rw [hd']; rfl, by rw [hd']; rfl, rfl, rfl, rfl, rfl, trivial⟩, ⟨by rw [hd']; exact hs, by omega⟩, by omega⟩
          · have hd' : (acc.take (j + 1)).foldl (retryC len z sv) c = ⟨d.l.set (acc.getD j 0) ⟨sv + 1 + waitF ((gS d.l (acc.getD j 0)).tries + 1) (drawF len z d.used), (gS d.l (acc.getD j 0)).tries + 1, (gS d.l (acc.getD j 0)).sent⟩, d.used + 1, d.left⟩ := by rw [hcs]; unfold retryC; rw [if_neg ct]
            have hw := waitF_bd ((gS d.l (acc.getD j 0)).tries + 1) (drawF len z d.used)
            have hsvb : sv ≤ 16384 := by have := ht.2; omega
            by_cases hl0 : len = 0
            · have hdr : drawF len z d.used = 0 := by unfold drawF; rw [if_pos hl0]
              rw [hdr] at hw
              refine s_seq ?_
              refine s_reg ?_
              refine l_q (by first | exact y_lss rfl rfl (decide_eq_true (by omega)) | exact y_lss rfl rfl (decide_eq_false (by omega)) | exact y_lss rfl rfl rfl) ?_
              refine l_end ?_
              refine e_then ?_
              refine s_seq ?_
              refine cond_t rfl ?_
              refine s_skip ?_
              refine e_then ?_
              refine s_seq ?_
              refine s_block ?_
              refine s_seq ?_
              refine s_reg ?_
              refine l_q (by exact y_indexT (off := j) rfl rfl (by omega) (by omega) hnad (by omega)) ?_
              refine l_q (by exact y_ld (v := .int .i64 ((acc.getD j 0 : Nat) : Int)) hs rfl hncell) ?_
              refine l_q (by exact y_as_int rfl) ?_
              refine l_end ?_
              refine e_then ?_
              refine s_seq ?_
              refine s_reg ?_
              refine l_q (by exact y_mv_slice rfl) ?_
              refine l_q (by exact y_mv_int rfl) ?_
              refine l_q (by exact y_indexT (off := 3 * acc.getD j 0) rfl rfl (by omega) (by omega) rfl (by omega)) ?_
              refine l_q (by exact y_as_ptr rfl) ?_
              refine l_end ?_
              refine e_then ?_
              refine s_seq ?_
              refine s_seq ?_
              refine s_reg ?_
              refine l_q (by exact y_mv_ptr rfl) ?_
              refine l_q (by first | exact y_nil rfl | exact y_nilf rfl) ?_
              refine l_q (by exact y_field rfl) ?_
              refine l_q (by exact y_ld (v := .int .i64 ((gS d.l (acc.getD j 0)).tries : Nat)) hs rfl (flatS_get hil 1 (by omega))) ?_
              refine l_q (by exact y_toInt (b := (((gS d.l (acc.getD j 0)).tries + 1 : Nat) : Int)) (y_addn rfl rfl (by omega)) rfl) ?_
              refine l_q (by first | exact y_nil rfl | exact y_nilf rfl) ?_
              refine l_q (by exact y_field rfl) ?_
              refine l_w (w_store (v := .int .i64 (((gS d.l (acc.getD j 0)).tries + 1 : Nat) : Int)) (off := 3 * acc.getD j 0 + 1) hs rfl rfl rfl (flatS_room hil 2 (by omega)) (fun w hs => ?_))
              rw [flatS_set hil 1 (by omega) (s := ⟨(gS d.l (acc.getD j 0)).next, (gS d.l (acc.getD j 0)).tries + 1, (gS d.l (acc.getD j 0)).sent⟩) rfl, hl1] at hs
              refine l_end ?_
              refine e_then ?_
              refine s_seq ?_
              refine s_reg ?_
              refine l_q (by exact y_mv_ptr rfl) ?_
              refine l_q (by first | exact y_nil rfl | exact y_nilf rfl) ?_
              refine l_q (by exact y_field rfl) ?_
              refine l_q (by exact y_ld (v := .int .i64 (((gS d.l (acc.getD j 0)).tries + 1 : Nat) : Int)) hs rfl (by rw [flatS_get hil1 1 (by omega), hg1]; rfl)) ?_
              refine l_q (by first | exact y_gtr rfl rfl (decide_eq_true (by omega)) | exact y_gtr rfl rfl (decide_eq_false (by omega)) | exact y_gtr rfl rfl rfl) ?_
              refine l_end ?_
              refine e_then ?_
              refine cond_f rfl ?_
              refine s_skip ?_
              refine e_then ?_
              refine s_seq ?_
              refine s_reg ?_
              refine l_q (by exact y_as_int rfl) ?_
              refine l_end ?_
              refine e_then ?_
              refine s_seq ?_
              refine s_seq ?_
              refine s_reg ?_
              refine l_q (by exact y_mv_slice rfl) ?_
              refine l_q (by exact y_len_slice rfl) ?_
              refine l_q (by first | exact y_gtr rfl rfl (decide_eq_true (by omega)) | exact y_gtr rfl rfl (decide_eq_false (by omega)) | exact y_gtr rfl rfl rfl) ?_
              refine l_end ?_
              refine e_then ?_
              refine cond_f rfl ?_
              refine s_skip ?_
              refine e_then ?_
              refine s_seq ?_
              refine s_reg ?_
              refine l_q (by exact y_mv_int rfl) ?_
              refine l_q (by first | exact y_addn rfl rfl (by omega) | exact y_add rfl rfl rfl) ?_
              refine l_q (by exact y_as_int rfl) ?_
              refine l_end ?_
              refine e_then ?_
              refine s_seq ?_
              refine s_reg ?_
              refine l_q (by exact y_mv_ptr rfl) ?_
              refine l_q (by first | exact y_nil rfl | exact y_nilf rfl) ?_
              refine l_q (by exact y_field rfl) ?_
              refine l_q (by exact y_ld (v := .int .i64 (((gS d.l (acc.getD j 0)).tries + 1 : Nat) : Int)) hs rfl (by rw [flatS_get hil1 1 (by omega), hg1]; rfl)) ?_
              refine l_q (by exact y_mv_int rfl) ?_
              refine l_w (w_call rfl (wait_c _ _ w (by omega) (by omega)) rfl (fun _ w h => ?_))
              obtain ⟨rfl, rfl⟩ := h
              refine l_q (by exact y_mv_tuple rfl) ?_
              refine l_q (by exact y_extract rfl rfl) ?_
              refine l_q (by exact y_extract rfl rfl) ?_
              refine l_q (by exact y_as_int rfl) ?_
              refine l_q (by exact y_as_int rfl) ?_
              refine l_end ?_
              refine e_then ?_
              refine s_reg ?_
              refine l_q (by exact y_mv_ptr rfl) ?_
              refine l_q (by exact y_mv_int rfl) ?_
              refine l_q (by first | exact y_addn rfl rfl (by omega) | exact y_add rfl rfl rfl) ?_
              refine l_q (by exact y_mv_int rfl) ?_
              refine l_q (by first | exact y_addn rfl rfl (by omega) | exact y_add rfl rfl rfl) ?_
              refine l_q (by first | exact y_nil rfl | exact y_nilf rfl) ?_
              refine l_q (by exact y_field rfl) ?_
              refine l_w (w_store (v := .int .i64 _) (off := 3 * acc.getD j 0 + 0) hs rfl rfl rfl (flatS_room hil1 1 (by omega)) (fun w hs => ?_))
              rw [flatS_set hil1 0 (by omega) (s := ⟨sv + 1 + waitF ((gS d.l (acc.getD j 0)).tries + 1) (drawF len z d.used), (gS d.l (acc.getD j 0)).tries + 1, (gS d.l (acc.getD j 0)).sent⟩) (by rw [hg1, hdr]; rfl)] at hs
              refine l_end ?_
              refine e_blk ?_
              refine e_then ?_
              refine s_reg ?_
              refine l_q (by first | exact y_addn rfl rfl (by omega) | exact y_add rfl rfl rfl) ?_
              refine l_q (by exact y_mv_int rfl) ?_
              refine l_end ?_
              refine e_then ?_
              rw [hset] at hs
              exact ⟨j + 1, _, nx ⟨rfl, rfl, rfl, by rw [hd']; rfl, by rw [hd']; rfl, rfl, rfl, rfl, rfl, trivial⟩, ⟨by rw [hd']; exact hs, by omega⟩, by omega⟩
            · have hdr : drawF len z d.used = z.getD (d.used % len) 0 := by unfold drawF; rw [if_neg hl0]
              rw [hdr] at hw
              have hm : d.used % len < len := Nat.mod_lt _ (by omega)
              obtain ⟨x, hx, hrd⟩ := hr.at_ _ hm
              refine s_seq ?_
              refine s_reg ?_
              refine l_q (by first | exact y_lss rfl rfl (decide_eq_true (by omega)) | exact y_lss rfl rfl (decide_eq_false (by omega)) | exact y_lss rfl rfl rfl) ?_
              refine l_end ?_
              refine e_then ?_
              refine s_seq ?_
              refine cond_t rfl ?_
              refine s_skip ?_
              refine e_then ?_
              refine s_seq ?_
              refine s_block ?_
              refine s_seq ?_
              refine s_reg ?_
              refine l_q (by exact y_indexT (off := j) rfl rfl (by omega) (by omega) hnad (by omega)) ?_
              refine l_q (by exact y_ld (v := .int .i64 ((acc.getD j 0 : Nat) : Int)) hs rfl hncell) ?_
              refine l_q (by exact y_as_int rfl) ?_
              refine l_end ?_
              refine e_then ?_
              refine s_seq ?_
              refine s_reg ?_
              refine l_q (by exact y_mv_slice rfl) ?_
              refine l_q (by exact y_mv_int rfl) ?_
              refine l_q (by exact y_indexT (off := 3 * acc.getD j 0) rfl rfl (by omega) (by omega) rfl (by omega)) ?_
              refine l_q (by exact y_as_ptr rfl) ?_
              refine l_end ?_
              refine e_then ?_
              refine s_seq ?_
              refine s_seq ?_
              refine s_reg ?_
              refine l_q (by exact y_mv_ptr rfl) ?_
              refine l_q (by first | exact y_nil rfl | exact y_nilf rfl) ?_
              refine l_q (by exact y_field rfl) ?_
              refine l_q (by exact y_ld (v := .int .i64 ((gS d.l (acc.getD j 0)).tries : Nat)) hs rfl (flatS_get hil 1 (by omega))) ?_
              refine l_q (by exact y_toInt (b := (((gS d.l (acc.getD j 0)).tries + 1 : Nat) : Int)) (y_addn rfl rfl (by omega)) rfl) ?_
              refine l_q (by first | exact y_nil rfl | exact y_nilf rfl) ?_
              refine l_q (by exact y_field rfl) ?_
              refine l_w (w_store (v := .int .i64 (((gS d.l (acc.getD j 0)).tries + 1 : Nat) : Int)) (off := 3 * acc.getD j 0 + 1) hs rfl rfl rfl (flatS_room hil 2 (by omega)) (fun w hs => ?_))
              rw [flatS_set hil 1 (by omega) (s := ⟨(gS d.l (acc.getD j 0)).next, (gS d.l (acc.getD j 0)).tries + 1, (gS d.l (acc.getD j 0)).sent⟩) rfl, hl1] at hs
              refine l_end ?_
              refine e_then ?_
              refine s_seq ?_
              refine s_reg ?_
              refine l_q (by exact y_mv_ptr rfl) ?_
              refine l_q (by first | exact y_nil rfl | exact y_nilf rfl) ?_
              refine l_q (by exact y_field rfl) ?_
              refine l_q (by exact y_ld (v := .int .i64 (((gS d.l (acc.getD j 0)).tries + 1 : Nat) : Int)) hs rfl (by rw [flatS_get hil1 1 (by omega), hg1]; rfl)) ?_
              refine l_q (by first | exact y_gtr rfl rfl (decide_eq_true (by omega)) | exact y_gtr rfl rfl (decide_eq_false (by omega)) | exact y_gtr rfl rfl rfl) ?_
              refine l_end ?_
              refine e_then ?_
              refine cond_f rfl ?_
              refine s_skip ?_
              refine e_then ?_
              refine s_seq ?_
              refine s_reg ?_
              refine l_q (by exact y_as_int rfl) ?_
              refine l_end ?_
              refine e_then ?_
              refine s_seq ?_
              refine s_seq ?_
              refine s_reg ?_
              refine l_q (by exact y_mv_slice rfl) ?_
              refine l_q (by exact y_len_slice rfl) ?_
              refine l_q (by first | exact y_gtr rfl rfl (decide_eq_true (by omega)) | exact y_gtr rfl rfl (decide_eq_false (by omega)) | exact y_gtr rfl rfl rfl) ?_
              refine l_end ?_
              refine e_then ?_
              refine cond_t rfl ?_
              refine s_reg ?_
              refine l_q (by exact y_mv_slice rfl) ?_
              refine l_q (by exact y_mv_int rfl) ?_
              refine l_q (by exact y_mv_slice rfl) ?_
              refine l_q (by exact y_len_slice rfl) ?_
              refine l_q (by exact y_toInt (b := ((d.used % len : Nat) : Int)) (y_remn rfl rfl (by omega)) (by simp)) ?_
              refine l_q (by exact y_indexA1 rfl rfl (by omega) (by omega) hx) ?_
              refine l_q (by exact y_load (v := I64 (z.getD (d.used % len) 0)) rfl (hrd _ hs.subl)) ?_
              refine l_q (by exact y_as_int rfl) ?_
              refine l_end ?_
              refine e_then ?_
              refine s_seq ?_
              refine s_reg ?_
              refine l_q (by exact y_mv_int rfl) ?_
              refine l_q (by first | exact y_addn rfl rfl (by omega) | exact y_add rfl rfl rfl) ?_
              refine l_q (by exact y_as_int rfl) ?_
              refine l_end ?_
              refine e_then ?_
              refine s_seq ?_
              refine s_reg ?_
              refine l_q (by exact y_mv_ptr rfl) ?_
              refine l_q (by first | exact y_nil rfl | exact y_nilf rfl) ?_
              refine l_q (by exact y_field rfl) ?_
              refine l_q (by exact y_ld (v := .int .i64 (((gS d.l (acc.getD j 0)).tries + 1 : Nat) : Int)) hs rfl (by rw [flatS_get hil1 1 (by omega), hg1]; rfl)) ?_
              refine l_q (by exact y_mv_int rfl) ?_
              refine l_w (w_call rfl (wait_c _ _ w (by omega) (by omega)) rfl (fun _ w h => ?_))
              obtain ⟨rfl, rfl⟩ := h
              refine l_q (by exact y_mv_tuple rfl) ?_
              refine l_q (by exact y_extract rfl rfl) ?_
              refine l_q (by exact y_extract rfl rfl) ?_
              refine l_q (by exact y_as_int rfl) ?_
              refine l_q (by exact y_as_int rfl) ?_
              refine l_end ?_
              refine e_then ?_
              refine s_reg ?_
              refine l_q (by exact y_mv_ptr rfl) ?_
              refine l_q (by exact y_mv_int rfl) ?_
              refine l_q (by first | exact y_addn rfl rfl (by omega) | exact y_add rfl rfl rfl) ?_
              refine l_q (by exact y_mv_int rfl) ?_
              refine l_q (by first | exact y_addn rfl rfl (by omega) | exact y_add rfl rfl rfl) ?_
              refine l_q (by first | exact y_nil rfl | exact y_nilf rfl) ?_
              refine l_q (by exact y_field rfl) ?_
              refine l_w (w_store (v := .int .i64 _) (off := 3 * acc.getD j 0 + 0) hs rfl rfl rfl (flatS_room hil1 1 (by omega)) (fun w hs => ?_))
              rw [flatS_set hil1 0 (by omega) (s := ⟨sv + 1 + waitF ((gS d.l (acc.getD j 0)).tries + 1) (drawF len z d.used), (gS d.l (acc.getD j 0)).tries + 1, (gS d.l (acc.getD j 0)).sent⟩) (by rw [hg1, hdr]; rfl)] at hs
              refine l_end ?_
              refine e_blk ?_
              refine e_then ?_
              refine s_reg ?_
              refine l_q (by first | exact y_addn rfl rfl (by omega) | exact y_add rfl rfl rfl) ?_
              refine l_q (by exact y_mv_int rfl) ?_
              refine l_end ?_
              refine e_then ?_
              rw [hset] at hs
              exact ⟨j + 1, _, nx ⟨rfl, rfl, rfl, by rw [hd']; rfl, by rw [hd']; rfl, rfl, rfl, rfl, rfl, trivial⟩, ⟨by rw [hd']; exact hs, by omega⟩, by omega⟩
        · have ej : j = acc.length := by omega
          refine s_seq ?_
          refine s_reg ?_
          refine l_q (by first | exact y_lss rfl rfl (decide_eq_true (by omega)) | exact y_lss rfl rfl (decide_eq_false (by omega)) | exact y_lss rfl rfl rfl) ?_
          refine l_end ?_
          refine e_then ?_
          refine s_seq ?_
          refine cond_f rfl ?_
          refine s_exit ?_
          refine e_then_x ?_
          refine e_then_x ?_
          refine e_blk_x ?_
          refine e_blk ?_
          refine e_then ?_
          rw [ej, List.take_length] at hs ⊢
          rw [hslot] at hRc
          refine ⟨(k, roundC len z c), _, nx ⟨rfl, rfl, rfl, by dsimp only; rw [hRc]; rfl, by dsimp only; rw [hRc]; rfl, trivial⟩, ⟨?_, hwf', hk⟩, by dsimp only; omega⟩
          dsimp only
          rw [hRc]
          exact hs.sub (List.sublist_append_right _ _)
end Go.Proofs.Ytjjokonehoipbaa
