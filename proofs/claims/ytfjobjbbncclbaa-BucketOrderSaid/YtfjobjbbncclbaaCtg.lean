/- Facts on the functions and types of this seat that its laws are proved from: contracts under the premises that each theorem names. -/
import Derived.Test.YtfjobjbbncclbaaCtf
namespace Go.Proofs.Ytfjobjbbncclbaa
open Go Go.RowKit PB
set_option linter.unusedVariables false

def nowF (z : List Int) : Nat → Int
  | 0 => 0
  | i + 1 => nowF z i + z.getD i 0 % 300
theorem nowF_bd (z : List Int) (i : Nat) : 0 ≤ nowF z i ∧ nowF z i ≤ 300 * i := by
  induction i with
  | zero => simp [nowF]
  | succ i ih => simp only [nowF]; omega
def nsF (B : Int) (z : List Int) (k : Nat) : List Int := (List.range k).map fun i => z.getD i 0 % (B + 1)
def tsF (z : List Int) (k : Nat) : List Int := (List.range k).map fun i => nowF z (i + 1)
theorem nsF_succ (B : Int) (z : List Int) (k : Nat) : nsF B z (k + 1) = nsF B z k ++ [z.getD k 0 % (B + 1)] := by simp [nsF, List.range_succ]
theorem tsF_succ (z : List Int) (k : Nat) : tsF z (k + 1) = tsF z k ++ [nowF z k + z.getD k 0 % 300] := by simp [tsF, List.range_succ, nowF]
theorem nsF_get (B : Int) (z : List Int) {k i : Nat} (h : i < k) : (nsF B z k).getD i 0 = z.getD i 0 % (B + 1) := by simp [nsF, List.getD, h]
theorem tsF_get (z : List Int) {k i : Nat} (h : i < k) : (tsF z k).getD i 0 = nowF z (i + 1) := by simp [tsF, List.getD, h]

theorem ins_of {r B l : Int} {k : Nat} (z3 z4 : List Int) (r1 : 1 ≤ r) (r2 : r ≤ 5000) (b1 : 1 ≤ B) (b2 : B ≤ 50) (l0 : 0 ≤ l) (l1 : l ≤ 1000 * B) (k1 : k ≤ 40) : Ins r B l k (nsF B z3 k) (tsF z4 k) := by
  refine ⟨r1, r2, b1, b2, l0, l1, k1, fun i hi => ?_, fun i hi => ?_, fun i hi => ?_⟩
  · rw [nsF_get _ _ hi]
    have h1 := Int.emod_nonneg (z3.getD i 0) (show B + 1 ≠ 0 by omega)
    have h2 := Int.emod_lt_of_pos (z3.getD i 0) (show 0 < B + 1 by omega)
    omega
  · rw [tsF_get _ hi]
    have := nowF_bd z4 (i + 1)
    omega
  · rw [tsF_get _ hi, tsF_get _ (by omega)]
    simp only [nowF]
    omega


theorem order_walk (W : World) (a0 a1 a2 : Int) (a3 : Option Addr) (len3 cap3 : Nat) (z3 : List Int) (h3 : Ints W a3 len3 z3) (l3 : len3 ≤ 9223372036854775807) (a4 : Option Addr) (len4 cap4 : Nat) (z4 : List Int) (h4 : Ints W a4 len4 z4) (l4 : len4 ≤ 9223372036854775807) :
    FnC Try.prog 6 [.int .i64 a0, .int .i64 a1, .int .i64 a2, .slice a3 len3 cap3, .slice a4 len4 cap4] W (fun v w' => v = .bool true ∧ St W w' []) := by
  have hs := St.start W
  obtain ⟨r, hr⟩ : ∃ r, a0 % 5000 = r := ⟨_, rfl⟩
  obtain ⟨B, hB⟩ : ∃ r, 1 + a1 % 50 = r := ⟨_, rfl⟩
  obtain ⟨l, hl⟩ : ∃ r, a2 % (1000 * B + 1) = r := ⟨_, rfl⟩
  have r0 : 0 ≤ r ∧ r < 5000 := by omega
  have B0 : 1 ≤ B ∧ B ≤ 50 := by omega
  have l0 : 0 ≤ l := hl ▸ Int.emod_nonneg _ (by omega)
  have l1 : l < 1000 * B + 1 := hl ▸ Int.emod_lt_of_pos _ (by omega)
  refine FnC.enter Try.func6 rfl Try.ntmps6 rfl fun ρ => ?_
  refine s_seq ?_
  refine s_reg ?_
  refine l_q (by exact y_as_bool rfl) ?_
  refine l_end ?_
  refine e_then ?_
  refine s_seq ?_
  refine s_seq ?_
  refine s_reg ?_
  refine l_w (w_call rfl (fact_c hs) rfl (fun _ w h => ?_))
  obtain ⟨rfl, hs⟩ := h
  refine l_q (by first | exact y_not_t rfl | exact y_not_f rfl | exact y_notd rfl) ?_
  refine l_end ?_
  refine e_then ?_
  refine cond_f rfl ?_
  refine s_skip ?_
  refine e_then ?_
  refine s_seq ?_
  refine s_reg ?_
  refine l_q (by exact y_mv_int rfl) ?_
  refine l_q (by exact y_mv_int rfl) ?_
  refine l_q (by exact y_mv_int rfl) ?_
  refine l_w (w_call rfl (filled_e hs hr hB hl) rfl (fun _ w h => ?_))
  obtain ⟨rfl, hs⟩ := h
  refine l_w (w_alloc (cs := [_, _, _, _]) hs rfl (fun b11 w hs hb11 => ?_))
  refine l_w (w_storeA (vs := [_, _, _, _]) hs rfl rfl rfl rfl rfl (fun w hs => ?_))
  refine l_end ?_
  refine e_then ?_
  refine s_seq ?_
  refine s_reg ?_
  refine l_q (by exact y_field rfl) ?_
  refine l_q (by exact y_ld hs rfl rfl) ?_
  refine l_q (by first | exact y_addn rfl rfl (by omega) | exact y_add rfl rfl rfl) ?_
  refine l_q (by exact y_field rfl) ?_
  refine l_w (w_store hs rfl rfl rfl rfl (fun w hs => ?_))
  refine l_end ?_
  refine e_then ?_
  refine s_seq ?_
  refine s_reg ?_
  refine l_q (by exact y_as_slice rfl) ?_
  refine l_q (by exact y_as_slice rfl) ?_
  refine l_end ?_
  refine e_then ?_
  refine s_seq ?_
  refine s_reg ?_
  refine l_q (by exact y_as_int rfl) ?_
  refine l_end ?_
  refine e_then ?_
  refine cut (Y := Nat × OS × OS) (fun u => [(11, .pointer (some ⟨b11, 0, none⟩)), (12, .slice u.2.1.ad u.1 u.2.1.cap), (13, .slice u.2.2.ad u.1 u.2.2.cap)]) (fun u w => St W w (u.2.1.blk ((nsF B z3 u.1).map I64) 3 ++ (u.2.2.blk ((tsF z4 u.1).map I64) 3 ++ [(b11, .cells [.int .i64 (r + 1), .int .i64 B, .int .i64 l, .int .i64 0] 25)])) ∧ u.1 ≤ 40 ∧ u.2.1.ok ((nsF B z3 u.1).map I64) u.1 1 ∧ u.2.2.ok ((tsF z4 u.1).map I64) u.1 1) (fun K hK => ?_) (fun u ρ w hI => ?_)
  refine s_seq ?_
  refine s_reg ?_
  refine l_q (by exact y_as_int rfl) ?_
  refine l_end ?_
  refine e_then ?_
  refine s_block ?_
  · refine loop_st (X := Nat × OS × OS) (fun u => [(3, .slice a3 len3 cap3), (4, .slice a4 len4 cap4), (11, .pointer (some ⟨b11, 0, none⟩)), (12, .slice u.2.1.ad u.1 u.2.1.cap), (13, .slice u.2.2.ad u.1 u.2.2.cap), (14, .int .i64 (nowF z4 u.1)), (15, .int .i64 u.1)])
      (fun u w => St W w (u.2.1.blk ((nsF B z3 u.1).map I64) 3 ++ (u.2.2.blk ((tsF z4 u.1).map I64) 3 ++ [(b11, .cells [.int .i64 (r + 1), .int .i64 B, .int .i64 l, .int .i64 0] 25)])) ∧ u.1 ≤ 40 ∧ u.2.1.ok ((nsF B z3 u.1).map I64) u.1 1 ∧ u.2.2.ok ((tsF z4 u.1).map I64) u.1 1) (fun u => 40 - u.1) (0, OS.nl, OS.nl) ⟨rfl, rfl, rfl, rfl, rfl, rfl, rfl, trivial⟩ ⟨hs, by dsimp only; omega, OS.ok_nl 1, OS.ok_nl 1⟩ ?_
    rintro ⟨i, s1, s2⟩ ρ w ⟨hs, i1, ok1, ok2⟩
    dsimp only at hs i1 ok1 ok2 ⊢
    have hb := nowF_bd z4 i
    by_cases c1 : i < len3
    · by_cases c2 : i < len4
      · by_cases c3 : i < 40
        · obtain ⟨x3, ha3, hc3⟩ := h3.at_ i c1
          obtain ⟨x4, ha4, hc4⟩ := h4.at_ i c2
          refine s_seq ?_
          refine s_seq ?_
          refine s_reg ?_
          refine l_q (by exact y_mv_int rfl) ?_
          refine l_q (by exact y_mv_slice rfl) ?_
          refine l_q (by exact y_len_slice rfl) ?_
          refine l_q (by first | exact y_lss rfl rfl (decide_eq_true (by omega)) | exact y_lss rfl rfl (decide_eq_false (by omega)) | exact y_lss rfl rfl rfl) ?_
          refine l_q (by exact y_mv_bool rfl) ?_
          first | refine l_gskip rfl rfl ?_ | refine l_gskip_u rfl rfl ?_ | refine l_gdo rfl rfl (by exact y_mv_int rfl) ?_
          first | refine l_gskip rfl rfl ?_ | refine l_gskip_u rfl rfl ?_ | refine l_gdo rfl rfl (by exact y_mv_slice rfl) ?_
          first | refine l_gskip rfl rfl ?_ | refine l_gskip_u rfl rfl ?_ | refine l_gdo rfl rfl (by exact y_len_slice rfl) ?_
          first | refine l_gskip rfl rfl ?_ | refine l_gskip_u rfl rfl ?_ | refine l_gdo rfl rfl (by first | exact y_lss rfl rfl (decide_eq_true (by omega)) | exact y_lss rfl rfl (decide_eq_false (by omega)) | exact y_lss rfl rfl rfl) ?_
          refine l_q (by first | exact y_pk_bt rfl rfl | exact y_pk_bf rfl rfl) ?_
          refine l_q (by exact y_mv_bool rfl) ?_
          first | refine l_gskip rfl rfl ?_ | refine l_gskip_u rfl rfl ?_ | refine l_gdo rfl rfl (by exact y_mv_int rfl) ?_
          first | refine l_gskip rfl rfl ?_ | refine l_gskip_u rfl rfl ?_ | refine l_gdo rfl rfl (by first | exact y_lss rfl rfl (decide_eq_true (by omega)) | exact y_lss rfl rfl (decide_eq_false (by omega)) | exact y_lss rfl rfl rfl) ?_
          refine l_q (by first | exact y_pk_bt rfl rfl | exact y_pk_bf rfl rfl) ?_
          refine l_end ?_
          refine e_then ?_
          refine cond_t rfl ?_
          refine s_skip ?_
          refine e_then ?_
          refine s_seq ?_
          refine s_block ?_
          refine s_seq ?_
          refine s_reg ?_
          refine l_q (by exact y_mv_int rfl) ?_
          refine l_q (by exact y_mv_slice rfl) ?_
          refine l_q (by exact y_mv_int rfl) ?_
          refine l_q (by exact y_indexA1 rfl rfl (by omega) (by omega) ha4) ?_
          refine l_q (by exact y_ldOld hs rfl hc4) ?_
          refine l_w (w_call rfl (rest_c _ _ _ (by omega) (by omega)) rfl (fun _ w h => ?_))
          obtain ⟨rfl, rfl⟩ := h
          refine l_q (by first | exact y_addn rfl rfl (by omega) | exact y_add rfl rfl rfl) ?_
          refine l_q (by exact y_as_int rfl) ?_
          refine l_end ?_
          refine e_then ?_
          refine s_seq ?_
          refine r_draw (.q 0 (.q 1 (.q 2 (.q 3 (.q 4 (.q 5 (.q 6 (.q 7 (.q 8 (.w 9 (.w 10 (.q 11 (.nil))))))))))))) 11 (fun w => St W w [(b11, .cells [.int .i64 (r + 1), .int .i64 B, .int .i64 l, .int .i64 0] 25)]) mixed (by kernel_rfl) ?_
          have hs := hs.drew
          refine c_q rfl (by first | exact hs | exact hs.subl) (fun _ _ _ h => h) (fun w hs => by exact y_mv_slice rfl) ?_
          refine c_q rfl (by first | exact hs | exact hs.subl) (fun _ _ _ h => h) (fun w hs => by exact y_mv_slice rfl) ?_
          refine c_q rfl (by first | exact hs | exact hs.subl) (fun _ _ _ h => h) (fun w hs => by exact y_mv_int rfl) ?_
          refine c_q rfl (by first | exact hs | exact hs.subl) (fun _ _ _ h => h) (fun w hs => by exact y_indexA1 rfl rfl (by omega) (by omega) ha3) ?_
          refine c_q rfl (by first | exact hs | exact hs.subl) (fun _ _ _ h => h) (fun w hs => by exact y_ldOld hs rfl hc3) ?_
          refine c_q rfl (by first | exact hs | exact hs.subl) (fun _ _ _ h => h) (fun w hs => by exact y_field rfl) ?_
          refine c_q rfl (by first | exact hs | exact hs.subl) (fun _ _ _ h => h) (fun w hs => by exact y_ld hs rfl rfl) ?_
          refine c_q rfl (by first | exact hs | exact hs.subl) (fun _ _ _ h => h) (fun w hs => by first | exact y_addn rfl rfl (by omega) | exact y_add rfl rfl rfl) ?_
          refine c_qc rfl (by first | exact hs | exact hs.subl) (fun _ _ _ h => h) rfl (fun w hs => rest_c _ _ _ (by omega) (by omega)) rfl ?_
          refine c_w rfl (w_buildSlice (pv := [(0, .int .i64 _)]) (vs := [_]) hs rfl rfl rfl rfl (fun b65 w hs hb65 => ?_))
          refine ⟨fun _ => by first | exact hs | exact hs.subl, ?_⟩
          refine c_w rfl (w_append (ys := [_]) [(b65, _)] hs ok1 rfl rfl rfl rfl rfl rfl (by decide) (by decide) (by omega) (fun s1' w ok1' hg' hs => ?_))
          refine ⟨fun _ => by first | exact hs | exact hs.subl, ?_⟩
          refine c_q rfl (by first | exact hs | exact hs.subl) (fun _ _ _ h => h) (fun w hs => by exact y_as_slice rfl) ?_
          refine c_end ?_
          refine e_then ?_
          refine s_reg ?_
          refine l_q (by exact y_mv_slice rfl) ?_
          refine l_q (by exact y_mv_int rfl) ?_
          refine l_w (w_buildSlice (pv := [(0, .int .i64 _)]) (vs := [_]) hs rfl rfl rfl rfl (fun b69 w hs hb69 => ?_))
          refine l_w (w_append (ys := [_]) ((b69, _) :: (b65, _) :: s1'.blk _ _) hs ok2 rfl rfl rfl rfl rfl rfl (by decide) (by decide) (by omega) (fun s2' w ok2' hg' hs => ?_))
          refine l_q (by exact y_as_slice rfl) ?_
          refine l_end ?_
          refine e_blk ?_
          refine e_then ?_
          refine s_reg ?_
          refine l_q (by exact y_mv_int rfl) ?_
          refine l_q (by first | exact y_addn rfl rfl (by omega) | exact y_add rfl rfl rfl) ?_
          refine l_q (by exact y_as_int rfl) ?_
          refine l_end ?_
          refine e_then ?_
          refine ⟨(i + 1, s1', s2'), _, nx ⟨rfl, rfl, rfl, rfl, rfl, rfl, rfl, trivial⟩, ⟨?_, by dsimp only; omega, ?_, ?_⟩, by dsimp only; omega⟩ <;> dsimp only
          · rw [nsF_succ, tsF_succ, List.map_append, List.map_append]
            exact hs.tail.tail
          · rw [nsF_succ, List.map_append]
            exact ok1'
          · rw [tsF_succ, List.map_append]
            exact ok2'
        · refine s_seq ?_
          refine s_seq ?_
          refine s_reg ?_
          refine l_q (by exact y_mv_int rfl) ?_
          refine l_q (by exact y_mv_slice rfl) ?_
          refine l_q (by exact y_len_slice rfl) ?_
          refine l_q (by first | exact y_lss rfl rfl (decide_eq_true (by omega)) | exact y_lss rfl rfl (decide_eq_false (by omega)) | exact y_lss rfl rfl rfl) ?_
          refine l_q (by exact y_mv_bool rfl) ?_
          first | refine l_gskip rfl rfl ?_ | refine l_gskip_u rfl rfl ?_ | refine l_gdo rfl rfl (by exact y_mv_int rfl) ?_
          first | refine l_gskip rfl rfl ?_ | refine l_gskip_u rfl rfl ?_ | refine l_gdo rfl rfl (by exact y_mv_slice rfl) ?_
          first | refine l_gskip rfl rfl ?_ | refine l_gskip_u rfl rfl ?_ | refine l_gdo rfl rfl (by exact y_len_slice rfl) ?_
          first | refine l_gskip rfl rfl ?_ | refine l_gskip_u rfl rfl ?_ | refine l_gdo rfl rfl (by first | exact y_lss rfl rfl (decide_eq_true (by omega)) | exact y_lss rfl rfl (decide_eq_false (by omega)) | exact y_lss rfl rfl rfl) ?_
          refine l_q (by first | exact y_pk_bt rfl rfl | exact y_pk_bf rfl rfl) ?_
          refine l_q (by exact y_mv_bool rfl) ?_
          first | refine l_gskip rfl rfl ?_ | refine l_gskip_u rfl rfl ?_ | refine l_gdo rfl rfl (by exact y_mv_int rfl) ?_
          first | refine l_gskip rfl rfl ?_ | refine l_gskip_u rfl rfl ?_ | refine l_gdo rfl rfl (by first | exact y_lss rfl rfl (decide_eq_true (by omega)) | exact y_lss rfl rfl (decide_eq_false (by omega)) | exact y_lss rfl rfl rfl) ?_
          refine l_q (by first | exact y_pk_bt rfl rfl | exact y_pk_bf rfl rfl) ?_
          refine l_end ?_
          refine e_then ?_
          refine cond_f rfl ?_
          refine s_exit ?_
          refine e_then_x ?_
          refine e_then_x ?_
          refine e_blk_x ?_
          refine e_then ?_
          exact meet hK (i, s1, s2) ⟨rfl, rfl, rfl, trivial⟩ ⟨hs, i1, ok1, ok2⟩
      · refine s_seq ?_
        refine s_seq ?_
        refine s_reg ?_
        refine l_q (by exact y_mv_int rfl) ?_
        refine l_q (by exact y_mv_slice rfl) ?_
        refine l_q (by exact y_len_slice rfl) ?_
        refine l_q (by first | exact y_lss rfl rfl (decide_eq_true (by omega)) | exact y_lss rfl rfl (decide_eq_false (by omega)) | exact y_lss rfl rfl rfl) ?_
        refine l_q (by exact y_mv_bool rfl) ?_
        first | refine l_gskip rfl rfl ?_ | refine l_gskip_u rfl rfl ?_ | refine l_gdo rfl rfl (by exact y_mv_int rfl) ?_
        first | refine l_gskip rfl rfl ?_ | refine l_gskip_u rfl rfl ?_ | refine l_gdo rfl rfl (by exact y_mv_slice rfl) ?_
        first | refine l_gskip rfl rfl ?_ | refine l_gskip_u rfl rfl ?_ | refine l_gdo rfl rfl (by exact y_len_slice rfl) ?_
        first | refine l_gskip rfl rfl ?_ | refine l_gskip_u rfl rfl ?_ | refine l_gdo rfl rfl (by first | exact y_lss rfl rfl (decide_eq_true (by omega)) | exact y_lss rfl rfl (decide_eq_false (by omega)) | exact y_lss rfl rfl rfl) ?_
        refine l_q (by first | exact y_pk_bt rfl rfl | exact y_pk_bf rfl rfl) ?_
        refine l_q (by exact y_mv_bool rfl) ?_
        first | refine l_gskip rfl rfl ?_ | refine l_gskip_u rfl rfl ?_ | refine l_gdo rfl rfl (by exact y_mv_int rfl) ?_
        first | refine l_gskip rfl rfl ?_ | refine l_gskip_u rfl rfl ?_ | refine l_gdo rfl rfl (by first | exact y_lss rfl rfl (decide_eq_true (by omega)) | exact y_lss rfl rfl (decide_eq_false (by omega)) | exact y_lss rfl rfl rfl) ?_
        refine l_q (by first | exact y_pk_bt rfl rfl | exact y_pk_bf rfl rfl) ?_
        refine l_end ?_
        refine e_then ?_
        refine cond_f rfl ?_
        refine s_exit ?_
        refine e_then_x ?_
        refine e_then_x ?_
        refine e_blk_x ?_
        refine e_then ?_
        exact meet hK (i, s1, s2) ⟨rfl, rfl, rfl, trivial⟩ ⟨hs, i1, ok1, ok2⟩
    · refine s_seq ?_
      refine s_seq ?_
      refine s_reg ?_
      refine l_q (by exact y_mv_int rfl) ?_
      refine l_q (by exact y_mv_slice rfl) ?_
      refine l_q (by exact y_len_slice rfl) ?_
      refine l_q (by first | exact y_lss rfl rfl (decide_eq_true (by omega)) | exact y_lss rfl rfl (decide_eq_false (by omega)) | exact y_lss rfl rfl rfl) ?_
      refine l_q (by exact y_mv_bool rfl) ?_
      first | refine l_gskip rfl rfl ?_ | refine l_gskip_u rfl rfl ?_ | refine l_gdo rfl rfl (by exact y_mv_int rfl) ?_
      first | refine l_gskip rfl rfl ?_ | refine l_gskip_u rfl rfl ?_ | refine l_gdo rfl rfl (by exact y_mv_slice rfl) ?_
      first | refine l_gskip rfl rfl ?_ | refine l_gskip_u rfl rfl ?_ | refine l_gdo rfl rfl (by exact y_len_slice rfl) ?_
      first | refine l_gskip rfl rfl ?_ | refine l_gskip_u rfl rfl ?_ | refine l_gdo rfl rfl (by first | exact y_lss rfl rfl (decide_eq_true (by omega)) | exact y_lss rfl rfl (decide_eq_false (by omega)) | exact y_lss rfl rfl rfl) ?_
      refine l_q (by first | exact y_pk_bt rfl rfl | exact y_pk_bf rfl rfl) ?_
      refine l_q (by exact y_mv_bool rfl) ?_
      first | refine l_gskip rfl rfl ?_ | refine l_gskip_u rfl rfl ?_ | refine l_gdo rfl rfl (by exact y_mv_int rfl) ?_
      first | refine l_gskip rfl rfl ?_ | refine l_gskip_u rfl rfl ?_ | refine l_gdo rfl rfl (by first | exact y_lss rfl rfl (decide_eq_true (by omega)) | exact y_lss rfl rfl (decide_eq_false (by omega)) | exact y_lss rfl rfl rfl) ?_
      refine l_q (by first | exact y_pk_bt rfl rfl | exact y_pk_bf rfl rfl) ?_
      refine l_end ?_
      refine e_then ?_
      refine cond_f rfl ?_
      refine s_exit ?_
      refine e_then_x ?_
      refine e_then_x ?_
      refine e_blk_x ?_
      refine e_then ?_
      exact meet hK (i, s1, s2) ⟨rfl, rfl, rfl, trivial⟩ ⟨hs, i1, ok1, ok2⟩
  · obtain ⟨k, s1, s2⟩ := u
    obtain ⟨hs, i1, ok1, ok2⟩ := hI
    dsimp only at hs i1 ok1 ok2 ⊢
    have H := ins_of (r := r + 1) (B := B) (l := l) (k := k) z3 z4 (by omega) (by omega) (by omega) (by omega) l0 (by omega) i1
    generalize nsF B z3 k = ns at *
    generalize tsF z4 k = ts at *
    refine s_seq ?_
    refine s_reg ?_
    refine l_q (by exact y_ldA (vs := [_, _, _, _]) hs rfl rfl rfl) ?_
    refine l_q (by exact y_mv_slice rfl) ?_
    refine l_q (by exact y_mv_slice rfl) ?_
    refine l_w (w_call rfl (shape_c hs ok1 ok2 H) rfl (fun _ w h => ?_))
    obtain ⟨so, rfl, okso, hs⟩ := h
    refine l_q (by exact y_mv_tuple rfl) ?_
    refine l_q (by exact y_extract rfl rfl) ?_
    refine l_q (by exact y_extract rfl rfl) ?_
    refine l_q (by exact y_as_slice rfl) ?_
    refine l_q (by exact y_as_int rfl) ?_
    refine l_end ?_
    refine e_then ?_
    refine s_seq ?_
    refine s_seq ?_
    refine s_reg ?_
    refine l_q (by exact y_mv_int rfl) ?_
    refine l_q (by first | exact y_neq rfl rfl (decide_eq_true (by omega)) | exact y_neq rfl rfl (decide_eq_false (by omega)) | exact y_neq rfl rfl rfl) ?_
    refine l_q (by exact y_mv_bool rfl) ?_
    first | refine l_gskip rfl rfl ?_ | refine l_gskip_u rfl rfl ?_ | refine l_gdo rfl rfl (by exact y_mv_slice rfl) ?_
    first | refine l_gskip rfl rfl ?_ | refine l_gskip_u rfl rfl ?_ | refine l_gdo rfl rfl (by exact y_len_slice rfl) ?_
    first | refine l_gskip rfl rfl ?_ | refine l_gskip_u rfl rfl ?_ | refine l_gdo rfl rfl (by exact y_mv_slice rfl) ?_
    first | refine l_gskip rfl rfl ?_ | refine l_gskip_u rfl rfl ?_ | refine l_gdo rfl rfl (by exact y_len_slice rfl) ?_
    first | refine l_gskip rfl rfl ?_ | refine l_gskip_u rfl rfl ?_ | refine l_gdo rfl rfl (by first | exact y_neq rfl rfl (decide_eq_true (by omega)) | exact y_neq rfl rfl (decide_eq_false (by omega)) | exact y_neq rfl rfl rfl) ?_
    refine l_q (by first | exact y_pk_bt rfl rfl | exact y_pk_bf rfl rfl) ?_
    refine l_end ?_
    refine e_then ?_
    refine cond_f rfl ?_
    refine s_skip ?_
    refine e_then ?_
    refine s_seq ?_
    refine s_reg ?_
    refine l_q (by exact y_as_int rfl) ?_
    refine l_end ?_
    refine e_then ?_
    refine s_seq ?_
    refine s_seq ?_
    refine s_reg ?_
    refine l_q (by exact y_as_int rfl) ?_
    refine l_end ?_
    refine e_then ?_
    refine s_block ?_
    refine loop_st (X := Nat) (fun i => [(11, .pointer (some ⟨b11, 0, none⟩)), (12, .slice s1.ad k s1.cap), (13, .slice s2.ad k s2.cap), (16, .slice so.ad k so.cap), (18, .int .i64 (stF (r + 1) B l ns ts i).2), (19, .int .i64 i)])
      (fun i w => St W w (so.blk ((outs (r + 1) B l ns ts k).map I64) 3 ++ (s1.blk (ns.map I64) 3 ++ (s2.blk (ts.map I64) 3 ++ [(b11, .cells [.int .i64 (r + 1), .int .i64 B, .int .i64 (stF (r + 1) B l ns ts i).1, .int .i64 (stF (r + 1) B l ns ts i).2] 25)]))) ∧ i ≤ k) (fun i => k - i) 0 ⟨rfl, rfl, rfl, rfl, rfl, rfl, trivial⟩ ⟨hs, by omega⟩ ?_
    rintro i ρ w ⟨hs, ik⟩
    by_cases c : i < k
    · obtain ⟨g1, hg1, ha1, hc1⟩ := own_int ok1 c
      obtain ⟨g2, hg2, ha2, hc2⟩ := own_int ok2 c
      obtain ⟨g3, hg3, ha3, hc3⟩ := own_int okso c
      haveI := inl_blk hg1 (ns.map I64) 3
      haveI := inl_blk hg2 (ts.map I64) 3
      haveI := inl_blk hg3 ((outs (r + 1) B l ns ts k).map I64) 3
      have hn := H.n_ i c
      obtain ⟨li, hl⟩ : ∃ x, (stF (r + 1) B l ns ts i).1 = x := ⟨_, rfl⟩
      obtain ⟨ti, ht⟩ : ∃ x, (stF (r + 1) B l ns ts i).2 = x := ⟨_, rfl⟩
      obtain ⟨now, hnow⟩ : ∃ x, (if ts.getD i 0 < ti then ti else ts.getD i 0) = x := ⟨_, rfl⟩
      obtain ⟨wt, hw⟩ : ∃ x, waitF (r + 1) B li ti (ns.getD i 0) now = x := ⟨_, rfl⟩
      obtain ⟨V, f1, f2, f3, f4, f5, f6, f7, f8, f9⟩ := stF_step H c hl ht hnow hw
      rw [outs_get _ _ _ _ _ c, f9] at hc3
      rw [hl, ht] at hs
      rw [ht]
      refine s_seq ?_
      refine s_seq ?_
      refine s_reg ?_
      refine l_q (by exact y_mv_int rfl) ?_
      refine l_q (by exact y_mv_slice rfl) ?_
      refine l_q (by exact y_len_slice rfl) ?_
      refine l_q (by first | exact y_lss rfl rfl (decide_eq_true (by omega)) | exact y_lss rfl rfl (decide_eq_false (by omega)) | exact y_lss rfl rfl rfl) ?_
      refine l_end ?_
      refine e_then ?_
      refine cond_t rfl ?_
      refine s_skip ?_
      refine e_then ?_
      refine s_seq ?_
      refine s_block ?_
      refine s_seq ?_
      refine s_seq ?_
      refine r_dr (.q 0 (.q 1 (.q 2 (.q 3 (.q 4 (.q 5 (.q 6 (.q 7 (.q 8 (.q 9 (.q 10 (.q 11 (.q 12 (.q 13 (.q 14 (.q 15 (.q 16 (.nil)))))))))))))))))) 16 hs mixed (by kernel_rfl) (fun hs => ?_)
      refine c_q rfl (by first | exact hs | exact hs.subl) (fun _ _ _ h => h) (fun w hs => by exact y_mv_slice rfl) ?_
      refine c_q rfl (by first | exact hs | exact hs.subl) (fun _ _ _ h => h) (fun w hs => by exact y_mv_int rfl) ?_
      refine c_q rfl (by first | exact hs | exact hs.subl) (fun _ _ _ h => h) (fun w hs => by exact y_indexS rfl rfl (by omega) (by omega) ha3) ?_
      refine c_q rfl (by first | exact hs | exact hs.subl) (fun _ _ _ h => h) (fun w hs => by exact y_ld hs rfl hc3) ?_
      refine c_q rfl (by first | exact hs | exact hs.subl) (fun _ _ _ h => h) (fun w hs => by exact y_mv_int rfl) ?_
      refine c_q rfl (by first | exact hs | exact hs.subl) (fun _ _ _ h => h) (fun w hs => by first | exact y_lss rfl rfl (decide_eq_true (by omega)) | exact y_lss rfl rfl (decide_eq_false (by omega)) | exact y_lss rfl rfl rfl) ?_
      refine c_q rfl (by first | exact hs | exact hs.subl) (fun _ _ _ h => h) (fun w hs => by exact y_mv_bool rfl) ?_
      first | refine c_gskip rfl (by first | exact hs | exact hs.subl) (fun _ _ _ h => h) rfl rfl ?_ | refine c_gskip_u rfl (by first | exact hs | exact hs.subl) (fun _ _ _ h => h) rfl rfl ?_ | refine c_gdo rfl (by first | exact hs | exact hs.subl) (fun _ _ _ h => h) rfl rfl (fun w hs => by exact y_mv_slice rfl) ?_
      first | refine c_gskip rfl (by first | exact hs | exact hs.subl) (fun _ _ _ h => h) rfl rfl ?_ | refine c_gskip_u rfl (by first | exact hs | exact hs.subl) (fun _ _ _ h => h) rfl rfl ?_ | refine c_gdo rfl (by first | exact hs | exact hs.subl) (fun _ _ _ h => h) rfl rfl (fun w hs => by exact y_mv_int rfl) ?_
      first | refine c_gskip rfl (by first | exact hs | exact hs.subl) (fun _ _ _ h => h) rfl rfl ?_ | refine c_gskip_u rfl (by first | exact hs | exact hs.subl) (fun _ _ _ h => h) rfl rfl ?_ | refine c_gdo rfl (by first | exact hs | exact hs.subl) (fun _ _ _ h => h) rfl rfl (fun w hs => by exact y_indexS rfl rfl (by omega) (by omega) ha3) ?_
      first | refine c_gskip rfl (by first | exact hs | exact hs.subl) (fun _ _ _ h => h) rfl rfl ?_ | refine c_gskip_u rfl (by first | exact hs | exact hs.subl) (fun _ _ _ h => h) rfl rfl ?_ | refine c_gdo rfl (by first | exact hs | exact hs.subl) (fun _ _ _ h => h) rfl rfl (fun w hs => by exact y_ld hs rfl hc3) ?_
      first | refine c_gskip rfl (by first | exact hs | exact hs.subl) (fun _ _ _ h => h) rfl rfl ?_ | refine c_gskip_u rfl (by first | exact hs | exact hs.subl) (fun _ _ _ h => h) rfl rfl ?_ | refine c_gdo rfl (by first | exact hs | exact hs.subl) (fun _ _ _ h => h) rfl rfl (fun w hs => by exact y_mv_slice rfl) ?_
      first | refine c_gskip rfl (by first | exact hs | exact hs.subl) (fun _ _ _ h => h) rfl rfl ?_ | refine c_gskip_u rfl (by first | exact hs | exact hs.subl) (fun _ _ _ h => h) rfl rfl ?_ | refine c_gdo rfl (by first | exact hs | exact hs.subl) (fun _ _ _ h => h) rfl rfl (fun w hs => by exact y_mv_int rfl) ?_
      first | refine c_gskip rfl (by first | exact hs | exact hs.subl) (fun _ _ _ h => h) rfl rfl ?_ | refine c_gskip_u rfl (by first | exact hs | exact hs.subl) (fun _ _ _ h => h) rfl rfl ?_ | refine c_gdo rfl (by first | exact hs | exact hs.subl) (fun _ _ _ h => h) rfl rfl (fun w hs => by exact y_indexS rfl rfl (by omega) (by omega) ha2) ?_
      first | refine c_gskip rfl (by first | exact hs | exact hs.subl) (fun _ _ _ h => h) rfl rfl ?_ | refine c_gskip_u rfl (by first | exact hs | exact hs.subl) (fun _ _ _ h => h) rfl rfl ?_ | refine c_gdo rfl (by first | exact hs | exact hs.subl) (fun _ _ _ h => h) rfl rfl (fun w hs => by exact y_ld hs rfl hc2) ?_
      first | refine c_gskip rfl (by first | exact hs | exact hs.subl) (fun _ _ _ h => h) rfl rfl ?_ | refine c_gskip_u rfl (by first | exact hs | exact hs.subl) (fun _ _ _ h => h) rfl rfl ?_ | refine c_gdo rfl (by first | exact hs | exact hs.subl) (fun _ _ _ h => h) rfl rfl (fun w hs => by first | exact y_lss rfl rfl (decide_eq_true (by omega)) | exact y_lss rfl rfl (decide_eq_false (by omega)) | exact y_lss rfl rfl rfl) ?_
      refine c_q rfl (by first | exact hs | exact hs.subl) (fun _ _ _ h => h) (fun w hs => by first | exact y_pk_bt rfl rfl | exact y_pk_bf rfl rfl) ?_
      refine c_end ?_
      refine e_then ?_
      refine cond_f rfl ?_
      refine s_skip ?_
      refine e_then ?_
      refine s_seq ?_
      refine s_reg ?_
      refine l_q (by exact y_mv_slice rfl) ?_
      refine l_q (by exact y_mv_int rfl) ?_
      refine l_q (by exact y_indexS rfl rfl (by omega) (by omega) ha2) ?_
      refine l_q (by exact y_ld hs rfl hc2) ?_
      refine l_q (by exact y_mv_int rfl) ?_
      refine l_q (by exact y_max (v := .int .i64 now) rfl rfl (by rw [hnow])) ?_
      refine l_q (by exact y_as_int rfl) ?_
      refine l_end ?_
      refine e_then ?_
      refine s_seq ?_
      refine r_dr (.q 0 (.q 1 (.q 2 (.q 3 (.q 4 (.q 5 (.w 6 (.q 7 (.q 8 (.q 9 (.q 10 (.q 11 (.nil))))))))))))) 11 hs mixed (by kernel_rfl) (fun hs => ?_)
      refine c_q rfl (by first | exact hs | exact hs.subl) (fun _ _ _ h => h) (fun w hs => by exact y_ldA (vs := [_, _, _, _]) hs rfl rfl rfl) ?_
      refine c_q rfl (by first | exact hs | exact hs.subl) (fun _ _ _ h => h) (fun w hs => by exact y_mv_slice rfl) ?_
      refine c_q rfl (by first | exact hs | exact hs.subl) (fun _ _ _ h => h) (fun w hs => by exact y_mv_int rfl) ?_
      refine c_q rfl (by first | exact hs | exact hs.subl) (fun _ _ _ h => h) (fun w hs => by exact y_indexS rfl rfl (by omega) (by omega) ha1) ?_
      refine c_q rfl (by first | exact hs | exact hs.subl) (fun _ _ _ h => h) (fun w hs => by exact y_ld hs rfl hc1) ?_
      refine c_q rfl (by first | exact hs | exact hs.subl) (fun _ _ _ h => h) (fun w hs => by exact y_mv_int rfl) ?_
      refine c_w rfl (w_call rfl (wait_ok' hs V hw (by omega) (by omega) (by omega) (by omega) (by omega)) rfl (fun _ w h => ?_))
      obtain ⟨rfl, hs⟩ := h
      refine ⟨fun _ => by first | exact hs | exact hs.subl, ?_⟩
      refine c_q rfl (by first | exact hs | exact hs.subl) (fun _ _ _ h => h) (fun w hs => by exact y_mv_tuple rfl) ?_
      refine c_q rfl (by first | exact hs | exact hs.subl) (fun _ _ _ h => h) (fun w hs => by exact y_extract rfl rfl) ?_
      refine c_q rfl (by first | exact hs | exact hs.subl) (fun _ _ _ h => h) (fun w hs => by exact y_extract rfl rfl) ?_
      refine c_q rfl (by first | exact hs | exact hs.subl) (fun _ _ _ h => h) (fun w hs => by exact y_as_int rfl) ?_
      refine c_q rfl (by first | exact hs | exact hs.subl) (fun _ _ _ h => h) (fun w hs => by exact y_as_int rfl) ?_
      refine c_end ?_
      refine e_then ?_
      refine s_seq ?_
      refine s_seq ?_
      refine s_reg ?_
      refine l_q (by exact y_mv_int rfl) ?_
      refine l_q (by first | exact y_neq rfl rfl (decide_eq_true (by omega)) | exact y_neq rfl rfl (decide_eq_false (by omega)) | exact y_neq rfl rfl rfl) ?_
      refine l_q (by exact y_mv_bool rfl) ?_
      first | refine l_gskip rfl rfl ?_ | refine l_gskip_u rfl rfl ?_ | refine l_gdo rfl rfl (by exact y_mv_slice rfl) ?_
      first | refine l_gskip rfl rfl ?_ | refine l_gskip_u rfl rfl ?_ | refine l_gdo rfl rfl (by exact y_mv_int rfl) ?_
      first | refine l_gskip rfl rfl ?_ | refine l_gskip_u rfl rfl ?_ | refine l_gdo rfl rfl (by exact y_indexS rfl rfl (by omega) (by omega) ha3) ?_
      first | refine l_gskip rfl rfl ?_ | refine l_gskip_u rfl rfl ?_ | refine l_gdo rfl rfl (by exact y_ld hs rfl hc3) ?_
      first | refine l_gskip rfl rfl ?_ | refine l_gskip_u rfl rfl ?_ | refine l_gdo rfl rfl (by exact y_mv_int rfl) ?_
      first | refine l_gskip rfl rfl ?_ | refine l_gskip_u rfl rfl ?_ | refine l_gdo rfl rfl (by exact y_mv_int rfl) ?_
      first | refine l_gskip rfl rfl ?_ | refine l_gskip_u rfl rfl ?_ | refine l_gdo rfl rfl (by first | exact y_addn rfl rfl (by omega) | exact y_add rfl rfl rfl) ?_
      first | refine l_gskip rfl rfl ?_ | refine l_gskip_u rfl rfl ?_ | refine l_gdo rfl rfl (by first | exact y_neq rfl rfl (decide_eq_true (by omega)) | exact y_neq rfl rfl (decide_eq_false (by omega)) | exact y_neq rfl rfl rfl) ?_
      refine l_q (by first | exact y_pk_bt rfl rfl | exact y_pk_bf rfl rfl) ?_
      refine l_end ?_
      refine e_then ?_
      refine cond_f rfl ?_
      refine s_skip ?_
      refine e_then ?_
      refine s_seq ?_
      refine r_draw (.q 1 (.q 2 (.q 3 (.q 4 (.q 5 (.q 6 (.q 7 (.q 8 (.w 0 (.w 9 (.q 10 (.q 11 (.q 12 (.q 13 (.w 14 (.nil)))))))))))))))) 15 (fun w => St W w (so.blk ((outs (r + 1) B l ns ts k).map I64) 3 ++ (s1.blk (ns.map I64) 3 ++ []))) mixed (by kernel_rfl) ?_
      have hs := hs.drew
      refine c_q rfl (by first | exact hs | exact hs.subl) (fun _ _ _ h => h) (fun w hs => by exact y_mv_slice rfl) ?_
      refine c_q rfl (by first | exact hs | exact hs.subl) (fun _ _ _ h => h) (fun w hs => by exact y_mv_int rfl) ?_
      refine c_q rfl (by first | exact hs | exact hs.subl) (fun _ _ _ h => h) (fun w hs => by exact y_indexS rfl rfl (by omega) (by omega) ha1) ?_
      refine c_q rfl (by first | exact hs | exact hs.subl) (fun _ _ _ h => h) (fun w hs => by exact y_ld hs rfl hc1) ?_
      refine c_q rfl (by first | exact hs | exact hs.subl) (fun _ _ _ h => h) (fun w hs => by exact y_mv_slice rfl) ?_
      refine c_q rfl (by first | exact hs | exact hs.subl) (fun _ _ _ h => h) (fun w hs => by exact y_mv_int rfl) ?_
      refine c_q rfl (by first | exact hs | exact hs.subl) (fun _ _ _ h => h) (fun w hs => by exact y_indexS rfl rfl (by omega) (by omega) ha3) ?_
      refine c_q rfl (by first | exact hs | exact hs.subl) (fun _ _ _ h => h) (fun w hs => by exact y_ld hs rfl hc3) ?_
      refine c_w rfl (ow_y (by exact y_ldA (vs := [_, _, _, _]) hs rfl rfl rfl) ?_)
      refine ⟨fun _ => by first | exact hs | exact hs.subl, ?_⟩
      refine c_w rfl (w_call rfl (take_yes hs V (by omega) (by omega) (by omega) (by omega) (by omega)) rfl (fun _ w h => ?_))
      obtain ⟨rfl, hs⟩ := h
      refine ⟨fun _ => by first | exact hs | exact hs.subl, ?_⟩
      refine c_q rfl (by first | exact hs | exact hs.subl) (fun _ _ _ h => h) (fun w hs => by exact y_mv_tuple rfl) ?_
      refine c_q rfl (by first | exact hs | exact hs.subl) (fun _ _ _ h => h) (fun w hs => by exact y_extract rfl rfl) ?_
      refine c_q rfl (by first | exact hs | exact hs.subl) (fun _ _ _ h => h) (fun w hs => by exact y_extract rfl rfl) ?_
      refine c_q rfl (by first | exact hs | exact hs.subl) (fun _ _ _ h => h) (fun w hs => by exact y_extract rfl rfl) ?_
      refine c_w rfl (w_storeA (vs := [_, _, _, _]) hs rfl rfl rfl rfl rfl (fun w hs => ?_))
      refine ⟨fun _ => by first | exact hs | exact hs.subl, ?_⟩
      refine c_end ?_
      refine e_then ?_
      refine s_reg ?_
      refine l_q (by exact y_mv_slice rfl) ?_
      refine l_q (by exact y_mv_int rfl) ?_
      refine l_q (by exact y_indexS rfl rfl (by omega) (by omega) ha3) ?_
      refine l_q (by exact y_ld hs rfl hc3) ?_
      refine l_q (by exact y_as_int rfl) ?_
      refine l_end ?_
      refine e_blk ?_
      refine e_then ?_
      refine s_reg ?_
      refine l_q (by exact y_mv_int rfl) ?_
      refine l_q (by first | exact y_addn rfl rfl (by omega) | exact y_add rfl rfl rfl) ?_
      refine l_q (by exact y_as_int rfl) ?_
      refine l_end ?_
      refine e_then ?_
      refine ⟨i + 1, _, nx ⟨rfl, rfl, rfl, rfl, ?_, rfl, trivial⟩, ⟨?_, by omega⟩, by omega⟩
      · rw [f9]; rfl
      · rw [f8, f9]
        exact hs
    · refine s_seq ?_
      refine s_seq ?_
      refine s_reg ?_
      refine l_q (by exact y_mv_int rfl) ?_
      refine l_q (by exact y_mv_slice rfl) ?_
      refine l_q (by exact y_len_slice rfl) ?_
      refine l_q (by first | exact y_lss rfl rfl (decide_eq_true (by omega)) | exact y_lss rfl rfl (decide_eq_false (by omega)) | exact y_lss rfl rfl rfl) ?_
      refine l_end ?_
      refine e_then ?_
      refine cond_f rfl ?_
      refine s_exit ?_
      refine e_then_x ?_
      refine e_then_x ?_
      refine e_blk_x ?_
      refine e_then ?_
      refine s_seq ?_
      refine s_reg ?_
      refine l_q (by exact y_as_bool rfl) ?_
      refine l_end ?_
      refine e_then ?_
      refine s_ret ?_
      exact ret_ [.bool _] rfl ⟨rfl, trivial⟩ ⟨rfl, hs.nil⟩
end Go.Proofs.Ytfjobjbbncclbaa
