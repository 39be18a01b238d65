/- Facts on the functions and types of this seat that its laws are proved from: contracts under the premises that each theorem names. -/
import Derived.Test.YtohomijijipfdaaFtd
set_option linter.unusedSimpArgs false
set_option linter.unusedVariables false
set_option linter.unnecessarySimpa false
namespace Go.Proofs.Ytohomijijipfdaa
open Go Go.RowKit PB
set_option linter.unusedVariables false


theorem put_c {W0 w : World} {R : List (Nat × MObj)} (x : QI) (hok : x.ok) {pre suf : List QE} {qw qd : Int} {qo : OS} {ws : List ByteArray} (hq : x.qs = pre ++ ⟨qw, qd, qo, ws⟩ :: suf) {s : ByteArray} (h1 : s.size ≤ 1500) (h2 : ws.length < 64) (hs : St W0 w (x.L R)) :
    FnC Try.prog 13 [.pointer (some ⟨x.qb, 0, none⟩), I64 pre.length, Str s] w (fun v w' => v = I64 0 ∧ ∃ os' : OS, (x.up pre ⟨qw, qd, os', ws ++ [s]⟩ suf x.paid).ok ∧ St W0 w' ((x.up pre ⟨qw, qd, os', ws ++ [s]⟩ suf x.paid).L R)) := by
  have hlt := hok.at_
  have hn := hok.n
  have hs := foc hs hq
  have hqok : qo.ok (ws.map Str) ws.length 1 := hok.qs ⟨qw, qd, qo, ws⟩ (by rw [hq]; simp)
  obtain ⟨g, hga, had⟩ := all_some hok
  have hl : pre.length < x.qs.length := by rw [hq]; simp
  haveI : ∀ xs, InL g (.cells (xs ++ x.all.sp) 46) (x.all.blk xs 46) := fun xs => inl_blk hga xs 46
  refine FnC.enter Try.func13 rfl Try.ntmps13 rfl fun ρ => ?_
  refine s_seq ?_
  refine s_reg ?_
  refine l_q (by exact y_as_int rfl) ?_
  refine l_end ?_
  refine e_then ?_
  refine s_seq ?_
  refine s_block ?_
  refine s_seq ?_
  refine s_reg ?_
  refine l_q (by exact y_mv_int rfl) ?_
  refine l_q (by first | exact y_lss rfl rfl (decide_eq_true (by omega)) | exact y_lss rfl rfl (decide_eq_false (by omega)) | exact y_lss rfl rfl rfl) ?_
  refine l_q (by exact y_mv_bool rfl) ?_
  first | refine l_gskip rfl rfl ?_ | refine l_gskip_u rfl rfl ?_ | refine l_gdo rfl rfl (by exact y_mv_int rfl) ?_
  first | refine l_gskip rfl rfl ?_ | refine l_gskip_u rfl rfl ?_ | refine l_gdo rfl rfl (by exact y_mv_ptr rfl) ?_
  first | refine l_gskip rfl rfl ?_ | refine l_gskip_u rfl rfl ?_ | refine l_gdo rfl rfl (by first | exact y_nil rfl | exact y_nilf rfl) ?_
  first | refine l_gskip rfl rfl ?_ | refine l_gskip_u rfl rfl ?_ | refine l_gdo rfl rfl (by exact y_field rfl) ?_
  first | refine l_gskip rfl rfl ?_ | refine l_gskip_u rfl rfl ?_ | refine l_gdo rfl rfl (by exact y_ld hs rfl rfl) ?_
  first | refine l_gskip rfl rfl ?_ | refine l_gskip_u rfl rfl ?_ | refine l_gdo rfl rfl (by exact y_len_slice rfl) ?_
  first | refine l_gskip rfl rfl ?_ | refine l_gskip_u rfl rfl ?_ | refine l_gdo rfl rfl (by first | exact y_geq rfl rfl (decide_eq_true (by omega)) | exact y_geq rfl rfl (decide_eq_false (by omega)) | exact y_geq rfl rfl rfl) ?_
  refine l_q (by first | exact y_pk_bt rfl rfl | exact y_pk_bf rfl rfl) ?_
  refine l_q (by exact y_as_bool rfl) ?_
  refine l_end ?_
  refine e_then ?_
  refine cond_f rfl ?_
  refine s_seq ?_
  refine s_reg ?_
  refine l_q (by exact y_mv_str rfl) ?_
  refine l_q (by exact y_len_str rfl) ?_
  refine l_q (by first | exact y_gtr rfl rfl (decide_eq_true (by omega)) | exact y_gtr rfl rfl (decide_eq_false (by omega)) | exact y_gtr rfl rfl rfl) ?_
  refine l_q (by exact y_as_bool rfl) ?_
  refine l_end ?_
  refine e_then ?_
  refine cond_f rfl ?_
  refine s_seq ?_
  refine s_reg ?_
  refine l_q (by exact y_mv_ptr rfl) ?_
  refine l_q (by first | exact y_nil rfl | exact y_nilf rfl) ?_
  refine l_q (by exact y_field rfl) ?_
  refine l_q (by exact y_ld hs rfl rfl) ?_
  refine l_q (by exact y_mv_int rfl) ?_
  refine l_q (by exact y_indexT (off := 3 * pre.length) rfl rfl (by omega) (by omega) had (by omega)) ?_
  refine l_q (by exact y_field rfl) ?_
  refine l_q (by exact y_ld (v := .slice qo.ad ws.length qo.cap) hs rfl (flat_get _ _ _ _ 2 (by omega))) ?_
  refine l_q (by exact y_len_slice rfl) ?_
  refine l_q (by first | exact y_geq rfl rfl (decide_eq_true (by omega)) | exact y_geq rfl rfl (decide_eq_false (by omega)) | exact y_geq rfl rfl rfl) ?_
  refine l_q (by exact y_as_bool rfl) ?_
  refine l_end ?_
  refine e_then ?_
  refine cond_f rfl ?_
  refine s_skip ?_
  refine e_blk ?_
  refine e_then ?_
  refine s_seq ?_
  refine r_draw (.q 0 (.q 1 (.q 2 (.q 3 (.q 4 (.q 5 (.q 6 (.q 7 (.q 8 (.q 9 (.q 10 (.q 11 (.q 12 (.q 13 (.w 14 (.w 15 (.q 16 (.q 17 (.w 18 (.nil)))))))))))))))))))) 18 (fun w => St W0 w ((x.qb, .cells [.slice x.all.ad x.qs.length x.all.cap, I64 x.quantum, I64 x.at_, .bool x.paid] 44) :: (x.all.blk (flat (pre ++ ⟨qw, qd, qo, ws⟩ :: suf)) 46 ++ []))) mixed (by kernel_rfl) ?_
  have hs := hs.drew
  refine c_q rfl (by first | exact hs | exact hs.subl | exact hs.cellAt rfl | trivial) (fun _ _ _ h => h) (fun w hs => by exact y_mv_ptr rfl) ?_
  refine c_q rfl (by first | exact hs | exact hs.subl | exact hs.cellAt rfl | trivial) (fun _ _ _ h => h) (fun w hs => by first | exact y_nil rfl | exact y_nilf rfl) ?_
  refine c_q rfl (by first | exact hs | exact hs.subl | exact hs.cellAt rfl | trivial) (fun _ _ _ h => h) (fun w hs => by exact y_field rfl) ?_
  refine c_q rfl (by first | exact hs | exact hs.subl | exact hs.cellAt rfl | trivial) (fun _ _ _ h => h) (fun w hs => by exact y_ld hs rfl rfl) ?_
  refine c_q rfl (by first | exact hs | exact hs.subl | exact hs.cellAt rfl | trivial) (fun _ _ _ h => h) (fun w hs => by exact y_mv_int rfl) ?_
  refine c_q rfl (by first | exact hs | exact hs.subl | exact hs.cellAt rfl | trivial) (fun _ _ _ h => h) (fun w hs => by exact y_mv_ptr rfl) ?_
  refine c_q rfl (by first | exact hs | exact hs.subl | exact hs.cellAt rfl | trivial) (fun _ _ _ h => h) (fun w hs => by first | exact y_nil rfl | exact y_nilf rfl) ?_
  refine c_q rfl (by first | exact hs | exact hs.subl | exact hs.cellAt rfl | trivial) (fun _ _ _ h => h) (fun w hs => by exact y_field rfl) ?_
  refine c_q rfl (by first | exact hs | exact hs.subl | exact hs.cellAt rfl | trivial) (fun _ _ _ h => h) (fun w hs => by exact y_ld hs rfl rfl) ?_
  refine c_q rfl (by first | exact hs | exact hs.subl | exact hs.cellAt rfl | trivial) (fun _ _ _ h => h) (fun w hs => by exact y_mv_int rfl) ?_
  refine c_q rfl (by first | exact hs | exact hs.subl | exact hs.cellAt rfl | trivial) (fun _ _ _ h => h) (fun w hs => by exact y_indexT (off := 3 * pre.length) rfl rfl (by omega) (by omega) had (by omega)) ?_
  refine c_q rfl (by first | exact hs | exact hs.subl | exact hs.cellAt rfl | trivial) (fun _ _ _ h => h) (fun w hs => by exact y_field rfl) ?_
  refine c_q rfl (by first | exact hs | exact hs.subl | exact hs.cellAt rfl | trivial) (fun _ _ _ h => h) (fun w hs => by exact y_ld (v := .slice qo.ad ws.length qo.cap) hs rfl (flat_get _ _ _ _ 2 (by omega))) ?_
  refine c_q rfl (by first | exact hs | exact hs.subl | exact hs.cellAt rfl | trivial) (fun _ _ _ h => h) (fun w hs => by exact y_mv_str rfl) ?_
  refine c_w rfl (w_buildSlice (pv := [(0, .string _)]) (vs := [_]) hs rfl rfl rfl rfl (fun b48 w hs hb48 => ?_))
  refine ⟨fun _ => by first | exact hs | exact hs.subl | exact hs.cellAt rfl | trivial, ?_⟩
  refine c_w rfl (w_append (ys := [_]) ((b48, _) :: (x.qb, _) :: x.all.blk _ _) hs hqok rfl rfl rfl rfl rfl rfl (.inl (by decide)) (by decide) (by omega) (fun os' w ok' hg' hs => ?_))
  have hs : St W0 w ((b48, _) :: (x.qb, _) :: (x.all.blk _ _ ++ (os'.blk _ _ ++ (waitsL (pre ++ suf) ++ R)))) := hs
  refine ⟨fun _ => by first | exact hs | exact hs.subl | exact hs.cellAt rfl | trivial, ?_⟩
  refine c_q rfl (by first | exact hs | exact hs.subl | exact hs.cellAt rfl | trivial) (fun _ _ _ h => h) (fun w hs => by exact y_indexT (off := 3 * pre.length) rfl rfl (by omega) (by omega) had (by omega)) ?_
  refine c_q rfl (by first | exact hs | exact hs.subl | exact hs.cellAt rfl | trivial) (fun _ _ _ h => h) (fun w hs => by exact y_field rfl) ?_
  refine c_w rfl (w_storeF (v := .slice os'.ad (ws.length + 1) os'.cap) (xs' := flat (pre ++ ⟨qw, qd, os', ws ++ [s]⟩ :: suf)) [_, _] hs hga rfl rfl rfl (flat_room _ _ _ _ 3 (by omega)) (flat_set _ _ _ _ _ 2 (by omega) _ (by simp [QE.cells])) (fun w hs => ?_))
  refine ⟨fun h => absurd rfl h, ?_⟩
  refine c_end ?_
  refine e_then ?_
  refine s_seq ?_
  refine s_reg ?_
  refine l_q (by exact y_as_int rfl) ?_
  refine l_end ?_
  refine e_then ?_
  refine s_ret ?_
  have ok2 : os'.ok ((ws ++ [s]).map Str) (ws ++ [s]).length 1 := by simpa using ok'
  refine ret_ [.int .i64 _] rfl ⟨rfl, trivial⟩ ⟨rfl, os', up_ok hok hq ok2, unfoc hq ?_⟩
  have h := hs.tail
  simp only [List.map_append, List.map_cons, List.map_nil]
  exact h
end Go.Proofs.Ytohomijijipfdaa
