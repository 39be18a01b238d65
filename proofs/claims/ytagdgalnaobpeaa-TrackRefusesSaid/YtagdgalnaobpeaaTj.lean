/- Facts on the functions and types of this seat that its laws are proved from: contracts under the premises that each theorem names. -/
import Derived.Test.YtagdgalnaobpeaaTi
set_option linter.unusedSimpArgs false
set_option linter.unusedVariables false
set_option linter.unnecessarySimpa false
namespace Go.Proofs.Ytagdgalnaobpeaa
open Go Go.RowKit PB
set_option linter.unusedVariables false
set_option linter.unusedSimpArgs false

theorem del_nil {W0 w : World} {L : List (Nat × MObj)} (tb : Nat) (hs : St W0 w L) :
    FnC Try.prog 33 [.slice none 0 0, overF tb] w (fun v w' => v = .slice none 0 0 ∧ St W0 w' L) := by
  refine FnC.enter Try.func33 rfl Try.ntmps33 rfl fun ρ => ?_
  refine s_seq ?_
  refine s_reg ?_
  refine l_q (by exact y_as_slice rfl) ?_
  refine l_end ?_
  refine e_then ?_
  refine s_seq ?_
  refine s_reg ?_
  refine l_q (by exact y_mv_slice rfl) ?_
  refine l_q (by exact y_mv_func rfl) ?_
  refine l_w (w_call rfl (index_nil _ hs) rfl (fun _ w h => ?_))
  obtain ⟨rfl, hs⟩ := h
  refine l_q (by exact y_as_int rfl) ?_
  refine l_end ?_
  refine e_then ?_
  refine s_seq ?_
  refine s_seq ?_
  refine s_reg ?_
  refine l_q (by exact y_mv_int rfl) ?_
  refine l_q (by first | exact y_eql rfl rfl (decide_eq_true (by omega)) | exact y_eql rfl rfl (decide_eq_false (by omega)) | exact y_eql rfl rfl rfl) ?_
  refine l_end ?_
  refine e_then ?_
  refine cond_t rfl ?_
  refine s_seq ?_
  refine s_reg ?_
  refine l_q (by exact y_mv_slice rfl) ?_
  refine l_q (by exact y_as_slice rfl) ?_
  refine l_end ?_
  refine e_then ?_
  refine s_ret ?_
  refine e_then_r ?_
  exact ret_ [.slice _ _ _] rfl ⟨rfl, trivial⟩ ⟨rfl, hs⟩

theorem del_keep {W0 w : World} {L : List (Nat × MObj)} {tb eb cap : Nat} (e : Ent) (esp : List Value) (now : Int) (ho : decide (e.til ≤ now) = false) [hi : InL tb (.cells [I64 now] 3) L] [hi2 : InL eb (.cells (e.cells ++ esp) 70) L] (hs : St W0 w L) :
    FnC Try.prog 33 [.slice (some ⟨eb, 0, none⟩) 1 cap, overF tb] w (fun v w' => v = .slice (some ⟨eb, 0, none⟩) 1 cap ∧ St W0 w' L) := by
  refine FnC.enter Try.func33 rfl Try.ntmps33 rfl fun ρ => ?_
  refine s_seq ?_
  refine s_reg ?_
  refine l_q (by exact y_as_slice rfl) ?_
  refine l_end ?_
  refine e_then ?_
  refine s_seq ?_
  refine s_reg ?_
  refine l_q (by exact y_mv_slice rfl) ?_
  refine l_q (by exact y_mv_func rfl) ?_
  refine l_w (w_call rfl (index_one (tb := tb) e esp now _ ho hs) rfl (fun _ w h => ?_))
  obtain ⟨rfl, hs⟩ := h
  refine l_q (by exact y_as_int rfl) ?_
  refine l_end ?_
  refine e_then ?_
  refine s_seq ?_
  refine s_seq ?_
  refine s_reg ?_
  refine l_q (by exact y_mv_int rfl) ?_
  refine l_q (by first | exact y_eql rfl rfl (decide_eq_true (by omega)) | exact y_eql rfl rfl (decide_eq_false (by omega)) | exact y_eql rfl rfl rfl) ?_
  refine l_end ?_
  refine e_then ?_
  refine cond_t rfl ?_
  refine s_seq ?_
  refine s_reg ?_
  refine l_q (by exact y_mv_slice rfl) ?_
  refine l_q (by exact y_as_slice rfl) ?_
  refine l_end ?_
  refine e_then ?_
  refine s_ret ?_
  refine e_then_r ?_
  exact ret_ [.slice _ _ _] rfl ⟨rfl, trivial⟩ ⟨rfl, hs⟩

abbrev zE : List Value := [I64 0, U32 0, I64 0, U32 0, I64 0, .bool false, .bool false, .bool false, I64 0]
theorem y_slice_lo0 {P : Program} {w : World} {ty t : TypeId} {x : Operand} {b m c e sz : Nat} {k : IntKind} {lo : Operand} {ρ : Operand → Value} [hT : SliceT P t e sz] (hx : ρ x = .slice (some ⟨b, 0, none⟩) m c) (hi : ρ lo = .int k 0) :
    Yld P ρ (.slice t x (some lo) none none) ty w (.slice (some ⟨b, 0, none⟩) m c) := by
  have h := y_slice_lo (P := P) (w := w) (ty := ty) (t := t) hx hi (by decide) (by omega)
  simpa using h
theorem del_drop {W0 w : World} {L L' : List (Nat × MObj)} {tb eb cap : Nat} (e : Ent) (esp : List Value) (now : Int) (ho : decide (e.til ≤ now) = true) [hi : InL tb (.cells [I64 now] 3) L] [hi2 : InL eb (.cells (e.cells ++ esp) 70) L] [hu : Upd eb (.cells (zE ++ esp) 70) L L'] (hs : St W0 w L) :
    FnC Try.prog 33 [.slice (some ⟨eb, 0, none⟩) 1 cap, overF tb] w (fun v w' => v = .slice (some ⟨eb, 0, none⟩) 0 cap ∧ St W0 w' L') := by
  haveI : Upd eb (.cells (setRange (e.cells ++ esp) (0 + 0) zE) 70) L L' := hu
  refine FnC.enter Try.func33 rfl Try.ntmps33 rfl fun ρ => ?_
  refine s_seq ?_
  refine s_reg ?_
  refine l_q (by exact y_as_slice rfl) ?_
  refine l_end ?_
  refine e_then ?_
  refine s_seq ?_
  refine s_reg ?_
  refine l_q (by exact y_mv_slice rfl) ?_
  refine l_q (by exact y_mv_func rfl) ?_
  refine l_w (w_call rfl (index_one (tb := tb) e esp now _ ho hs) rfl (fun _ w h => ?_))
  obtain ⟨rfl, hs⟩ := h
  refine l_q (by exact y_as_int rfl) ?_
  refine l_end ?_
  refine e_then ?_
  refine s_seq ?_
  refine s_seq ?_
  refine s_reg ?_
  refine l_q (by exact y_mv_int rfl) ?_
  refine l_q (by first | exact y_eql rfl rfl (decide_eq_true (by omega)) | exact y_eql rfl rfl (decide_eq_false (by omega)) | exact y_eql rfl rfl rfl) ?_
  refine l_end ?_
  refine e_then ?_
  refine cond_f rfl ?_
  refine s_skip ?_
  refine e_then ?_
  refine s_seq ?_
  refine s_seq ?_
  refine s_reg ?_
  refine l_q (by exact y_mv_int rfl) ?_
  refine l_q (by first | exact y_addn rfl rfl (by omega) | exact y_add rfl rfl rfl) ?_
  refine l_q (by exact y_as_int rfl) ?_
  refine l_end ?_
  refine e_then ?_
  refine s_block ?_
  refine loop_st (X := Unit) (fun _ => [(0, .slice (some ⟨eb, 0, none⟩) 1 cap), (5, I64 0), (6, I64 1)]) (fun _ w' => St W0 w' L) (fun _ => 0) () ⟨rfl, rfl, rfl, trivial⟩ hs ?_
  rintro _ ρ w' hs
  refine s_seq ?_
  refine s_seq ?_
  refine s_reg ?_
  refine l_q (by exact y_mv_int rfl) ?_
  refine l_q (by exact y_mv_slice rfl) ?_
  refine l_q (by exact y_len_slice rfl) ?_
  refine l_q (by first | exact y_lss rfl rfl (decide_eq_true (by omega)) | exact y_lss rfl rfl (decide_eq_false (by omega)) | exact y_lss rfl rfl rfl) ?_
  refine l_end ?_
  refine e_then ?_
  refine cond_f rfl ?_
  refine s_exit ?_
  refine e_then_x ?_
  refine e_then_x ?_
  refine e_blk_x ?_
  refine e_then ?_
  refine s_seq ?_
  refine s_reg ?_
  refine l_q (by exact y_mv_slice rfl) ?_
  refine l_q (by exact y_mv_int rfl) ?_
  refine l_q (by exact y_slice_lo0 rfl rfl) ?_
  refine l_w (w_clear (vs := zE) hs rfl (by decide) (by first | kernel_rfl | decide +kernel | (simp [Builtin.zeroCells, Value.cells]; done)) rfl (by simp) (fun w hs => ?_))
  refine l_end ?_
  refine e_then ?_
  refine s_seq ?_
  refine s_reg ?_
  refine l_q (by exact y_mv_slice rfl) ?_
  refine l_q (by exact y_mv_int rfl) ?_
  refine l_q (by exact y_slice_hi rfl rfl (by decide) (by simp)) ?_
  refine l_q (by exact y_as_slice rfl) ?_
  refine l_end ?_
  refine e_then ?_
  refine s_ret ?_
  exact ret_ [.slice _ _ _] rfl ⟨rfl, trivial⟩ ⟨rfl, hs⟩

/-! ### pass -/
theorem pass_0 {W0 w : World} {L : List (Nat × MObj)} (x : Wl) (old now : Int) (hs : St W0 w (x.w0 old L)) :
    FnC Try.prog 22 [x.ptr, I64 now] w (fun v w' => St W0 w' (x.w0 now L)) := by
  refine FnC.enter Try.func22 rfl Try.ntmps22 rfl fun ρ => ?_
  refine s_seq ?_
  refine s_reg ?_
  refine l_w (w_box1 hs rfl rfl (fun b3 w hs hb3 => ?_))
  refine l_end ?_
  refine e_then ?_
  refine s_seq ?_
  refine s_reg ?_
  refine l_q (by exact y_mv_ptr rfl) ?_
  refine l_q (by exact y_ld hs rfl rfl) ?_
  refine l_q (by first | exact y_nil rfl | exact y_nilf rfl) ?_
  refine l_q (by exact y_field rfl) ?_
  refine l_w (w_store (v := .int .i64 _) hs rfl rfl rfl rfl (fun w hs => ?_))
  refine l_end ?_
  refine e_then ?_
  refine s_reg ?_
  refine l_q (by exact y_mv_ptr rfl) ?_
  refine l_q (by exact y_mv_ptr rfl) ?_
  refine l_q (by first | exact y_nil rfl | exact y_nilf rfl) ?_
  refine l_q (by exact y_field rfl) ?_
  refine l_q (by exact y_ld hs rfl rfl) ?_
  refine l_q (by exact y_mkfunc (cv := [_]) rfl) ?_
  refine l_w (w_call rfl (del_nil _ hs) rfl (fun _ w h => ?_))
  obtain ⟨rfl, hs⟩ := h
  refine l_q (by first | exact y_nil rfl | exact y_nilf rfl) ?_
  refine l_q (by exact y_field rfl) ?_
  refine l_w (w_store (v := .slice _ _ _) hs rfl rfl rfl rfl (fun w hs => ?_))
  refine l_end ?_
  exact end_ [] rfl trivial hs.tail
theorem pass_1 {W0 w : World} {L : List (Nat × MObj)} {eb cap : Nat} {esp : List Value} (x : Wl) (old now : Int) (e : Ent) (ho : decide (e.til ≤ now) = false) (hs : St W0 w (x.w1 old eb cap esp e L)) :
    FnC Try.prog 22 [x.ptr, I64 now] w (fun v w' => St W0 w' (x.w1 now eb cap esp e L)) := by
  refine FnC.enter Try.func22 rfl Try.ntmps22 rfl fun ρ => ?_
  refine s_seq ?_
  refine s_reg ?_
  refine l_w (w_box1 hs rfl rfl (fun b3 w hs hb3 => ?_))
  refine l_end ?_
  refine e_then ?_
  refine s_seq ?_
  refine s_reg ?_
  refine l_q (by exact y_mv_ptr rfl) ?_
  refine l_q (by exact y_ld hs rfl rfl) ?_
  refine l_q (by first | exact y_nil rfl | exact y_nilf rfl) ?_
  refine l_q (by exact y_field rfl) ?_
  refine l_w (w_store (v := .int .i64 _) hs rfl rfl rfl rfl (fun w hs => ?_))
  refine l_end ?_
  refine e_then ?_
  refine s_reg ?_
  refine l_q (by exact y_mv_ptr rfl) ?_
  refine l_q (by exact y_mv_ptr rfl) ?_
  refine l_q (by first | exact y_nil rfl | exact y_nilf rfl) ?_
  refine l_q (by exact y_field rfl) ?_
  refine l_q (by exact y_ld hs rfl rfl) ?_
  refine l_q (by exact y_mkfunc (cv := [_]) rfl) ?_
  refine l_w (w_call rfl (del_keep (tb := b3) e esp now ho hs) rfl (fun _ w h => ?_))
  obtain ⟨rfl, hs⟩ := h
  refine l_q (by first | exact y_nil rfl | exact y_nilf rfl) ?_
  refine l_q (by exact y_field rfl) ?_
  refine l_w (w_store (v := .slice _ _ _) hs rfl rfl rfl rfl (fun w hs => ?_))
  refine l_end ?_
  exact end_ [] rfl trivial hs.tail
theorem pass_2 {W0 w : World} {L : List (Nat × MObj)} {eb cap : Nat} {esp : List Value} (x : Wl) (old now : Int) (e : Ent) (ho : decide (e.til ≤ now) = true) (hs : St W0 w (x.w1 old eb cap esp e L)) :
    FnC Try.prog 22 [x.ptr, I64 now] w (fun v w' => St W0 w' ((x.wb, .cells [.slice (some ⟨x.g, 0, none⟩) 1 x.rc, .slice (some ⟨eb, 0, none⟩) 0 cap, I64 now] 57) :: L)) := by
  refine FnC.enter Try.func22 rfl Try.ntmps22 rfl fun ρ => ?_
  refine s_seq ?_
  refine s_reg ?_
  refine l_w (w_box1 hs rfl rfl (fun b3 w hs hb3 => ?_))
  refine l_end ?_
  refine e_then ?_
  refine s_seq ?_
  refine s_reg ?_
  refine l_q (by exact y_mv_ptr rfl) ?_
  refine l_q (by exact y_ld hs rfl rfl) ?_
  refine l_q (by first | exact y_nil rfl | exact y_nilf rfl) ?_
  refine l_q (by exact y_field rfl) ?_
  refine l_w (w_store (v := .int .i64 _) hs rfl rfl rfl rfl (fun w hs => ?_))
  refine l_end ?_
  refine e_then ?_
  refine s_reg ?_
  refine l_q (by exact y_mv_ptr rfl) ?_
  refine l_q (by exact y_mv_ptr rfl) ?_
  refine l_q (by first | exact y_nil rfl | exact y_nilf rfl) ?_
  refine l_q (by exact y_field rfl) ?_
  refine l_q (by exact y_ld hs rfl rfl) ?_
  refine l_q (by exact y_mkfunc (cv := [_]) rfl) ?_
  refine l_w (w_call rfl (del_drop (tb := b3) e esp now ho hs) rfl (fun _ w h => ?_))
  obtain ⟨rfl, hs⟩ := h
  refine l_q (by first | exact y_nil rfl | exact y_nilf rfl) ?_
  refine l_q (by exact y_field rfl) ?_
  refine l_w (w_store (v := .slice _ _ _) hs rfl rfl rfl rfl (fun w hs => ?_))
  refine l_end ?_
  have hs : St W0 w ((x.wb, .cells [.slice (some ⟨x.g, 0, none⟩) 1 x.rc, .slice (some ⟨eb, 0, none⟩) 0 cap, I64 now] 57) :: (eb, .cells (zE ++ esp) 70) :: (x.g, .cells (flatR [x.r] ++ x.sp) 30) :: L) := hs.tail
  exact end_ [] rfl trivial hs.subl

/-! ### Many -/
theorem many_0 {W0 w : World} {L : List (Nat × MObj)} (x : Wl) (old now : Int) (hn : 0 ≤ now ∧ now ≤ 1000000000) (hle : old ≤ now) (hs : St W0 w (x.w0 old L)) :
    FnC Try.prog 15 [x.ptr, I64 now] w (fun v w' => v = .tuple #[I64 0, I64 0] ∧ St W0 w' (x.w0 now L)) := by
  refine FnC.enter Try.func15 rfl Try.ntmps15 rfl fun ρ => ?_
  refine s_seq ?_
  refine s_reg ?_
  refine l_q (by exact y_as_int rfl) ?_
  refine l_q (by exact y_as_int rfl) ?_
  refine l_end ?_
  refine e_then ?_
  refine s_seq ?_
  refine s_seq ?_
  refine s_reg ?_
  refine l_q (by exact y_mv_int rfl) ?_
  refine l_w (w_call rfl (badTime_c now hn w) rfl (fun _ w h => ?_))
  obtain ⟨rfl, rfl⟩ := h
  refine l_end ?_
  refine e_then ?_
  refine cond_f rfl ?_
  refine s_skip ?_
  refine e_then ?_
  refine s_seq ?_
  refine s_seq ?_
  refine s_reg ?_
  refine l_q (by exact y_mv_int rfl) ?_
  refine l_q (by exact y_mv_ptr rfl) ?_
  refine l_q (by first | exact y_nil rfl | exact y_nilf rfl) ?_
  refine l_q (by exact y_field rfl) ?_
  refine l_q (by exact y_ld hs rfl rfl) ?_
  refine l_q (by first | exact y_lss rfl rfl (decide_eq_true (by omega)) | exact y_lss rfl rfl (decide_eq_false (by omega)) | exact y_lss rfl rfl rfl) ?_
  refine l_end ?_
  refine e_then ?_
  refine cond_f rfl ?_
  refine s_skip ?_
  refine e_then ?_
  refine s_seq ?_
  refine s_reg ?_
  refine l_q (by exact y_mv_ptr rfl) ?_
  refine l_q (by exact y_mv_int rfl) ?_
  refine l_w (w_call rfl (pass_0 x old now hs) rfl (fun _ w hs => ?_))
  refine l_end ?_
  refine e_then ?_
  refine s_seq ?_
  refine s_reg ?_
  refine l_q (by exact y_mv_ptr rfl) ?_
  refine l_q (by first | exact y_nil rfl | exact y_nilf rfl) ?_
  refine l_q (by exact y_field rfl) ?_
  refine l_q (by exact y_ld hs rfl rfl) ?_
  refine l_q (by exact y_len_slice rfl) ?_
  refine l_q (by exact y_as_int rfl) ?_
  refine l_q (by exact y_as_int rfl) ?_
  refine l_end ?_
  refine e_then ?_
  refine s_ret ?_
  exact ret_ [.int .i64 _, .int .i64 _] rfl ⟨rfl, rfl, trivial⟩ ⟨rfl, hs⟩
theorem many_1 {W0 w : World} {L : List (Nat × MObj)} {eb cap : Nat} {esp : List Value} (x : Wl) (old now : Int) (e : Ent) (ho : decide (e.til ≤ now) = false) (hn : 0 ≤ now ∧ now ≤ 1000000000) (hle : old ≤ now) (hs : St W0 w (x.w1 old eb cap esp e L)) :
    FnC Try.prog 15 [x.ptr, I64 now] w (fun v w' => v = .tuple #[I64 1, I64 0] ∧ St W0 w' (x.w1 now eb cap esp e L)) := by
  refine FnC.enter Try.func15 rfl Try.ntmps15 rfl fun ρ => ?_
  refine s_seq ?_
  refine s_reg ?_
  refine l_q (by exact y_as_int rfl) ?_
  refine l_q (by exact y_as_int rfl) ?_
  refine l_end ?_
  refine e_then ?_
  refine s_seq ?_
  refine s_seq ?_
  refine s_reg ?_
  refine l_q (by exact y_mv_int rfl) ?_
  refine l_w (w_call rfl (badTime_c now hn w) rfl (fun _ w h => ?_))
  obtain ⟨rfl, rfl⟩ := h
  refine l_end ?_
  refine e_then ?_
  refine cond_f rfl ?_
  refine s_skip ?_
  refine e_then ?_
  refine s_seq ?_
  refine s_seq ?_
  refine s_reg ?_
  refine l_q (by exact y_mv_int rfl) ?_
  refine l_q (by exact y_mv_ptr rfl) ?_
  refine l_q (by first | exact y_nil rfl | exact y_nilf rfl) ?_
  refine l_q (by exact y_field rfl) ?_
  refine l_q (by exact y_ld hs rfl rfl) ?_
  refine l_q (by first | exact y_lss rfl rfl (decide_eq_true (by omega)) | exact y_lss rfl rfl (decide_eq_false (by omega)) | exact y_lss rfl rfl rfl) ?_
  refine l_end ?_
  refine e_then ?_
  refine cond_f rfl ?_
  refine s_skip ?_
  refine e_then ?_
  refine s_seq ?_
  refine s_reg ?_
  refine l_q (by exact y_mv_ptr rfl) ?_
  refine l_q (by exact y_mv_int rfl) ?_
  refine l_w (w_call rfl (pass_1 x old now e ho hs) rfl (fun _ w hs => ?_))
  refine l_end ?_
  refine e_then ?_
  refine s_seq ?_
  refine s_reg ?_
  refine l_q (by exact y_mv_ptr rfl) ?_
  refine l_q (by first | exact y_nil rfl | exact y_nilf rfl) ?_
  refine l_q (by exact y_field rfl) ?_
  refine l_q (by exact y_ld hs rfl rfl) ?_
  refine l_q (by exact y_len_slice rfl) ?_
  refine l_q (by exact y_as_int rfl) ?_
  refine l_q (by exact y_as_int rfl) ?_
  refine l_end ?_
  refine e_then ?_
  refine s_ret ?_
  exact ret_ [.int .i64 _, .int .i64 _] rfl ⟨rfl, rfl, trivial⟩ ⟨rfl, hs⟩
theorem many_2 {W0 w : World} {L : List (Nat × MObj)} {eb cap : Nat} {esp : List Value} (x : Wl) (old now : Int) (e : Ent) (ho : decide (e.til ≤ now) = true) (hn : 0 ≤ now ∧ now ≤ 1000000000) (hle : old ≤ now) (hs : St W0 w (x.w1 old eb cap esp e L)) :
    FnC Try.prog 15 [x.ptr, I64 now] w (fun v w' => v = .tuple #[I64 0, I64 0] ∧ St W0 w' L) := by
  refine FnC.enter Try.func15 rfl Try.ntmps15 rfl fun ρ => ?_
  refine s_seq ?_
  refine s_reg ?_
  refine l_q (by exact y_as_int rfl) ?_
  refine l_q (by exact y_as_int rfl) ?_
  refine l_end ?_
  refine e_then ?_
  refine s_seq ?_
  refine s_seq ?_
  refine s_reg ?_
  refine l_q (by exact y_mv_int rfl) ?_
  refine l_w (w_call rfl (badTime_c now hn w) rfl (fun _ w h => ?_))
  obtain ⟨rfl, rfl⟩ := h
  refine l_end ?_
  refine e_then ?_
  refine cond_f rfl ?_
  refine s_skip ?_
  refine e_then ?_
  refine s_seq ?_
  refine s_seq ?_
  refine s_reg ?_
  refine l_q (by exact y_mv_int rfl) ?_
  refine l_q (by exact y_mv_ptr rfl) ?_
  refine l_q (by first | exact y_nil rfl | exact y_nilf rfl) ?_
  refine l_q (by exact y_field rfl) ?_
  refine l_q (by exact y_ld hs rfl rfl) ?_
  refine l_q (by first | exact y_lss rfl rfl (decide_eq_true (by omega)) | exact y_lss rfl rfl (decide_eq_false (by omega)) | exact y_lss rfl rfl rfl) ?_
  refine l_end ?_
  refine e_then ?_
  refine cond_f rfl ?_
  refine s_skip ?_
  refine e_then ?_
  refine s_seq ?_
  refine s_reg ?_
  refine l_q (by exact y_mv_ptr rfl) ?_
  refine l_q (by exact y_mv_int rfl) ?_
  refine l_w (w_call rfl (pass_2 x old now e ho hs) rfl (fun _ w hs => ?_))
  refine l_end ?_
  refine e_then ?_
  refine s_seq ?_
  refine s_reg ?_
  refine l_q (by exact y_mv_ptr rfl) ?_
  refine l_q (by first | exact y_nil rfl | exact y_nilf rfl) ?_
  refine l_q (by exact y_field rfl) ?_
  refine l_q (by exact y_ld hs rfl rfl) ?_
  refine l_q (by exact y_len_slice rfl) ?_
  refine l_q (by exact y_as_int rfl) ?_
  refine l_q (by exact y_as_int rfl) ?_
  refine l_end ?_
  refine e_then ?_
  refine s_ret ?_
  exact ret_ [.int .i64 _, .int .i64 _] rfl ⟨rfl, rfl, trivial⟩ ⟨rfl, hs.tail⟩
end Go.Proofs.Ytagdgalnaobpeaa
