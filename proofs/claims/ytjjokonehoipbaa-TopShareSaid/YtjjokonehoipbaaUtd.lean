/- Facts on the functions and types of this seat that its laws are proved from: contracts under the premises that each theorem names. -/
import Derived.Test.YtjjokonehoipbaaUtc
set_option linter.unusedSimpArgs false
set_option linter.unusedVariables false
set_option linter.unnecessarySimpa false
namespace Go.Proofs.Ytjjokonehoipbaa
open Go Go.RowKit PB
set_option linter.unusedVariables false

structure TV (ps : List Int) (t : Talk) : Prop where
  f : t.from_ < ps.length
  a0 : 0 ≤ t.at_
  a1 : t.at_ ≤ 1000000
  l0 : 1 ≤ t.long
  l1 : t.long ≤ 10000

theorem begF_bd {ps : List Int} (hp : Small ps) {t : Talk} (ht : TV ps t) {a : Nat} (ha : a < ps.length) : 0 ≤ begF ps t a ∧ begF ps t a ≤ 1001000 := by
  have b1 := hp.bd _ ht.f
  have b2 := hp.bd _ ha
  have := ht.a0
  have := ht.a1
  unfold begF
  split <;> omega

def NoMeet (ps : List Int) (x y : Talk) : Prop := ∀ a, a < ps.length → ¬ (begF ps x a < begF ps y a + y.long ∧ begF ps y a < begF ps x a + x.long)


theorem meet_c {W0 w : World} {L : List (Nat × MObj)} {s : OS} {ps : List Int} (hok : s.ok (ps.map I64) ps.length 1) (hp : Small ps) {x y : Talk} (hx : TV ps x) (hy : TV ps y) (hnm : NoMeet ps x y) (hin : ∀ g, s.a = some g → InL g (.cells (ps.map I64 ++ s.sp) 3) L) (hs : St W0 w L) :
    FnC Try.prog 13 [.slice s.ad ps.length s.cap, .agg #[I64 x.from_, I64 x.at_, I64 x.long], .agg #[I64 y.from_, I64 y.at_, I64 y.long]] w (fun v w' => v = .bool false ∧ St W0 w' L) := by
  have hn := hp.n
  refine FnC.enter Try.func13 rfl Try.ntmps13 rfl fun ρ => ?_
  refine s_seq ?_
  refine s_reg ?_
  refine l_w (w_boxA (vs := [_, _, _]) hs rfl (fun b4 w hs hb4 => ?_))
  refine l_w (w_boxA (vs := [_, _, _]) hs rfl (fun b5 w hs hb5 => ?_))
  refine l_q (by exact y_as_bool rfl) ?_
  refine l_end ?_
  refine e_then ?_
  refine s_seq ?_
  refine s_seq ?_
  refine s_reg ?_
  refine l_q (by exact y_mv_slice rfl) ?_
  refine l_q (by exact y_len_slice rfl) ?_
  refine l_q (by exact y_mv_int rfl) ?_
  refine l_end ?_
  refine e_then ?_
  refine s_block ?_
  have hin2 : ∀ g, s.a = some g → InL g (.cells (ps.map I64 ++ s.sp) 3) ((b5, .cells [I64 y.from_, I64 y.at_, I64 y.long] 31) :: (b4, .cells [I64 x.from_, I64 x.at_, I64 x.long] 31) :: L) := fun g h => ⟨List.mem_cons_of_mem _ (List.mem_cons_of_mem _ (hin g h).mem)⟩
  refine loop_st (X := Nat) (fun i => [(0, .slice s.ad ps.length s.cap), (4, .pointer (some ⟨b4, 0, none⟩)), (5, .pointer (some ⟨b5, 0, none⟩)), (11, I64 ps.length), (12, I64 i)])
    (fun i w => St W0 w ((b5, .cells [I64 y.from_, I64 y.at_, I64 y.long] 31) :: (b4, .cells [I64 x.from_, I64 x.at_, I64 x.long] 31) :: L) ∧ i ≤ ps.length) (fun i => ps.length - i) 0 ⟨rfl, rfl, rfl, rfl, rfl, trivial⟩ ⟨hs, by omega⟩ ?_
  clear hs
  rintro i ρ w ⟨hs, i1⟩
  by_cases c : i < ps.length
  · have bx := begF_bd hp hx c
    have bby := begF_bd hp hy c
    have hno := hnm i c
    have lx := hx.l1
    have ly := hy.l1
    have lx0 := hx.l0
    have ly0 := hy.l0
    by_cases c1 : begF ps x i < begF ps y i + y.long
    · refine s_seq ?_
      refine s_reg ?_
      refine l_q (by first | exact y_lss rfl rfl (decide_eq_true (by omega)) | exact y_lss rfl rfl (decide_eq_false (by omega)) | exact y_lss rfl rfl rfl) ?_
      refine l_end ?_
      refine e_then ?_
      refine s_seq ?_
      refine cond_t rfl ?_
      refine s_skip ?_
      refine e_then ?_
      refine s_seq ?_
      refine s_block ?_
      refine s_seq ?_
      refine s_reg ?_
      refine l_q (by exact y_mv_int rfl) ?_
      refine l_q (by exact y_as_int rfl) ?_
      refine l_end ?_
      refine e_then ?_
      refine s_seq ?_
      refine r_dr (.q 0 (.q 1 (.q 2 (.q 4 (.q 5 (.q 6 (.w 3 (.w 7 (.q 8 (.q 9 (.nil))))))))))) 9 hs mixed (by kernel_rfl) (fun hs => ?_)
      refine c_q rfl (by first | exact hs | exact hs.subl | exact hs.cellAt rfl | trivial) (fun _ _ _ h => h) (fun w hs => by exact y_mv_slice rfl) ?_
      refine c_q rfl (by first | exact hs | exact hs.subl | exact hs.cellAt rfl | trivial) (fun _ _ _ h => h) (fun w hs => by exact y_ldA (vs := [I64 x.from_, I64 x.at_, I64 x.long]) hs rfl rfl rfl) ?_
      refine c_q rfl (by first | exact hs | exact hs.subl | exact hs.cellAt rfl | trivial) (fun _ _ _ h => h) (fun w hs => by exact y_mv_int rfl) ?_
      refine c_q rfl (by first | exact hs | exact hs.subl | exact hs.cellAt rfl | trivial) (fun _ _ _ h => h) (fun w hs => by exact y_mv_slice rfl) ?_
      refine c_q rfl (by first | exact hs | exact hs.subl | exact hs.cellAt rfl | trivial) (fun _ _ _ h => h) (fun w hs => by exact y_ldA (vs := [I64 y.from_, I64 y.at_, I64 y.long]) hs rfl rfl rfl) ?_
      refine c_q rfl (by first | exact hs | exact hs.subl | exact hs.cellAt rfl | trivial) (fun _ _ _ h => h) (fun w hs => by exact y_mv_int rfl) ?_
      refine c_w rfl (w_call rfl (begins_c (t := x) (a := i) hok hp hx.f c hx.a0 hx.a1 hin2 hs) rfl (fun _ w h => ?_))
      obtain ⟨rfl, hs⟩ := h
      refine ⟨fun _ => by first | exact hs | exact hs.subl | exact hs.cellAt rfl | trivial, ?_⟩
      refine c_w rfl (w_call rfl (begins_c (t := y) (a := i) hok hp hy.f c hy.a0 hy.a1 hin2 hs) rfl (fun _ w h => ?_))
      obtain ⟨rfl, hs⟩ := h
      refine ⟨fun _ => by first | exact hs | exact hs.subl | exact hs.cellAt rfl | trivial, ?_⟩
      refine c_q rfl (by first | exact hs | exact hs.subl | exact hs.cellAt rfl | trivial) (fun _ _ _ h => h) (fun w hs => by exact y_as_int rfl) ?_
      refine c_q rfl (by first | exact hs | exact hs.subl | exact hs.cellAt rfl | trivial) (fun _ _ _ h => h) (fun w hs => by exact y_as_int rfl) ?_
      refine c_end ?_
      refine e_then ?_
      refine s_seq ?_
      refine s_reg ?_
      refine l_q (by exact y_mv_int rfl) ?_
      refine l_q (by exact y_mv_int rfl) ?_
      refine l_q (by exact y_field rfl) ?_
      refine l_q (by exact y_ld hs rfl rfl) ?_
      refine l_q (by first | exact y_addn rfl rfl (by omega) | exact y_add rfl rfl rfl) ?_
      refine l_q (by first | exact y_lss rfl rfl (decide_eq_true (by omega)) | exact y_lss rfl rfl (decide_eq_false (by omega)) | exact y_lss rfl rfl rfl) ?_
      refine l_q (by exact y_mv_bool rfl) ?_
      first | refine l_gskip rfl rfl ?_ | refine l_gskip_u rfl rfl ?_ | refine l_gdo rfl rfl (by exact y_mv_int rfl) ?_
      first | refine l_gskip rfl rfl ?_ | refine l_gskip_u rfl rfl ?_ | refine l_gdo rfl rfl (by exact y_mv_int rfl) ?_
      first | refine l_gskip rfl rfl ?_ | refine l_gskip_u rfl rfl ?_ | refine l_gdo rfl rfl (by exact y_field rfl) ?_
      first | refine l_gskip rfl rfl ?_ | refine l_gskip_u rfl rfl ?_ | refine l_gdo rfl rfl (by exact y_ld hs rfl rfl) ?_
      first | refine l_gskip rfl rfl ?_ | refine l_gskip_u rfl rfl ?_ | refine l_gdo rfl rfl (by first | exact y_addn rfl rfl (by omega) | exact y_add rfl rfl rfl) ?_
      first | refine l_gskip rfl rfl ?_ | refine l_gskip_u rfl rfl ?_ | refine l_gdo rfl rfl (by first | exact y_lss rfl rfl (decide_eq_true (by omega)) | exact y_lss rfl rfl (decide_eq_false (by omega)) | exact y_lss rfl rfl rfl) ?_
      refine l_q (by first | exact y_pk_bt rfl rfl | exact y_pk_bf rfl rfl) ?_
      refine l_end ?_
      refine e_then ?_
      refine cond_f rfl ?_
      refine s_skip ?_
      refine e_blk ?_
      refine e_then ?_
      refine s_reg ?_
      refine l_q (by first | exact y_addn rfl rfl (by omega) | exact y_add rfl rfl rfl) ?_
      refine l_q (by exact y_mv_int rfl) ?_
      refine l_end ?_
      refine e_then ?_
      exact ⟨i + 1, _, nx ⟨rfl, rfl, rfl, rfl, rfl, trivial⟩, ⟨hs, by omega⟩, by omega⟩
    · refine s_seq ?_
      refine s_reg ?_
      refine l_q (by first | exact y_lss rfl rfl (decide_eq_true (by omega)) | exact y_lss rfl rfl (decide_eq_false (by omega)) | exact y_lss rfl rfl rfl) ?_
      refine l_end ?_
      refine e_then ?_
      refine s_seq ?_
      refine cond_t rfl ?_
      refine s_skip ?_
      refine e_then ?_
      refine s_seq ?_
      refine s_block ?_
      refine s_seq ?_
      refine s_reg ?_
      refine l_q (by exact y_mv_int rfl) ?_
      refine l_q (by exact y_as_int rfl) ?_
      refine l_end ?_
      refine e_then ?_
      refine s_seq ?_
      refine r_dr (.q 0 (.q 1 (.q 2 (.q 4 (.q 5 (.q 6 (.w 3 (.w 7 (.q 8 (.q 9 (.nil))))))))))) 9 hs mixed (by kernel_rfl) (fun hs => ?_)
      refine c_q rfl (by first | exact hs | exact hs.subl | exact hs.cellAt rfl | trivial) (fun _ _ _ h => h) (fun w hs => by exact y_mv_slice rfl) ?_
      refine c_q rfl (by first | exact hs | exact hs.subl | exact hs.cellAt rfl | trivial) (fun _ _ _ h => h) (fun w hs => by exact y_ldA (vs := [I64 x.from_, I64 x.at_, I64 x.long]) hs rfl rfl rfl) ?_
      refine c_q rfl (by first | exact hs | exact hs.subl | exact hs.cellAt rfl | trivial) (fun _ _ _ h => h) (fun w hs => by exact y_mv_int rfl) ?_
      refine c_q rfl (by first | exact hs | exact hs.subl | exact hs.cellAt rfl | trivial) (fun _ _ _ h => h) (fun w hs => by exact y_mv_slice rfl) ?_
      refine c_q rfl (by first | exact hs | exact hs.subl | exact hs.cellAt rfl | trivial) (fun _ _ _ h => h) (fun w hs => by exact y_ldA (vs := [I64 y.from_, I64 y.at_, I64 y.long]) hs rfl rfl rfl) ?_
      refine c_q rfl (by first | exact hs | exact hs.subl | exact hs.cellAt rfl | trivial) (fun _ _ _ h => h) (fun w hs => by exact y_mv_int rfl) ?_
      refine c_w rfl (w_call rfl (begins_c (t := x) (a := i) hok hp hx.f c hx.a0 hx.a1 hin2 hs) rfl (fun _ w h => ?_))
      obtain ⟨rfl, hs⟩ := h
      refine ⟨fun _ => by first | exact hs | exact hs.subl | exact hs.cellAt rfl | trivial, ?_⟩
      refine c_w rfl (w_call rfl (begins_c (t := y) (a := i) hok hp hy.f c hy.a0 hy.a1 hin2 hs) rfl (fun _ w h => ?_))
      obtain ⟨rfl, hs⟩ := h
      refine ⟨fun _ => by first | exact hs | exact hs.subl | exact hs.cellAt rfl | trivial, ?_⟩
      refine c_q rfl (by first | exact hs | exact hs.subl | exact hs.cellAt rfl | trivial) (fun _ _ _ h => h) (fun w hs => by exact y_as_int rfl) ?_
      refine c_q rfl (by first | exact hs | exact hs.subl | exact hs.cellAt rfl | trivial) (fun _ _ _ h => h) (fun w hs => by exact y_as_int rfl) ?_
      refine c_end ?_
      refine e_then ?_
      refine s_seq ?_
      refine s_reg ?_
      refine l_q (by exact y_mv_int rfl) ?_
      refine l_q (by exact y_mv_int rfl) ?_
      refine l_q (by exact y_field rfl) ?_
      refine l_q (by exact y_ld hs rfl rfl) ?_
      refine l_q (by first | exact y_addn rfl rfl (by omega) | exact y_add rfl rfl rfl) ?_
      refine l_q (by first | exact y_lss rfl rfl (decide_eq_true (by omega)) | exact y_lss rfl rfl (decide_eq_false (by omega)) | exact y_lss rfl rfl rfl) ?_
      refine l_q (by exact y_mv_bool rfl) ?_
      first | refine l_gskip rfl rfl ?_ | refine l_gskip_u rfl rfl ?_ | refine l_gdo rfl rfl (by exact y_mv_int rfl) ?_
      first | refine l_gskip rfl rfl ?_ | refine l_gskip_u rfl rfl ?_ | refine l_gdo rfl rfl (by exact y_mv_int rfl) ?_
      first | refine l_gskip rfl rfl ?_ | refine l_gskip_u rfl rfl ?_ | refine l_gdo rfl rfl (by exact y_field rfl) ?_
      first | refine l_gskip rfl rfl ?_ | refine l_gskip_u rfl rfl ?_ | refine l_gdo rfl rfl (by exact y_ld hs rfl rfl) ?_
      first | refine l_gskip rfl rfl ?_ | refine l_gskip_u rfl rfl ?_ | refine l_gdo rfl rfl (by first | exact y_addn rfl rfl (by omega) | exact y_add rfl rfl rfl) ?_
      first | refine l_gskip rfl rfl ?_ | refine l_gskip_u rfl rfl ?_ | refine l_gdo rfl rfl (by first | exact y_lss rfl rfl (decide_eq_true (by omega)) | exact y_lss rfl rfl (decide_eq_false (by omega)) | exact y_lss rfl rfl rfl) ?_
      refine l_q (by first | exact y_pk_bt rfl rfl | exact y_pk_bf rfl rfl) ?_
      refine l_end ?_
      refine e_then ?_
      refine cond_f rfl ?_
      refine s_skip ?_
      refine e_blk ?_
      refine e_then ?_
      refine s_reg ?_
      refine l_q (by first | exact y_addn rfl rfl (by omega) | exact y_add rfl rfl rfl) ?_
      refine l_q (by exact y_mv_int rfl) ?_
      refine l_end ?_
      refine e_then ?_
      exact ⟨i + 1, _, nx ⟨rfl, rfl, rfl, rfl, rfl, trivial⟩, ⟨hs, by omega⟩, by omega⟩
  · refine s_seq ?_
    refine s_reg ?_
    refine l_q (by first | exact y_lss rfl rfl (decide_eq_true (by omega)) | exact y_lss rfl rfl (decide_eq_false (by omega)) | exact y_lss rfl rfl rfl) ?_
    refine l_end ?_
    refine e_then ?_
    refine s_seq ?_
    refine cond_f rfl ?_
    refine s_exit ?_
    refine e_then_x ?_
    refine e_then_x ?_
    refine e_blk_x ?_
    refine e_then ?_
    refine s_seq ?_
    refine s_reg ?_
    refine l_q (by exact y_as_bool rfl) ?_
    refine l_end ?_
    refine e_then ?_
    refine s_ret ?_
    exact ret_ [.bool _] rfl ⟨rfl, trivial⟩ ⟨rfl, hs.tail.tail⟩
end Go.Proofs.Ytjjokonehoipbaa
