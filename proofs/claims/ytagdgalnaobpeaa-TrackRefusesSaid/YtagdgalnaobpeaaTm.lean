/- Facts on the functions and types of this seat that its laws are proved from: contracts under the premises that each theorem names. -/
import Derived.Test.YtagdgalnaobpeaaTl
set_option linter.unusedSimpArgs false
set_option linter.unusedVariables false
set_option linter.unnecessarySimpa false
namespace Go.Proofs.Ytagdgalnaobpeaa
open Go Go.RowKit PB
set_option linter.unusedVariables false
set_option linter.unusedSimpArgs false

theorem St.sink2p (p q r : Nat × MObj) (L : List (Nat × MObj)) : (p :: q :: r :: L).Perm (q :: r :: p :: L) := (List.Perm.swap q p _).trans ((List.Perm.swap r p _).cons q)
theorem St.sink3p (p q r s : Nat × MObj) (L : List (Nat × MObj)) : (p :: q :: r :: s :: L).Perm (q :: r :: s :: p :: L) := (List.Perm.swap q p _).trans (((List.Perm.swap r p _).trans ((List.Perm.swap s p _).cons r)).cons q)
theorem St.sink2 {W0 w : World} {p q r : Nat × MObj} {L : List (Nat × MObj)} (h : St W0 w (p :: q :: r :: L)) : St W0 w (q :: r :: p :: L) :=
  h.perm ((List.Perm.swap q p _).trans ((List.Perm.swap r p _).cons q))
theorem St.sink3 {W0 w : World} {p q r s : Nat × MObj} {L : List (Nat × MObj)} (h : St W0 w (p :: q :: r :: s :: L)) : St W0 w (q :: r :: s :: p :: L) :=
  h.perm ((List.Perm.swap q p _).trans (((List.Perm.swap r p _).trans ((List.Perm.swap s p _).cons r)).cons q))
theorem St.sink22 {W0 w : World} {a b q r : Nat × MObj} {L : List (Nat × MObj)} (h : St W0 w (a :: b :: q :: r :: L)) : St W0 w (q :: r :: a :: b :: L) := by
  have h1 := h.perm ((St.sink2p b q r L).cons a)
  exact h1.perm (St.sink2p a q r (b :: L))
theorem St.sink23 {W0 w : World} {a b q r s : Nat × MObj} {L : List (Nat × MObj)} (h : St W0 w (a :: b :: q :: r :: s :: L)) : St W0 w (q :: r :: s :: a :: b :: L) := by
  have h1 := h.perm ((St.sink3p b q r s L).cons a)
  exact h1.perm (St.sink3p a q r s (b :: L))
theorem St.swap {W0 w : World} {a b : Nat × MObj} {L : List (Nat × MObj)} (h : St W0 w (a :: b :: L)) : St W0 w (b :: a :: L) := h.perm (List.Perm.swap _ _ _)
theorem y_toV {P : Program} {ρ : Operand → Value} {op : Op} {ty : TypeId} {w : World} {a b : Value} (h : Yld P ρ op ty w a) (e : a = b) : Yld P ρ op ty w b := e ▸ h
theorem flagF_lt (p : PktV) : flagF p < 256 := by
  unfold flagF; split
  · exact byteF_lt _ _
  · decide
theorem ports_v {W0 w : World} {L : List (Nat × MObj)} (p : PktV) (is : Bool) (hi : decide (hasPorts p) = is) (hf : p.fits) (hs : St W0 w L) :
    FnC Try.prog 23 [.agg p.cells.toArray] w (fun v w' => v = .tuple #[I64 (portA p : Nat), I64 (portB p : Nat), .bool is] ∧ St W0 w' L) := by
  subst hi; exact ports_c p hf hs
theorem pcheck_v {W0 w : World} {L : List (Nat × MObj)} (p : PktV) (h0 : pChk p = 0) (hf : p.fits) (hs : St W0 w L) :
    FnC Try.prog 21 [.agg p.cells.toArray] w (fun v w' => v = I64 0 ∧ St W0 w' L) := by
  rw [← h0]; exact pcheck_c p hf hs

/-- What every call of Judge here rests on. -/
structure Asks (x : Wl) (p : PktV) (old now : Int) : Prop where
  n0 : 0 ≤ now
  n1 : now ≤ 1000000000
  le : old ≤ now
  pc : pChk p = 0
  pf : p.fits
  rf : x.r.fits
  rc : lChk [x.r] = 0
  pm : x.r.permit = true
theorem Asks.yes {x : Wl} {p : PktV} {old now : Int} (h : Asks x p old now) (hm : matchP x.r p) : judgeF [x.r] p = (0, 0) := by
  simp [judgeF, h.rc, h.pc, firstM, hm]
theorem Asks.no {x : Wl} {p : PktV} {old now : Int} (h : Asks x p old now) (hm : ¬ matchP x.r p) : judgeF [x.r] p = (-1, 0) := by
  simp [judgeF, h.rc, h.pc, firstM, hm]


theorem judge_A {W0 w : World} {L : List (Nat × MObj)} (x : Wl) (p : PktV) (inw : Bool) (old now : Int) (is : Bool) (his : decide (hasPorts p) = is) (hk : Asks x p old now) (hm : matchP x.r p) (fv : Nat) (hu : flagF p &&& 22 = fv) (hcis : is = true) (hb : p.proto ≠ 6 ∨ fv = 2) (hs : St W0 w (x.w0 old L)) :
    FnC Try.prog 11 [x.ptr, .agg p.cells.toArray, .bool inw, I64 now] w (fun v w' => v = .tuple #[.bool true, I64 0] ∧ ∃ eb cap esp, St W0 w' (x.w1 now eb cap esp ⟨p.proto, p.src, portA p, p.dst, portB p, inw, false, false, now + 500⟩ L)) := by
  have n0 := hk.n0
  have n1 := hk.n1
  have hle := hk.le
  refine FnC.enter Try.func11 rfl Try.ntmps11 rfl fun ρ => ?_
  refine s_seq ?_
  refine s_reg ?_
  refine l_w (w_boxA (vs := p.cells) hs rfl (fun b5 w hs hb5 => ?_))
  have hs := St.sink2 hs
  refine l_q (by exact y_as_bool rfl) ?_
  refine l_q (by exact y_as_int rfl) ?_
  refine l_end ?_
  refine e_then ?_
  refine s_seq ?_
  refine s_seq ?_
  refine s_reg ?_
  refine l_q (by exact y_mv_int rfl) ?_
  refine l_w (w_call rfl (badTime_c now ⟨hk.n0, hk.n1⟩ w) rfl (fun _ w h => ?_))
  obtain ⟨rfl, rfl⟩ := h
  refine l_end ?_
  refine e_then ?_
  refine cond_f rfl ?_
  refine s_skip ?_
  refine e_then ?_
  refine s_seq ?_
  refine s_seq ?_
  refine s_reg ?_
  refine l_q (by exact y_ldA (vs := [_, _, _, _, _, _, _, _, _]) hs rfl rfl rfl) ?_
  refine l_w (w_call rfl (pcheck_v p hk.pc hk.pf hs) rfl (fun _ w h => ?_))
  obtain ⟨rfl, hs⟩ := h
  refine l_q (by exact y_as_int rfl) ?_
  refine l_end ?_
  refine e_then ?_
  refine s_seq ?_
  refine s_reg ?_
  refine l_q (by exact y_mv_int rfl) ?_
  refine l_q (by first | exact y_neq rfl rfl (decide_eq_true (by omega)) | exact y_neq rfl rfl (decide_eq_false (by omega)) | exact y_neq rfl rfl rfl) ?_
  refine l_end ?_
  refine e_then ?_
  refine cond_f rfl ?_
  refine s_skip ?_
  refine e_then ?_
  refine s_seq ?_
  refine s_seq ?_
  refine s_reg ?_
  refine l_q (by exact y_mv_int rfl) ?_
  refine l_q (by exact y_mv_ptr rfl) ?_
  refine l_q (by first | exact y_nil rfl | exact y_nilf rfl) ?_
  refine l_q (by exact y_field rfl) ?_
  refine l_q (by exact y_ld hs rfl rfl) ?_
  refine l_q (by first | exact y_lss rfl rfl (decide_eq_true (by omega)) | exact y_lss rfl rfl (decide_eq_false (by omega)) | exact y_lss rfl rfl rfl) ?_
  refine l_end ?_
  refine e_then ?_
  refine cond_f rfl ?_
  refine s_skip ?_
  refine e_then ?_
  refine s_seq ?_
  refine s_reg ?_
  refine l_q (by exact y_mv_ptr rfl) ?_
  refine l_q (by exact y_mv_int rfl) ?_
  refine l_w (w_call rfl (pass_0 x old now hs) rfl (fun _ w hs => ?_))
  refine l_end ?_
  refine e_then ?_
  refine s_seq ?_
  refine s_reg ?_
  refine l_q (by exact y_ldA (vs := [_, _, _, _, _, _, _, _, _]) hs rfl rfl rfl) ?_
  refine l_w (w_call rfl (ports_v p is his hk.pf hs) rfl (fun _ w h => ?_))
  obtain ⟨rfl, hs⟩ := h
  refine l_q (by exact y_mv_tuple rfl) ?_
  refine l_q (by exact y_extract rfl rfl) ?_
  refine l_q (by exact y_extract rfl rfl) ?_
  refine l_q (by exact y_extract rfl rfl) ?_
  refine l_q (by exact y_as_int rfl) ?_
  refine l_q (by exact y_as_int rfl) ?_
  refine l_q (by exact y_as_bool rfl) ?_
  refine l_end ?_
  refine e_then ?_
  refine cut (Y := Nat × Nat) (fun u => [(0, x.ptr), (2, .bool inw), (3, I64 now), (5, .pointer (some ⟨b5, 0, none⟩)), (13, .bool is), (14, .pointer (some ⟨u.1, 0, none⟩)), (15, .pointer (some ⟨u.2, 0, none⟩))]) (fun u w => St W0 w (x.w0 now ((u.2, .cells [U32 p.dst, I64 (portB p : Nat)] 41) :: (u.1, .cells [U32 p.src, I64 (portA p : Nat)] 41) :: (b5, .cells p.cells 38) :: L))) (fun K hK => ?_) (fun u ρ w hI => ?_)
  · refine r_dr (.q 0 (.q 1 (.q 2 (.q 3 (.q 4 (.q 5 (.q 6 (.q 7 (.w2 8 (.w 9 (.w 10 (.w 11 (.nil)))) 9 (.w 8 (.w 10 (.w 11 (.nil))))))))))))) 11 hs mixed (by kernel_rfl) (fun hs => ?_)
    refine c_q rfl (by first | exact hs | exact hs.subl | exact hs.cellAt rfl | trivial) (fun _ _ _ h => h) (fun w hs => by exact y_field rfl) ?_
    refine c_q rfl (by first | exact hs | exact hs.subl | exact hs.cellAt rfl | trivial) (fun _ _ _ h => h) (fun w hs => by exact y_ld hs rfl rfl) ?_
    refine c_q rfl (by first | exact hs | exact hs.subl | exact hs.cellAt rfl | trivial) (fun _ _ _ h => h) (fun w hs => by exact y_mv_int rfl) ?_
    refine c_q rfl (by first | exact hs | exact hs.subl | exact hs.cellAt rfl | trivial) (fun _ _ _ h => h) (fun w hs => by exact y_build (pv := [(0, .int .u32 _), (1, .int .i64 _)]) (vs := [_, _]) rfl rfl) ?_
    refine c_q rfl (by first | exact hs | exact hs.subl | exact hs.cellAt rfl | trivial) (fun _ _ _ h => h) (fun w hs => by exact y_field rfl) ?_
    refine c_q rfl (by first | exact hs | exact hs.subl | exact hs.cellAt rfl | trivial) (fun _ _ _ h => h) (fun w hs => by exact y_ld hs rfl rfl) ?_
    refine c_q rfl (by first | exact hs | exact hs.subl | exact hs.cellAt rfl | trivial) (fun _ _ _ h => h) (fun w hs => by exact y_mv_int rfl) ?_
    refine c_q rfl (by first | exact hs | exact hs.subl | exact hs.cellAt rfl | trivial) (fun _ _ _ h => h) (fun w hs => by exact y_build (pv := [(0, .int .u32 _), (1, .int .i64 _)]) (vs := [_, _]) rfl rfl) ?_
    refine c_w2 rfl rfl rfl rfl (w_alloc (cs := [_, _]) hs rfl (fun b14 w hs hb14 => ?_)) (w_alloc (cs := [_, _]) hs rfl (fun b15 w hs hb15 => ?_))
    · refine ⟨fun _ => by first | exact hs | exact hs.subl | exact hs.cellAt rfl | trivial, ?_⟩
      refine c_w rfl (w_alloc (cs := [_, _]) hs rfl (fun b15 w hs hb15 => ?_))
      refine ⟨fun _ => by first | exact hs | exact hs.subl | exact hs.cellAt rfl | trivial, ?_⟩
      refine c_w rfl (w_storeA (vs := [_, _]) hs rfl rfl rfl rfl rfl (fun w hs => ?_))
      refine ⟨fun _ => by first | exact hs | exact hs.subl | exact hs.cellAt rfl | trivial, ?_⟩
      refine c_w rfl (w_storeA (vs := [_, _]) hs rfl rfl rfl rfl rfl (fun w hs => ?_))
      refine ⟨fun h => absurd rfl h, ?_⟩
      refine c_end ?_
      exact e_then (meet hK (b14, b15) ⟨rfl, rfl, rfl, rfl, rfl, rfl, rfl, trivial⟩ (by first | exact St.sink22 hs | exact St.sink22 (St.swap hs)))
    · refine ⟨fun _ => by first | exact hs | exact hs.subl | exact hs.cellAt rfl | trivial, ?_⟩
      refine c_w rfl (w_alloc (cs := [_, _]) hs rfl (fun b14 w hs hb14 => ?_))
      refine ⟨fun _ => by first | exact hs | exact hs.subl | exact hs.cellAt rfl | trivial, ?_⟩
      refine c_w rfl (w_storeA (vs := [_, _]) hs rfl rfl rfl rfl rfl (fun w hs => ?_))
      refine ⟨fun _ => by first | exact hs | exact hs.subl | exact hs.cellAt rfl | trivial, ?_⟩
      refine c_w rfl (w_storeA (vs := [_, _]) hs rfl rfl rfl rfl rfl (fun w hs => ?_))
      refine ⟨fun h => absurd rfl h, ?_⟩
      refine c_end ?_
      exact e_then (meet hK (b14, b15) ⟨rfl, rfl, rfl, rfl, rfl, rfl, rfl, trivial⟩ (by first | exact St.sink22 hs | exact St.sink22 (St.swap hs)))
  · obtain ⟨b14, b15⟩ := u
    have hs := hI
    dsimp only at hs ⊢
    by_cases c6 : p.proto = 6
    · have hb : fv = 2 := by omega
      refine s_seq ?_
      refine s_seq ?_
      refine s_reg ?_
      refine l_q (by exact y_toV (y_mv_bool rfl) (congrArg Value.bool hcis)) ?_
      refine l_end ?_
      refine e_then ?_
      refine cond_t rfl ?_
      refine s_seq ?_
      refine s_reg ?_
      refine l_q (by exact y_mv_ptr rfl) ?_
      refine l_q (by exact y_field rfl) ?_
      refine l_q (by exact y_ld hs rfl rfl) ?_
      refine l_q (by exact y_ldA (vs := [_, _]) hs rfl rfl rfl) ?_
      refine l_q (by exact y_ldA (vs := [_, _]) hs rfl rfl rfl) ?_
      refine l_q (by exact y_mv_bool rfl) ?_
      refine l_w (w_call rfl (find_nil x now p.proto p.src (portA p) p.dst (portB p) inw hs) rfl (fun _ w h => ?_))
      obtain ⟨rfl, hs⟩ := h
      refine l_q (by exact y_mv_tuple rfl) ?_
      refine l_q (by exact y_extract rfl rfl) ?_
      refine l_q (by exact y_extract rfl rfl) ?_
      refine l_q (by exact y_as_int rfl) ?_
      refine l_q (by exact y_as_int rfl) ?_
      refine l_end ?_
      refine e_then ?_
      refine s_seq ?_
      refine s_reg ?_
      refine l_q (by exact y_mv_int rfl) ?_
      refine l_q (by first | exact y_geq rfl rfl (decide_eq_true (by omega)) | exact y_geq rfl rfl (decide_eq_false (by omega)) | exact y_geq rfl rfl rfl) ?_
      refine l_end ?_
      refine e_then ?_
      refine cond_f rfl ?_
      refine s_skip ?_
      refine e_then ?_
      refine s_seq ?_
      refine r_dr (.q 0 (.q 1 (.q 2 (.q 3 (.q 4 (.w 5 (.q 6 (.q 7 (.q 8 (.q 9 (.q 10 (.nil)))))))))))) 10 hs mixed (by kernel_rfl) (fun hs => ?_)
      refine c_q rfl (by first | exact hs | exact hs.subl | exact hs.cellAt rfl | trivial) (fun _ _ _ h => h) (fun w hs => by exact y_mv_ptr rfl) ?_
      refine c_q rfl (by first | exact hs | exact hs.subl | exact hs.cellAt rfl | trivial) (fun _ _ _ h => h) (fun w hs => by first | exact y_nil rfl | exact y_nilf rfl) ?_
      refine c_q rfl (by first | exact hs | exact hs.subl | exact hs.cellAt rfl | trivial) (fun _ _ _ h => h) (fun w hs => by exact y_field rfl) ?_
      refine c_q rfl (by first | exact hs | exact hs.subl | exact hs.cellAt rfl | trivial) (fun _ _ _ h => h) (fun w hs => by exact y_ld hs rfl rfl) ?_
      refine c_q rfl (by first | exact hs | exact hs.subl | exact hs.cellAt rfl | trivial) (fun _ _ _ h => h) (fun w hs => by exact y_ldA (vs := [_, _, _, _, _, _, _, _, _]) hs rfl rfl rfl) ?_
      refine c_w rfl (w_call rfl (judge_v [x.r] x.rc p (hk.yes hm) (rdR_mem (b := x.g) (sp := x.sp) (e := 30) (by simp)) (fits1 hk.rf) hk.pf (by simp) hs) rfl (fun _ w h => ?_))
      obtain ⟨rfl, hs⟩ := h
      refine ⟨fun _ => by first | exact hs | exact hs.subl | exact hs.cellAt rfl | trivial, ?_⟩
      refine c_q rfl (by first | exact hs | exact hs.subl | exact hs.cellAt rfl | trivial) (fun _ _ _ h => h) (fun w hs => by exact y_mv_tuple rfl) ?_
      refine c_q rfl (by first | exact hs | exact hs.subl | exact hs.cellAt rfl | trivial) (fun _ _ _ h => h) (fun w hs => by exact y_extract rfl rfl) ?_
      refine c_q rfl (by first | exact hs | exact hs.subl | exact hs.cellAt rfl | trivial) (fun _ _ _ h => h) (fun w hs => by exact y_extract rfl rfl) ?_
      refine c_q rfl (by first | exact hs | exact hs.subl | exact hs.cellAt rfl | trivial) (fun _ _ _ h => h) (fun w hs => by exact y_as_int rfl) ?_
      refine c_q rfl (by first | exact hs | exact hs.subl | exact hs.cellAt rfl | trivial) (fun _ _ _ h => h) (fun w hs => by exact y_as_int rfl) ?_
      refine c_end ?_
      refine e_then ?_
      refine s_seq ?_
      refine s_seq ?_
      refine s_reg ?_
      refine l_q (by exact y_mv_int rfl) ?_
      refine l_q (by first | exact y_lss rfl rfl (decide_eq_true (by omega)) | exact y_lss rfl rfl (decide_eq_false (by omega)) | exact y_lss rfl rfl rfl) ?_
      refine l_q (by exact y_mv_bool rfl) ?_
      first | refine l_gskip rfl rfl ?_ | refine l_gskip_u rfl rfl ?_ | refine l_gdo rfl rfl (by exact y_mv_ptr rfl) ?_
      first | refine l_gskip rfl rfl ?_ | refine l_gskip_u rfl rfl ?_ | refine l_gdo rfl rfl (by first | exact y_nil rfl | exact y_nilf rfl) ?_
      first | refine l_gskip rfl rfl ?_ | refine l_gskip_u rfl rfl ?_ | refine l_gdo rfl rfl (by exact y_field rfl) ?_
      first | refine l_gskip rfl rfl ?_ | refine l_gskip_u rfl rfl ?_ | refine l_gdo rfl rfl (by exact y_ld hs rfl rfl) ?_
      first | refine l_gskip rfl rfl ?_ | refine l_gskip_u rfl rfl ?_ | refine l_gdo rfl rfl (by exact y_mv_int rfl) ?_
      first | refine l_gskip rfl rfl ?_ | refine l_gskip_u rfl rfl ?_ | refine l_gdo rfl rfl (by exact y_indexT (off := 0) rfl rfl (by decide) (by decide) rfl rfl) ?_
      first | refine l_gskip rfl rfl ?_ | refine l_gskip_u rfl rfl ?_ | refine l_gdo rfl rfl (by exact y_field rfl) ?_
      first | refine l_gskip rfl rfl ?_ | refine l_gskip_u rfl rfl ?_ | refine l_gdo rfl rfl (by exact y_ld (v := .bool true) hs rfl (by show some (Value.bool x.r.permit) = _; rw [hk.pm])) ?_
      first | refine l_gskip rfl rfl ?_ | refine l_gskip_u rfl rfl ?_ | refine l_gdo rfl rfl (by first | exact y_not_t rfl | exact y_not_f rfl | exact y_notd rfl) ?_
      refine l_q (by first | exact y_pk_bt rfl rfl | exact y_pk_bf rfl rfl) ?_
      refine l_end ?_
      refine e_then ?_
      refine cond_f rfl ?_
      refine s_skip ?_
      refine e_then ?_
      refine s_seq ?_
      refine s_reg ?_
      refine l_q (by exact y_field rfl) ?_
      refine l_q (by exact y_ld hs rfl rfl) ?_
      refine l_q (by first | exact y_neq rfl rfl (decide_eq_true (by omega)) | exact y_neq rfl rfl (decide_eq_false (by omega)) | exact y_neq rfl rfl rfl) ?_
      refine l_q (by exact y_mv_bool rfl) ?_
      first | refine l_gskip rfl rfl ?_ | refine l_gskip_u rfl rfl ?_ | refine l_gdo rfl rfl (by exact y_ldA (vs := [_, _, _, _, _, _, _, _, _]) hs rfl rfl rfl) ?_
      first | refine l_gskip rfl rfl ?_ | refine l_gskip_u rfl rfl ?_ | (refine l_gw rfl rfl (w_call rfl (flags_c p hk.pf hs) rfl (fun _ w h => ?_)); obtain ⟨rfl, hs⟩ := h)
      first | refine l_gskip rfl rfl ?_ | refine l_gskip_u rfl rfl ?_ | refine l_gdo rfl rfl (by exact y_toInt (b := (fv : Int)) (y_and64 (b := 22) rfl rfl (by have := flagF_lt p; omega) (by decide)) (by rw [hu])) ?_
      first | refine l_gskip rfl rfl ?_ | refine l_gskip_u rfl rfl ?_ | refine l_gdo rfl rfl (by first | exact y_eql rfl rfl (decide_eq_true (by omega)) | exact y_eql rfl rfl (decide_eq_false (by omega)) | exact y_eql rfl rfl rfl) ?_
      refine l_q (by first | exact y_pk_bt rfl rfl | exact y_pk_bf rfl rfl) ?_
      refine l_q (by exact y_as_bool rfl) ?_
      refine l_end ?_
      refine e_then ?_
      refine s_seq ?_
      refine s_seq ?_
      refine s_reg ?_
      refine l_q (by exact y_toV (y_mv_bool rfl) (congrArg Value.bool hcis)) ?_
      refine l_q (by exact y_mv_bool rfl) ?_
      first | refine l_gskip rfl rfl ?_ | refine l_gskip_u rfl rfl ?_ | refine l_gdo rfl rfl (by exact y_mv_bool rfl) ?_
      refine l_q (by first | exact y_pk_bt rfl rfl | exact y_pk_bf rfl rfl) ?_
      refine l_q (by exact y_mv_bool rfl) ?_
      first | refine l_gskip rfl rfl ?_ | refine l_gskip_u rfl rfl ?_ | refine l_gdo rfl rfl (by exact y_mv_ptr rfl) ?_
      first | refine l_gskip rfl rfl ?_ | refine l_gskip_u rfl rfl ?_ | refine l_gdo rfl rfl (by first | exact y_nil rfl | exact y_nilf rfl) ?_
      first | refine l_gskip rfl rfl ?_ | refine l_gskip_u rfl rfl ?_ | refine l_gdo rfl rfl (by exact y_field rfl) ?_
      first | refine l_gskip rfl rfl ?_ | refine l_gskip_u rfl rfl ?_ | refine l_gdo rfl rfl (by exact y_ld hs rfl rfl) ?_
      first | refine l_gskip rfl rfl ?_ | refine l_gskip_u rfl rfl ?_ | refine l_gdo rfl rfl (by exact y_len_slice rfl) ?_
      first | refine l_gskip rfl rfl ?_ | refine l_gskip_u rfl rfl ?_ | refine l_gdo rfl rfl (by first | exact y_lss rfl rfl (decide_eq_true (by omega)) | exact y_lss rfl rfl (decide_eq_false (by omega)) | exact y_lss rfl rfl rfl) ?_
      refine l_q (by first | exact y_pk_bt rfl rfl | exact y_pk_bf rfl rfl) ?_
      refine l_end ?_
      refine e_then ?_
      refine cond_t rfl ?_
      refine r_dr (.q 0 (.q 1 (.q 2 (.q 3 (.q 4 (.q 5 (.q 6 (.q 7 (.q 8 (.q 9 (.q 10 (.q 11 (.q 12 (.w 13 (.w 14 (.q 15 (.q 16 (.w 17 (.nil))))))))))))))))))) 17 hs mixed (by kernel_rfl) (fun hs => ?_)
      refine c_q rfl (by first | exact hs | exact hs.subl | exact hs.cellAt rfl | trivial) (fun _ _ _ h => h) (fun w hs => by exact y_mv_ptr rfl) ?_
      refine c_q rfl (by first | exact hs | exact hs.subl | exact hs.cellAt rfl | trivial) (fun _ _ _ h => h) (fun w hs => by exact y_mv_ptr rfl) ?_
      refine c_q rfl (by first | exact hs | exact hs.subl | exact hs.cellAt rfl | trivial) (fun _ _ _ h => h) (fun w hs => by first | exact y_nil rfl | exact y_nilf rfl) ?_
      refine c_q rfl (by first | exact hs | exact hs.subl | exact hs.cellAt rfl | trivial) (fun _ _ _ h => h) (fun w hs => by exact y_field rfl) ?_
      refine c_q rfl (by first | exact hs | exact hs.subl | exact hs.cellAt rfl | trivial) (fun _ _ _ h => h) (fun w hs => by exact y_ld hs rfl rfl) ?_
      refine c_q rfl (by first | exact hs | exact hs.subl | exact hs.cellAt rfl | trivial) (fun _ _ _ h => h) (fun w hs => by exact y_field rfl) ?_
      refine c_q rfl (by first | exact hs | exact hs.subl | exact hs.cellAt rfl | trivial) (fun _ _ _ h => h) (fun w hs => by exact y_ld hs rfl rfl) ?_
      refine c_q rfl (by first | exact hs | exact hs.subl | exact hs.cellAt rfl | trivial) (fun _ _ _ h => h) (fun w hs => by exact y_ldA (vs := [_, _]) hs rfl rfl rfl) ?_
      refine c_q rfl (by first | exact hs | exact hs.subl | exact hs.cellAt rfl | trivial) (fun _ _ _ h => h) (fun w hs => by exact y_ldA (vs := [_, _]) hs rfl rfl rfl) ?_
      refine c_q rfl (by first | exact hs | exact hs.subl | exact hs.cellAt rfl | trivial) (fun _ _ _ h => h) (fun w hs => by exact y_mv_bool rfl) ?_
      refine c_q rfl (by first | exact hs | exact hs.subl | exact hs.cellAt rfl | trivial) (fun _ _ _ h => h) (fun w hs => by exact y_mv_int rfl) ?_
      refine c_q rfl (by first | exact hs | exact hs.subl | exact hs.cellAt rfl | trivial) (fun _ _ _ h => h) (fun w hs => by first | exact y_addn rfl rfl (by omega) | exact y_add rfl rfl rfl) ?_
      refine c_q rfl (by first | exact hs | exact hs.subl | exact hs.cellAt rfl | trivial) (fun _ _ _ h => h) (fun w hs => by exact y_build (pv := [(0, .int .i64 _), (1, .agg (List.toArray [_, _])), (2, .agg (List.toArray [_, _])), (3, .bool _), (5, .int .i64 _)]) (vs := [_, _, _, _, _, _, _, _, _]) rfl rfl) ?_
      refine c_w rfl (w_buildSliceV (pv := [.agg (List.toArray [_, _, _, _, _, _, _, _, _])]) (cs := [_, _, _, _, _, _, _, _, _]) hs rfl rfl rfl rfl rfl rfl (fun b126 w hs hb126 => ?_))
      refine ⟨fun _ => by first | exact hs | exact hs.subl | exact hs.cellAt rfl | trivial, ?_⟩
      refine c_w rfl (w_appendG (s := OS.nl) (xs := []) (len := 0) (sz := 9) (bs := 56) (ys := [I64 p.proto, U32 p.src, I64 (portA p : Nat), U32 p.dst, I64 (portB p : Nat), .bool inw, .bool false, .bool false, I64 (now + 500)]) [] hs (OS.ok_nl 9) rfl rfl rfl (fun w1 h1 => run_firstCells (b := b126) (k := 9) (o := 0) (m := 1) (cs := [I64 p.proto, U32 p.src, I64 (portA p : Nat), U32 p.dst, I64 (portB p : Nat), .bool inw, .bool false, .bool false, I64 (now + 500)]) h1 (List.mem_cons_self ..) (Nat.le_refl 9)) rfl rfl (.inl (by decide)) (by decide) (by decide) (fun s1 w ok1 hg1 hs => ?_))
      obtain ⟨g1, hg1⟩ := hg1; simp only [OS.blk, OS.ad, hg1, List.nil_append, List.singleton_append, Nat.zero_add, Option.map_some] at hs ⊢
      refine ⟨fun _ => by first | exact hs | exact hs.subl | exact hs.cellAt rfl | trivial, ?_⟩
      refine c_q rfl (by first | exact hs | exact hs.subl | exact hs.cellAt rfl | trivial) (fun _ _ _ h => h) (fun w hs => by first | exact y_nil rfl | exact y_nilf rfl) ?_
      refine c_q rfl (by first | exact hs | exact hs.subl | exact hs.cellAt rfl | trivial) (fun _ _ _ h => h) (fun w hs => by exact y_field rfl) ?_
      refine c_w rfl (w_store (v := .slice _ _ _) hs rfl rfl rfl rfl (fun w hs => ?_))
      refine ⟨fun h => absurd rfl h, ?_⟩
      refine c_end ?_
      refine e_then ?_
      refine s_seq ?_
      refine s_reg ?_
      refine l_q (by exact y_as_bool rfl) ?_
      refine l_q (by exact y_as_int rfl) ?_
      refine l_end ?_
      refine e_then ?_
      refine s_ret ?_
      have hs := St.swap (hs.sub (.cons_cons _ (.cons _ (.cons_cons _ (.cons_cons _ (.cons _ (.cons _ (.cons _ (List.Sublist.refl _)))))))))
      exact ret_ [.bool _, .int .i64 _] rfl ⟨rfl, rfl, trivial⟩ ⟨rfl, g1, s1.cap, s1.sp, hs⟩
    · refine s_seq ?_
      refine s_seq ?_
      refine s_reg ?_
      refine l_q (by exact y_toV (y_mv_bool rfl) (congrArg Value.bool hcis)) ?_
      refine l_end ?_
      refine e_then ?_
      refine cond_t rfl ?_
      refine s_seq ?_
      refine s_reg ?_
      refine l_q (by exact y_mv_ptr rfl) ?_
      refine l_q (by exact y_field rfl) ?_
      refine l_q (by exact y_ld hs rfl rfl) ?_
      refine l_q (by exact y_ldA (vs := [_, _]) hs rfl rfl rfl) ?_
      refine l_q (by exact y_ldA (vs := [_, _]) hs rfl rfl rfl) ?_
      refine l_q (by exact y_mv_bool rfl) ?_
      refine l_w (w_call rfl (find_nil x now p.proto p.src (portA p) p.dst (portB p) inw hs) rfl (fun _ w h => ?_))
      obtain ⟨rfl, hs⟩ := h
      refine l_q (by exact y_mv_tuple rfl) ?_
      refine l_q (by exact y_extract rfl rfl) ?_
      refine l_q (by exact y_extract rfl rfl) ?_
      refine l_q (by exact y_as_int rfl) ?_
      refine l_q (by exact y_as_int rfl) ?_
      refine l_end ?_
      refine e_then ?_
      refine s_seq ?_
      refine s_reg ?_
      refine l_q (by exact y_mv_int rfl) ?_
      refine l_q (by first | exact y_geq rfl rfl (decide_eq_true (by omega)) | exact y_geq rfl rfl (decide_eq_false (by omega)) | exact y_geq rfl rfl rfl) ?_
      refine l_end ?_
      refine e_then ?_
      refine cond_f rfl ?_
      refine s_skip ?_
      refine e_then ?_
      refine s_seq ?_
      refine r_dr (.q 0 (.q 1 (.q 2 (.q 3 (.q 4 (.w 5 (.q 6 (.q 7 (.q 8 (.q 9 (.q 10 (.nil)))))))))))) 10 hs mixed (by kernel_rfl) (fun hs => ?_)
      refine c_q rfl (by first | exact hs | exact hs.subl | exact hs.cellAt rfl | trivial) (fun _ _ _ h => h) (fun w hs => by exact y_mv_ptr rfl) ?_
      refine c_q rfl (by first | exact hs | exact hs.subl | exact hs.cellAt rfl | trivial) (fun _ _ _ h => h) (fun w hs => by first | exact y_nil rfl | exact y_nilf rfl) ?_
      refine c_q rfl (by first | exact hs | exact hs.subl | exact hs.cellAt rfl | trivial) (fun _ _ _ h => h) (fun w hs => by exact y_field rfl) ?_
      refine c_q rfl (by first | exact hs | exact hs.subl | exact hs.cellAt rfl | trivial) (fun _ _ _ h => h) (fun w hs => by exact y_ld hs rfl rfl) ?_
      refine c_q rfl (by first | exact hs | exact hs.subl | exact hs.cellAt rfl | trivial) (fun _ _ _ h => h) (fun w hs => by exact y_ldA (vs := [_, _, _, _, _, _, _, _, _]) hs rfl rfl rfl) ?_
      refine c_w rfl (w_call rfl (judge_v [x.r] x.rc p (hk.yes hm) (rdR_mem (b := x.g) (sp := x.sp) (e := 30) (by simp)) (fits1 hk.rf) hk.pf (by simp) hs) rfl (fun _ w h => ?_))
      obtain ⟨rfl, hs⟩ := h
      refine ⟨fun _ => by first | exact hs | exact hs.subl | exact hs.cellAt rfl | trivial, ?_⟩
      refine c_q rfl (by first | exact hs | exact hs.subl | exact hs.cellAt rfl | trivial) (fun _ _ _ h => h) (fun w hs => by exact y_mv_tuple rfl) ?_
      refine c_q rfl (by first | exact hs | exact hs.subl | exact hs.cellAt rfl | trivial) (fun _ _ _ h => h) (fun w hs => by exact y_extract rfl rfl) ?_
      refine c_q rfl (by first | exact hs | exact hs.subl | exact hs.cellAt rfl | trivial) (fun _ _ _ h => h) (fun w hs => by exact y_extract rfl rfl) ?_
      refine c_q rfl (by first | exact hs | exact hs.subl | exact hs.cellAt rfl | trivial) (fun _ _ _ h => h) (fun w hs => by exact y_as_int rfl) ?_
      refine c_q rfl (by first | exact hs | exact hs.subl | exact hs.cellAt rfl | trivial) (fun _ _ _ h => h) (fun w hs => by exact y_as_int rfl) ?_
      refine c_end ?_
      refine e_then ?_
      refine s_seq ?_
      refine s_seq ?_
      refine s_reg ?_
      refine l_q (by exact y_mv_int rfl) ?_
      refine l_q (by first | exact y_lss rfl rfl (decide_eq_true (by omega)) | exact y_lss rfl rfl (decide_eq_false (by omega)) | exact y_lss rfl rfl rfl) ?_
      refine l_q (by exact y_mv_bool rfl) ?_
      first | refine l_gskip rfl rfl ?_ | refine l_gskip_u rfl rfl ?_ | refine l_gdo rfl rfl (by exact y_mv_ptr rfl) ?_
      first | refine l_gskip rfl rfl ?_ | refine l_gskip_u rfl rfl ?_ | refine l_gdo rfl rfl (by first | exact y_nil rfl | exact y_nilf rfl) ?_
      first | refine l_gskip rfl rfl ?_ | refine l_gskip_u rfl rfl ?_ | refine l_gdo rfl rfl (by exact y_field rfl) ?_
      first | refine l_gskip rfl rfl ?_ | refine l_gskip_u rfl rfl ?_ | refine l_gdo rfl rfl (by exact y_ld hs rfl rfl) ?_
      first | refine l_gskip rfl rfl ?_ | refine l_gskip_u rfl rfl ?_ | refine l_gdo rfl rfl (by exact y_mv_int rfl) ?_
      first | refine l_gskip rfl rfl ?_ | refine l_gskip_u rfl rfl ?_ | refine l_gdo rfl rfl (by exact y_indexT (off := 0) rfl rfl (by decide) (by decide) rfl rfl) ?_
      first | refine l_gskip rfl rfl ?_ | refine l_gskip_u rfl rfl ?_ | refine l_gdo rfl rfl (by exact y_field rfl) ?_
      first | refine l_gskip rfl rfl ?_ | refine l_gskip_u rfl rfl ?_ | refine l_gdo rfl rfl (by exact y_ld (v := .bool true) hs rfl (by show some (Value.bool x.r.permit) = _; rw [hk.pm])) ?_
      first | refine l_gskip rfl rfl ?_ | refine l_gskip_u rfl rfl ?_ | refine l_gdo rfl rfl (by first | exact y_not_t rfl | exact y_not_f rfl | exact y_notd rfl) ?_
      refine l_q (by first | exact y_pk_bt rfl rfl | exact y_pk_bf rfl rfl) ?_
      refine l_end ?_
      refine e_then ?_
      refine cond_f rfl ?_
      refine s_skip ?_
      refine e_then ?_
      refine s_seq ?_
      refine s_reg ?_
      refine l_q (by exact y_field rfl) ?_
      refine l_q (by exact y_ld hs rfl rfl) ?_
      refine l_q (by first | exact y_neq rfl rfl (decide_eq_true (by omega)) | exact y_neq rfl rfl (decide_eq_false (by omega)) | exact y_neq rfl rfl rfl) ?_
      refine l_q (by exact y_mv_bool rfl) ?_
      first | refine l_gskip rfl rfl ?_ | refine l_gskip_u rfl rfl ?_ | refine l_gdo rfl rfl (by exact y_ldA (vs := [_, _, _, _, _, _, _, _, _]) hs rfl rfl rfl) ?_
      first | refine l_gskip rfl rfl ?_ | refine l_gskip_u rfl rfl ?_ | (refine l_gw rfl rfl (w_call rfl (flags_c p hk.pf hs) rfl (fun _ w h => ?_)); obtain ⟨rfl, hs⟩ := h)
      first | refine l_gskip rfl rfl ?_ | refine l_gskip_u rfl rfl ?_ | refine l_gdo rfl rfl (by exact y_toInt (b := (fv : Int)) (y_and64 (b := 22) rfl rfl (by have := flagF_lt p; omega) (by decide)) (by rw [hu])) ?_
      first | refine l_gskip rfl rfl ?_ | refine l_gskip_u rfl rfl ?_ | refine l_gdo rfl rfl (by first | exact y_eql rfl rfl (decide_eq_true (by omega)) | exact y_eql rfl rfl (decide_eq_false (by omega)) | exact y_eql rfl rfl rfl) ?_
      refine l_q (by first | exact y_pk_bt rfl rfl | exact y_pk_bf rfl rfl) ?_
      refine l_q (by exact y_as_bool rfl) ?_
      refine l_end ?_
      refine e_then ?_
      refine s_seq ?_
      refine s_seq ?_
      refine s_reg ?_
      refine l_q (by exact y_toV (y_mv_bool rfl) (congrArg Value.bool hcis)) ?_
      refine l_q (by exact y_mv_bool rfl) ?_
      first | refine l_gskip rfl rfl ?_ | refine l_gskip_u rfl rfl ?_ | refine l_gdo rfl rfl (by exact y_mv_bool rfl) ?_
      refine l_q (by first | exact y_pk_bt rfl rfl | exact y_pk_bf rfl rfl) ?_
      refine l_q (by exact y_mv_bool rfl) ?_
      first | refine l_gskip rfl rfl ?_ | refine l_gskip_u rfl rfl ?_ | refine l_gdo rfl rfl (by exact y_mv_ptr rfl) ?_
      first | refine l_gskip rfl rfl ?_ | refine l_gskip_u rfl rfl ?_ | refine l_gdo rfl rfl (by first | exact y_nil rfl | exact y_nilf rfl) ?_
      first | refine l_gskip rfl rfl ?_ | refine l_gskip_u rfl rfl ?_ | refine l_gdo rfl rfl (by exact y_field rfl) ?_
      first | refine l_gskip rfl rfl ?_ | refine l_gskip_u rfl rfl ?_ | refine l_gdo rfl rfl (by exact y_ld hs rfl rfl) ?_
      first | refine l_gskip rfl rfl ?_ | refine l_gskip_u rfl rfl ?_ | refine l_gdo rfl rfl (by exact y_len_slice rfl) ?_
      first | refine l_gskip rfl rfl ?_ | refine l_gskip_u rfl rfl ?_ | refine l_gdo rfl rfl (by first | exact y_lss rfl rfl (decide_eq_true (by omega)) | exact y_lss rfl rfl (decide_eq_false (by omega)) | exact y_lss rfl rfl rfl) ?_
      refine l_q (by first | exact y_pk_bt rfl rfl | exact y_pk_bf rfl rfl) ?_
      refine l_end ?_
      refine e_then ?_
      refine cond_t rfl ?_
      refine r_dr (.q 0 (.q 1 (.q 2 (.q 3 (.q 4 (.q 5 (.q 6 (.q 7 (.q 8 (.q 9 (.q 10 (.q 11 (.q 12 (.w 13 (.w 14 (.q 15 (.q 16 (.w 17 (.nil))))))))))))))))))) 17 hs mixed (by kernel_rfl) (fun hs => ?_)
      refine c_q rfl (by first | exact hs | exact hs.subl | exact hs.cellAt rfl | trivial) (fun _ _ _ h => h) (fun w hs => by exact y_mv_ptr rfl) ?_
      refine c_q rfl (by first | exact hs | exact hs.subl | exact hs.cellAt rfl | trivial) (fun _ _ _ h => h) (fun w hs => by exact y_mv_ptr rfl) ?_
      refine c_q rfl (by first | exact hs | exact hs.subl | exact hs.cellAt rfl | trivial) (fun _ _ _ h => h) (fun w hs => by first | exact y_nil rfl | exact y_nilf rfl) ?_
      refine c_q rfl (by first | exact hs | exact hs.subl | exact hs.cellAt rfl | trivial) (fun _ _ _ h => h) (fun w hs => by exact y_field rfl) ?_
      refine c_q rfl (by first | exact hs | exact hs.subl | exact hs.cellAt rfl | trivial) (fun _ _ _ h => h) (fun w hs => by exact y_ld hs rfl rfl) ?_
      refine c_q rfl (by first | exact hs | exact hs.subl | exact hs.cellAt rfl | trivial) (fun _ _ _ h => h) (fun w hs => by exact y_field rfl) ?_
      refine c_q rfl (by first | exact hs | exact hs.subl | exact hs.cellAt rfl | trivial) (fun _ _ _ h => h) (fun w hs => by exact y_ld hs rfl rfl) ?_
      refine c_q rfl (by first | exact hs | exact hs.subl | exact hs.cellAt rfl | trivial) (fun _ _ _ h => h) (fun w hs => by exact y_ldA (vs := [_, _]) hs rfl rfl rfl) ?_
      refine c_q rfl (by first | exact hs | exact hs.subl | exact hs.cellAt rfl | trivial) (fun _ _ _ h => h) (fun w hs => by exact y_ldA (vs := [_, _]) hs rfl rfl rfl) ?_
      refine c_q rfl (by first | exact hs | exact hs.subl | exact hs.cellAt rfl | trivial) (fun _ _ _ h => h) (fun w hs => by exact y_mv_bool rfl) ?_
      refine c_q rfl (by first | exact hs | exact hs.subl | exact hs.cellAt rfl | trivial) (fun _ _ _ h => h) (fun w hs => by exact y_mv_int rfl) ?_
      refine c_q rfl (by first | exact hs | exact hs.subl | exact hs.cellAt rfl | trivial) (fun _ _ _ h => h) (fun w hs => by first | exact y_addn rfl rfl (by omega) | exact y_add rfl rfl rfl) ?_
      refine c_q rfl (by first | exact hs | exact hs.subl | exact hs.cellAt rfl | trivial) (fun _ _ _ h => h) (fun w hs => by exact y_build (pv := [(0, .int .i64 _), (1, .agg (List.toArray [_, _])), (2, .agg (List.toArray [_, _])), (3, .bool _), (5, .int .i64 _)]) (vs := [_, _, _, _, _, _, _, _, _]) rfl rfl) ?_
      refine c_w rfl (w_buildSliceV (pv := [.agg (List.toArray [_, _, _, _, _, _, _, _, _])]) (cs := [_, _, _, _, _, _, _, _, _]) hs rfl rfl rfl rfl rfl rfl (fun b126 w hs hb126 => ?_))
      refine ⟨fun _ => by first | exact hs | exact hs.subl | exact hs.cellAt rfl | trivial, ?_⟩
      refine c_w rfl (w_appendG (s := OS.nl) (xs := []) (len := 0) (sz := 9) (bs := 56) (ys := [I64 p.proto, U32 p.src, I64 (portA p : Nat), U32 p.dst, I64 (portB p : Nat), .bool inw, .bool false, .bool false, I64 (now + 500)]) [] hs (OS.ok_nl 9) rfl rfl rfl (fun w1 h1 => run_firstCells (b := b126) (k := 9) (o := 0) (m := 1) (cs := [I64 p.proto, U32 p.src, I64 (portA p : Nat), U32 p.dst, I64 (portB p : Nat), .bool inw, .bool false, .bool false, I64 (now + 500)]) h1 (List.mem_cons_self ..) (Nat.le_refl 9)) rfl rfl (.inl (by decide)) (by decide) (by decide) (fun s1 w ok1 hg1 hs => ?_))
      obtain ⟨g1, hg1⟩ := hg1; simp only [OS.blk, OS.ad, hg1, List.nil_append, List.singleton_append, Nat.zero_add, Option.map_some] at hs ⊢
      refine ⟨fun _ => by first | exact hs | exact hs.subl | exact hs.cellAt rfl | trivial, ?_⟩
      refine c_q rfl (by first | exact hs | exact hs.subl | exact hs.cellAt rfl | trivial) (fun _ _ _ h => h) (fun w hs => by first | exact y_nil rfl | exact y_nilf rfl) ?_
      refine c_q rfl (by first | exact hs | exact hs.subl | exact hs.cellAt rfl | trivial) (fun _ _ _ h => h) (fun w hs => by exact y_field rfl) ?_
      refine c_w rfl (w_store (v := .slice _ _ _) hs rfl rfl rfl rfl (fun w hs => ?_))
      refine ⟨fun h => absurd rfl h, ?_⟩
      refine c_end ?_
      refine e_then ?_
      refine s_seq ?_
      refine s_reg ?_
      refine l_q (by exact y_as_bool rfl) ?_
      refine l_q (by exact y_as_int rfl) ?_
      refine l_end ?_
      refine e_then ?_
      refine s_ret ?_
      have hs := St.swap (hs.sub (.cons_cons _ (.cons _ (.cons_cons _ (.cons_cons _ (.cons _ (.cons _ (.cons _ (List.Sublist.refl _)))))))))
      exact ret_ [.bool _, .int .i64 _] rfl ⟨rfl, rfl, trivial⟩ ⟨rfl, g1, s1.cap, s1.sp, hs⟩
end Go.Proofs.Ytagdgalnaobpeaa
