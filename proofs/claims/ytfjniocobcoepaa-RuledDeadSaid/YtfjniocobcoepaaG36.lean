/- Facts on the functions and types of this seat that its laws are proved from: contracts under the premises that each theorem names. -/
import Derived.Test.YtfjniocobcoepaaG35
import Derived.Test.YtfjniocobcoepaaEnh
set_option linter.unusedSimpArgs false
set_option linter.unusedVariables false
set_option linter.unnecessarySimpa false
namespace Go.Proofs.Ytfjniocobcoepaa
open Go Go.RowKit PB
set_option linter.unusedVariables false
set_option linter.unusedSimpArgs false

/-! ### get and packet -/
section
variable {P : Program} {w : World} {ρ : Operand → Value} {x y : Operand} {t s : TypeId} {ty : TypeId}
theorem y_shr8 {n : Nat} {k2 : IntKind} (hx : ρ x = .int .i64 (n : Int)) (hy : ρ y = .int k2 8) : Yld P ρ (.binOp .shr t x y s) ty w (.int .i64 ((n / 256 : Nat) : Int)) := by
  refine y_shr hx hy (by decide) ?_
  have h1 : min (8 : Int).toNat IntKind.i64.bits = 8 := rfl
  rw [h1, Int.fdiv_eq_ediv_of_nonneg _ (by exact_mod_cast Nat.zero_le _)]
  rfl
theorem wrap_u8n (a : Nat) : IntKind.u8.wrap (a : Int) = ((a % 256 : Nat) : Int) := by rw [IntKind.wrap_u8]; omega
end
theorem get_c {W0 w : World} {L : List (Nat × MObj)} {bb : Nat} {bl : List Bool} {n f size : Nat} [ib : InL bb (.cells (bl.map Value.bool) 4) L] (hn : bl.length = n) (hn2 : n ≤ 1000) (hf : f + size ≤ n) (hsz : size ≤ 32) (hs : St W0 w L) :
    FnC Try.prog 62 [.slice (some ⟨bb, 0, none⟩) n n, I64 f, I64 size] w (fun v w' => v = I64 (numB (envB bl) f size : Nat) ∧ St W0 w' L) := by
  refine FnC.enter Try.func62 rfl Try.ntmps62 rfl fun ρ => ?_
  refine s_seq ?_
  refine s_reg ?_
  refine l_q (by exact y_as_int rfl) ?_
  refine l_end ?_
  refine e_then ?_
  refine s_seq ?_
  refine s_reg ?_
  refine l_q (by exact y_as_int rfl) ?_
  refine l_end ?_
  refine e_then ?_
  refine s_seq ?_
  refine s_seq ?_
  refine s_reg ?_
  refine l_q (by exact y_mv_int rfl) ?_
  refine l_q (by exact y_mv_int rfl) ?_
  refine l_end ?_
  refine e_then ?_
  refine s_block ?_
  refine loop_st (X := Nat) (fun i => [(0, .slice (some ⟨bb, 0, none⟩) n n), (1, I64 f), (2, I64 size), (7, I64 (numB (envB bl) f i : Nat)), (9, I64 size), (10, I64 i)])
    (fun i w => St W0 w L ∧ i ≤ size) (fun i => size - i) 0 ⟨rfl, rfl, rfl, rfl, rfl, rfl, trivial⟩ ⟨hs, Nat.zero_le _⟩ ?_
  clear hs
  rintro i ρ w ⟨hs, hi⟩
  have hlt := numB_lt (envB bl) f i
  have hp : 2 ^ i ≤ 2 ^ 32 := Nat.pow_le_pow_right (by decide) (by omega)
  have hnx : numB (envB bl) f (i + 1) = numB (envB bl) f i * 2 + (if envB bl (f + i) then 1 else 0) := rfl
  by_cases c : i < size
  · have hbit := bool_get (bl := bl) (i := f + i) (by omega)
    cases hb : envB bl (f + i) with
    | true =>
      rw [hb] at hbit hnx
      refine s_seq ?_
      refine s_reg ?_
      refine l_q (by first | exact y_lss rfl rfl (decide_eq_true (by omega)) | exact y_lss rfl rfl (decide_eq_false (by omega)) | exact y_lss rfl rfl rfl) ?_
      refine l_end ?_
      refine e_then ?_
      refine s_seq ?_
      refine cond_t rfl ?_
      refine s_skip ?_
      refine e_then ?_
      refine s_seq ?_
      refine s_block ?_
      refine s_seq ?_
      refine s_reg ?_
      refine l_q (by exact y_mv_int rfl) ?_
      refine l_q (by exact y_as_int rfl) ?_
      refine l_end ?_
      refine e_then ?_
      refine s_seq ?_
      refine s_reg ?_
      refine l_q (by exact y_mv_int rfl) ?_
      refine l_q (by exact y_toInt (b := ((numB (envB bl) f i * 2 : Nat) : Int)) (y_muln rfl rfl (by omega)) (by omega)) ?_
      refine l_q (by exact y_as_int rfl) ?_
      refine l_end ?_
      refine e_then ?_
      refine s_seq ?_
      refine s_reg ?_
      refine l_q (by exact y_mv_slice rfl) ?_
      refine l_q (by exact y_mv_int rfl) ?_
      refine l_q (by exact y_mv_int rfl) ?_
      refine l_q (by exact y_toInt (b := ((f + i : Nat) : Int)) (y_addn rfl rfl (by omega)) (by omega)) ?_
      refine l_q (by exact y_indexT (off := f + i) rfl rfl (by omega) (by omega) rfl (by omega)) ?_
      refine l_q (by exact y_ld hs rfl hbit) ?_
      refine l_end ?_
      refine e_then ?_
      refine cond_t rfl ?_
      refine s_reg ?_
      refine l_q (by exact y_mv_int rfl) ?_
      refine l_q (by exact y_toInt (b := ((numB (envB bl) f (i + 1) : Nat) : Int)) (y_addn rfl rfl (by omega)) (by rw [hnx]; simp)) ?_
      refine l_q (by exact y_as_int rfl) ?_
      refine l_end ?_
      refine e_blk ?_
      refine e_then ?_
      refine s_reg ?_
      refine l_q (by exact y_toInt (b := ((i + 1 : Nat) : Int)) (y_addn rfl rfl (by omega)) (by omega)) ?_
      refine l_q (by exact y_mv_int rfl) ?_
      refine l_end ?_
      refine e_then ?_
      exact ⟨i + 1, _, nx ⟨rfl, rfl, rfl, rfl, rfl, rfl, trivial⟩, ⟨hs, by omega⟩, by omega⟩
    | false =>
      rw [hb] at hbit hnx
      refine s_seq ?_
      refine s_reg ?_
      refine l_q (by first | exact y_lss rfl rfl (decide_eq_true (by omega)) | exact y_lss rfl rfl (decide_eq_false (by omega)) | exact y_lss rfl rfl rfl) ?_
      refine l_end ?_
      refine e_then ?_
      refine s_seq ?_
      refine cond_t rfl ?_
      refine s_skip ?_
      refine e_then ?_
      refine s_seq ?_
      refine s_block ?_
      refine s_seq ?_
      refine s_reg ?_
      refine l_q (by exact y_mv_int rfl) ?_
      refine l_q (by exact y_as_int rfl) ?_
      refine l_end ?_
      refine e_then ?_
      refine s_seq ?_
      refine s_reg ?_
      refine l_q (by exact y_mv_int rfl) ?_
      refine l_q (by exact y_toInt (b := ((numB (envB bl) f i * 2 : Nat) : Int)) (y_muln rfl rfl (by omega)) (by omega)) ?_
      refine l_q (by exact y_as_int rfl) ?_
      refine l_end ?_
      refine e_then ?_
      refine s_seq ?_
      refine s_reg ?_
      refine l_q (by exact y_mv_slice rfl) ?_
      refine l_q (by exact y_mv_int rfl) ?_
      refine l_q (by exact y_mv_int rfl) ?_
      refine l_q (by exact y_toInt (b := ((f + i : Nat) : Int)) (y_addn rfl rfl (by omega)) (by omega)) ?_
      refine l_q (by exact y_indexT (off := f + i) rfl rfl (by omega) (by omega) rfl (by omega)) ?_
      refine l_q (by exact y_ld hs rfl hbit) ?_
      refine l_end ?_
      refine e_then ?_
      refine cond_f rfl ?_
      refine s_skip ?_
      refine e_blk ?_
      refine e_then ?_
      refine s_reg ?_
      refine l_q (by exact y_toInt (b := ((i + 1 : Nat) : Int)) (y_addn rfl rfl (by omega)) (by omega)) ?_
      refine l_q (by exact y_mv_int rfl) ?_
      refine l_end ?_
      refine e_then ?_
      exact ⟨i + 1, _, nx ⟨rfl, rfl, rfl, by rw [hnx]; rfl, rfl, rfl, trivial⟩, ⟨hs, by omega⟩, by omega⟩
  · have : i = size := by omega
    subst this
    refine s_seq ?_
    refine s_reg ?_
    refine l_q (by first | exact y_lss rfl rfl (decide_eq_true (by omega)) | exact y_lss rfl rfl (decide_eq_false (by omega)) | exact y_lss rfl rfl rfl) ?_
    refine l_end ?_
    refine e_then ?_
    refine s_seq ?_
    refine cond_f rfl ?_
    refine s_exit ?_
    refine e_then_x ?_
    refine e_then_x ?_
    refine e_blk_x ?_
    refine e_then ?_
    refine s_seq ?_
    refine s_reg ?_
    refine l_q (by exact y_mv_int rfl) ?_
    refine l_q (by exact y_as_int rfl) ?_
    refine l_end ?_
    refine e_then ?_
    refine s_ret ?_
    exact ret_ [.int .i64 _] rfl ⟨rfl, trivial⟩ ⟨rfl, hs⟩

/-- The packet of given bits. -/
def pkV (e : Nat → Bool) : PktV := ⟨numB e 41 32, numB e 73 32, (numB e 0 8 : Nat), 64, 0, 0, false, false, if e 8 = true then strB [numB e 9 16 / 256 % 256, numB e 9 16 % 256, numB e 25 16 / 256 % 256, numB e 25 16 % 256] else ByteArray.empty⟩
theorem packet_c {W0 w : World} {L : List (Nat × MObj)} {bb : Nat} {bl : List Bool} [ib : InL bb (.cells (bl.map Value.bool) 4) L] (hbl : bl.length = 105) (hs : St W0 w L) :
    FnC Try.prog 56 [.slice (some ⟨bb, 0, none⟩) 105 105] w (fun v w' => v = .agg (pkV (envB bl)).cells.toArray ∧ St W0 w' L) := by
  have k1 := numB_lt (envB bl) 41 32
  have k2 := numB_lt (envB bl) 73 32
  have hbit := bool_get (bl := bl) (i := 8) (by omega)
  refine FnC.enter Try.func56 rfl Try.ntmps56 rfl fun ρ => ?_
  cases hb : envB bl 8 with
  | true =>
    have e : pkV (envB bl) = ⟨numB (envB bl) 41 32, numB (envB bl) 73 32, (numB (envB bl) 0 8 : Nat), 64, 0, 0, false, false, strB [numB (envB bl) 9 16 / 256 % 256, numB (envB bl) 9 16 % 256, numB (envB bl) 25 16 / 256 % 256, numB (envB bl) 25 16 % 256]⟩ := by unfold pkV; rw [if_pos hb]
    rw [e]
    rw [hb] at hbit
    refine s_seq ?_
    refine s_reg ?_
    refine l_w (w_alloc (cs := [_, _, _, _, _, _, _, _, _]) hs rfl (fun b2 w hs hb2 => ?_))
    refine l_end ?_
    refine e_then ?_
    refine s_seq ?_
    refine s_reg ?_
    refine l_q (by exact y_mv_slice rfl) ?_
    refine l_w (w_call rfl (get_c (bl := bl) (f := 41) (size := 32) hbl (by omega) (by omega) (by omega) hs) rfl (fun _ w h => ?_))
    obtain ⟨rfl, hs⟩ := h
    refine l_q (by exact y_conv_int rfl (by rw [wrap_u32n (by omega)])) ?_
    refine l_q (by exact y_mv_slice rfl) ?_
    refine l_w (w_call rfl (get_c (bl := bl) (f := 73) (size := 32) hbl (by omega) (by omega) (by omega) hs) rfl (fun _ w h => ?_))
    obtain ⟨rfl, hs⟩ := h
    refine l_q (by exact y_conv_int rfl (by rw [wrap_u32n (by omega)])) ?_
    refine l_q (by exact y_mv_slice rfl) ?_
    refine l_w (w_call rfl (get_c (bl := bl) (f := 0) (size := 8) hbl (by omega) (by omega) (by omega) hs) rfl (fun _ w h => ?_))
    obtain ⟨rfl, hs⟩ := h
    refine l_q (by exact y_build (pv := [(0, .int .u32 _), (1, .int .u32 _), (2, .int .i64 _), (3, .int .i64 _)]) (vs := [_, _, _, _, _, _, _, _, _]) rfl rfl) ?_
    refine l_w (w_alloc (cs := [_, _, _, _, _, _, _, _, _]) hs rfl (fun b3 w hs hb3 => ?_))
    refine l_w (w_storeA (vs := [_, _, _, _, _, _, _, _, _]) hs rfl rfl rfl rfl rfl (fun w hs => ?_))
    refine l_end ?_
    refine e_then ?_
    refine s_seq ?_
    refine s_seq ?_
    refine s_reg ?_
    refine l_q (by exact y_mv_slice rfl) ?_
    refine l_q (by exact y_indexT (off := 8) rfl rfl (by omega) (by omega) rfl (by omega)) ?_
    refine l_q (by exact y_ld hs rfl hbit) ?_
    refine l_end ?_
    refine e_then ?_
    refine cond_t rfl ?_
    refine s_seq ?_
    refine s_reg ?_
    refine l_q (by exact y_mv_slice rfl) ?_
    refine l_w (w_call rfl (get_c (bl := bl) (f := 9) (size := 16) hbl (by omega) (by omega) (by omega) hs) rfl (fun _ w h => ?_))
    obtain ⟨rfl, hs⟩ := h
    refine l_q (by exact y_mv_slice rfl) ?_
    refine l_w (w_call rfl (get_c (bl := bl) (f := 25) (size := 16) hbl (by omega) (by omega) (by omega) hs) rfl (fun _ w h => ?_))
    obtain ⟨rfl, hs⟩ := h
    refine l_q (by exact y_as_int rfl) ?_
    refine l_q (by exact y_as_int rfl) ?_
    refine l_end ?_
    refine e_then ?_
    refine s_reg ?_
    refine l_q (by exact y_mv_int rfl) ?_
    refine l_q (by exact y_shr8 rfl rfl) ?_
    refine l_q (by exact y_conv_int rfl (by rw [wrap_u8n])) ?_
    refine l_q (by exact y_mv_int rfl) ?_
    refine l_q (by exact y_conv_int rfl (by rw [wrap_u8n])) ?_
    refine l_q (by exact y_mv_int rfl) ?_
    refine l_q (by exact y_shr8 rfl rfl) ?_
    refine l_q (by exact y_conv_int rfl (by rw [wrap_u8n])) ?_
    refine l_q (by exact y_mv_int rfl) ?_
    refine l_q (by exact y_conv_int rfl (by rw [wrap_u8n])) ?_
    refine l_w (w_buildSlice (pv := [(0, .int .u8 _), (1, .int .u8 _), (2, .int .u8 _), (3, .int .u8 _)]) (vs := [_, _, _, _]) hs rfl rfl rfl rfl (fun b32 w hs hb32 => ?_))
    refine l_q (by exact y_b2s (l := [numB (envB bl) 9 16 / 256 % 256, numB (envB bl) 9 16 % 256, numB (envB bl) 25 16 / 256 % 256, numB (envB bl) 25 16 % 256]) hs rfl rfl rfl rfl) ?_
    refine l_q (by exact y_field rfl) ?_
    refine l_w (w_store (v := .string _) hs rfl rfl rfl rfl (fun w hs => ?_))
    refine l_end ?_
    refine e_then ?_
    refine s_seq ?_
    refine s_reg ?_
    refine l_q (by exact y_ldA (vs := [_, _, _, _, _, _, _, _, _]) hs rfl rfl rfl) ?_
    refine l_w (w_storeA (vs := [_, _, _, _, _, _, _, _, _]) hs rfl rfl rfl rfl rfl (fun w hs => ?_))
    refine l_end ?_
    refine e_then ?_
    refine s_ret ?_
    exact ret_ [.agg (List.toArray [_, _, _, _, _, _, _, _, _])] rfl ⟨⟨_, rfl, run_ldA hs rfl rfl⟩, trivial⟩ ⟨rfl, hs.subl⟩
  | false =>
    have e : pkV (envB bl) = ⟨numB (envB bl) 41 32, numB (envB bl) 73 32, (numB (envB bl) 0 8 : Nat), 64, 0, 0, false, false, ByteArray.empty⟩ := by unfold pkV; rw [if_neg (by rw [hb]; decide)]
    rw [e]
    rw [hb] at hbit
    refine s_seq ?_
    refine s_reg ?_
    refine l_w (w_alloc (cs := [_, _, _, _, _, _, _, _, _]) hs rfl (fun b2 w hs hb2 => ?_))
    refine l_end ?_
    refine e_then ?_
    refine s_seq ?_
    refine s_reg ?_
    refine l_q (by exact y_mv_slice rfl) ?_
    refine l_w (w_call rfl (get_c (bl := bl) (f := 41) (size := 32) hbl (by omega) (by omega) (by omega) hs) rfl (fun _ w h => ?_))
    obtain ⟨rfl, hs⟩ := h
    refine l_q (by exact y_conv_int rfl (by rw [wrap_u32n (by omega)])) ?_
    refine l_q (by exact y_mv_slice rfl) ?_
    refine l_w (w_call rfl (get_c (bl := bl) (f := 73) (size := 32) hbl (by omega) (by omega) (by omega) hs) rfl (fun _ w h => ?_))
    obtain ⟨rfl, hs⟩ := h
    refine l_q (by exact y_conv_int rfl (by rw [wrap_u32n (by omega)])) ?_
    refine l_q (by exact y_mv_slice rfl) ?_
    refine l_w (w_call rfl (get_c (bl := bl) (f := 0) (size := 8) hbl (by omega) (by omega) (by omega) hs) rfl (fun _ w h => ?_))
    obtain ⟨rfl, hs⟩ := h
    refine l_q (by exact y_build (pv := [(0, .int .u32 _), (1, .int .u32 _), (2, .int .i64 _), (3, .int .i64 _)]) (vs := [_, _, _, _, _, _, _, _, _]) rfl rfl) ?_
    refine l_w (w_alloc (cs := [_, _, _, _, _, _, _, _, _]) hs rfl (fun b3 w hs hb3 => ?_))
    refine l_w (w_storeA (vs := [_, _, _, _, _, _, _, _, _]) hs rfl rfl rfl rfl rfl (fun w hs => ?_))
    refine l_end ?_
    refine e_then ?_
    refine s_seq ?_
    refine s_seq ?_
    refine s_reg ?_
    refine l_q (by exact y_mv_slice rfl) ?_
    refine l_q (by exact y_indexT (off := 8) rfl rfl (by omega) (by omega) rfl (by omega)) ?_
    refine l_q (by exact y_ld hs rfl hbit) ?_
    refine l_end ?_
    refine e_then ?_
    refine cond_f rfl ?_
    refine s_skip ?_
    refine e_then ?_
    refine s_seq ?_
    refine s_reg ?_
    refine l_q (by exact y_ldA (vs := [_, _, _, _, _, _, _, _, _]) hs rfl rfl rfl) ?_
    refine l_w (w_storeA (vs := [_, _, _, _, _, _, _, _, _]) hs rfl rfl rfl rfl rfl (fun w hs => ?_))
    refine l_end ?_
    refine e_then ?_
    refine s_ret ?_
    exact ret_ [.agg (List.toArray [_, _, _, _, _, _, _, _, _])] rfl ⟨⟨_, rfl, run_ldA hs rfl rfl⟩, trivial⟩ ⟨rfl, hs.subl⟩
end Go.Proofs.Ytfjniocobcoepaa
