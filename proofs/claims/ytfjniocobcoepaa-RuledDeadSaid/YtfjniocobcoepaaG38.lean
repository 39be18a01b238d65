/- Facts on the functions and types of this seat that its laws are proved from: contracts under the premises that each theorem names. -/
import Derived.Test.YtfjniocobcoepaaG37
set_option linter.unusedSimpArgs false
set_option linter.unusedVariables false
set_option linter.unnecessarySimpa false
namespace Go.Proofs.Ytfjniocobcoepaa
open Go Go.RowKit PB
set_option linter.unusedVariables false
set_option linter.unusedSimpArgs false

/-! ### newMaker -/
theorem newMaker_k {W0 w : World} {L : List (Nat × MObj)} (hs : St W0 w L) :
    FnC Try.prog 43 [] w (fun v w' => ∃ (M : MB) (mb : Nat), v = mkP mb ∧ Dg W0 w' M (initS 105) ((mb, mkO M) :: L)) := by
  refine FnC.enter Try.func43 rfl Try.ntmps43 rfl fun ρ => ?_
  refine s_seq ?_
  refine s_reg ?_
  refine l_q (by exact y_as_ptr rfl) ?_
  refine l_end ?_
  refine e_then ?_
  refine s_seq ?_
  refine s_reg ?_
  refine l_w (w_call rfl (new_c (n := 105) (by decide) hs) rfl (fun _ w h => ?_))
  obtain ⟨M, rfl, hd⟩ := h; obtain ⟨os, hos, hs⟩ := hd.ex
  refine l_q (by exact y_mv_tuple rfl) ?_
  refine l_q (by exact y_extract rfl rfl) ?_
  refine l_q (by exact y_extract rfl rfl) ?_
  refine l_q (by exact y_as_ptr rfl) ?_
  refine l_q (by exact y_as_int rfl) ?_
  refine l_end ?_
  refine e_then ?_
  refine s_seq ?_
  refine s_reg ?_
  refine l_q (by exact y_mv_ptr rfl) ?_
  refine l_q (by exact y_mv_int rfl) ?_
  refine l_q (by exact y_build (pv := [(0, .pointer _), (1, .int .i64 _)]) (vs := [_, _]) rfl rfl) ?_
  refine l_w (w_boxA (vs := [_, _]) hs rfl (fun b10 w hs hb10 => ?_))
  refine l_q (by exact y_as_ptr rfl) ?_
  refine l_end ?_
  refine e_then ?_
  refine s_ret ?_
  exact ret_ [.pointer _] rfl ⟨rfl, trivial⟩ ⟨M, b10, rfl, os, hos, stB_rot hs⟩

/-! ### put -/
theorem put_c {W0 w : World} {L : List (Nat × MObj)} {bb : Nat} {bl : List Bool} {n f size v : Nat} (hn : bl.length = n) (hn2 : n ≤ 1000) (hf : f + size ≤ n) (hsz : size ≤ 32) (hv : v < 4294967296) (hs : St W0 w ((bb, .cells (bl.map Value.bool) 4) :: L)) :
    FnC Try.prog 52 [.slice (some ⟨bb, 0, none⟩) n n, I64 f, I64 size, I64 v] w (fun _ w' => ∃ bl' : List Bool, bl'.length = n ∧ St W0 w' ((bb, .cells (bl'.map Value.bool) 4) :: L)) := by
  refine FnC.enter Try.func52 rfl Try.ntmps52 rfl fun ρ => ?_
  refine s_seq ?_
  refine s_reg ?_
  refine l_q (by exact y_mv_int rfl) ?_
  refine l_q (by exact y_mv_int rfl) ?_
  refine l_end ?_
  refine e_then ?_
  refine s_block ?_
  refine loop_st (X := Nat × List Bool) (fun y => [(0, .slice (some ⟨bb, 0, none⟩) n n), (1, I64 f), (2, I64 size), (3, I64 v), (9, I64 size), (10, I64 y.1)])
    (fun y w => St W0 w ((bb, .cells (y.2.map Value.bool) 4) :: L) ∧ y.1 ≤ size ∧ y.2.length = n) (fun y => size - y.1) (0, bl) ⟨rfl, rfl, rfl, rfl, rfl, rfl, trivial⟩ ⟨hs, Nat.zero_le _, hn⟩ ?_
  clear hs hn
  rintro ⟨i, bl⟩ ρ w ⟨hs, hi, hn⟩
  dsimp only at hs hi hn ⊢
  by_cases c : i < size
  · have hdiv : v / 2 ^ (size - 1 - i) ≤ v := Nat.div_le_self _ _
    refine s_seq ?_
    refine s_reg ?_
    refine l_q (by first | exact y_lss rfl rfl (decide_eq_true (by omega)) | exact y_lss rfl rfl (decide_eq_false (by omega)) | exact y_lss rfl rfl rfl) ?_
    refine l_end ?_
    refine e_then ?_
    refine s_seq ?_
    refine cond_t rfl ?_
    refine s_skip ?_
    refine e_then ?_
    refine s_seq ?_
    refine s_block ?_
    refine s_seq ?_
    refine s_reg ?_
    refine l_q (by exact y_mv_int rfl) ?_
    refine l_q (by exact y_as_int rfl) ?_
    refine l_end ?_
    refine e_then ?_
    refine s_reg ?_
    refine l_q (by exact y_mv_slice rfl) ?_
    refine l_q (by exact y_mv_int rfl) ?_
    refine l_q (by exact y_mv_int rfl) ?_
    refine l_q (by exact y_toInt (b := ((f + i : Nat) : Int)) (y_addn rfl rfl (by omega)) (by omega)) ?_
    refine l_q (by exact y_mv_int rfl) ?_
    refine l_q (by exact y_mv_int rfl) ?_
    refine l_q (by first | exact y_subn rfl rfl (by omega) | exact y_sub rfl rfl rfl) ?_
    refine l_q (by exact y_mv_int rfl) ?_
    refine l_q (by first | exact y_subn rfl rfl (by omega) | exact y_sub rfl rfl rfl) ?_
    refine l_q (by exact y_shrn (n := v) (k := size - 1 - i) rfl rfl (by omega) (by omega)) ?_
    refine l_q (by exact y_and1 (n := v / 2 ^ (size - 1 - i)) rfl rfl (by omega)) ?_
    refine l_q (by exact y_eql (r := decide (((v / 2 ^ (size - 1 - i) % 2 : Nat) : Int) = 1)) rfl rfl rfl) ?_
    refine l_q (by exact y_indexT (off := f + i) rfl rfl (by omega) (by omega) rfl (by omega)) ?_
    refine l_w (w_store (v := .bool _) (off := f + i) hs rfl rfl rfl (by rw [Nat.blt_eq, List.length_map]; omega) (fun w hs => ?_))
    rw [← List.map_set] at hs
    refine l_end ?_
    refine e_blk ?_
    refine e_then ?_
    refine s_reg ?_
    refine l_q (by exact y_toInt (b := ((i + 1 : Nat) : Int)) (y_addn rfl rfl (by omega)) (by omega)) ?_
    refine l_q (by exact y_mv_int rfl) ?_
    refine l_end ?_
    refine e_then ?_
    exact ⟨(i + 1, _), _, nx ⟨rfl, rfl, rfl, rfl, rfl, rfl, trivial⟩, ⟨hs, by dsimp only; omega, by dsimp only; rw [List.length_set]; exact hn⟩, by dsimp only; omega⟩
  · refine s_seq ?_
    refine s_reg ?_
    refine l_q (by first | exact y_lss rfl rfl (decide_eq_true (by omega)) | exact y_lss rfl rfl (decide_eq_false (by omega)) | exact y_lss rfl rfl rfl) ?_
    refine l_end ?_
    refine e_then ?_
    refine s_seq ?_
    refine cond_f rfl ?_
    refine s_exit ?_
    refine e_then_x ?_
    refine e_then_x ?_
    refine e_blk_x ?_
    exact end_ [] rfl trivial ⟨bl, hn, hs⟩

/-! ### Compile -/
theorem compile_k {W0 w : World} {L : List (Nat × MObj)} {a : Option Addr} {l : List RuleV} {cap : Nat} (hchk : lChk l = 0) (hr : RdR W0 L a l) (hok : ∀ r ∈ l, RuleOk r) (hl : l.length ≤ 8) (hN : allN l.length ≤ 50000) (hs : St W0 w L) :
    FnC Try.prog 40 [.slice a l.length cap] w (fun x w' => ∃ M s r cb, x = .tuple #[.pointer (some ⟨cb, 0, none⟩), I64 0] ∧ Nx (initS 105) s (allN l.length) ∧ Kn s r (allF l) ∧ Dg W0 w' M s ((cb, .cells [M.p, I64 (r : Nat)] 103) :: L)) := by
  have hfit : ∀ r ∈ l, r.fits := fun r h => (hok r h).tofits
  have hlen : l.length ≤ 9223372036854775807 := by omega
  refine FnC.enter Try.func40 rfl Try.ntmps40 rfl fun ρ => ?_
  refine s_seq ?_
  refine s_reg ?_
  refine l_q (by exact y_as_ptr rfl) ?_
  refine l_q (by exact y_as_int rfl) ?_
  refine l_end ?_
  refine e_then ?_
  refine s_seq ?_
  refine s_seq ?_
  refine s_reg ?_
  refine l_q (by exact y_mv_slice rfl) ?_
  refine l_w (w_call rfl (rcheck_v l cap hchk hr hfit hlen hs) rfl (fun _ w h => ?_))
  obtain ⟨rfl, hs⟩ := h
  refine l_q (by exact y_as_int rfl) ?_
  refine l_end ?_
  refine e_then ?_
  refine s_seq ?_
  refine s_reg ?_
  refine l_q (by exact y_mv_int rfl) ?_
  refine l_q (by first | exact y_neq rfl rfl (decide_eq_true (by omega)) | exact y_neq rfl rfl (decide_eq_false (by omega)) | exact y_neq rfl rfl rfl) ?_
  refine l_end ?_
  refine e_then ?_
  refine cond_f rfl ?_
  refine s_skip ?_
  refine e_then ?_
  refine s_seq ?_
  refine s_reg ?_
  refine l_w (w_call rfl (newMaker_k hs) rfl (fun _ w h => ?_))
  obtain ⟨M, mb, rfl, hd⟩ := h
  refine l_q (by exact y_as_ptr rfl) ?_
  refine l_end ?_
  refine e_then ?_
  refine s_seq ?_
  refine s_reg ?_
  refine l_q (by exact y_mv_ptr rfl) ?_
  refine l_q (by exact y_mv_slice rfl) ?_
  refine l_w (w_call rfl (all_k (l := l) (init_inv (by decide)) rfl (hr.mono fun w h => h.tail) hok (by omega) (by show 2 + _ ≤ _; omega) hd) rfl (fun _ w h => ?_))
  obtain ⟨s, r, rfl, N, K, hd⟩ := h; obtain ⟨os, hos, hs⟩ := hd.ex
  refine l_q (by exact y_as_int rfl) ?_
  refine l_end ?_
  refine e_then ?_
  refine s_seq ?_
  refine s_seq ?_
  refine s_reg ?_
  refine l_q (by exact y_mv_ptr rfl) ?_
  refine l_q (by first | exact y_nil rfl | exact y_nilf rfl) ?_
  refine l_q (by exact y_field rfl) ?_
  refine l_q (by exact y_ld hs rfl rfl) ?_
  refine l_q (by first | exact y_neq rfl rfl (decide_eq_true (by omega)) | exact y_neq rfl rfl (decide_eq_false (by omega)) | exact y_neq rfl rfl rfl) ?_
  refine l_end ?_
  refine e_then ?_
  refine cond_f rfl ?_
  refine s_skip ?_
  refine e_then ?_
  refine s_seq ?_
  refine s_reg ?_
  refine l_q (by exact y_mv_ptr rfl) ?_
  refine l_q (by first | exact y_nil rfl | exact y_nilf rfl) ?_
  refine l_q (by exact y_field rfl) ?_
  refine l_q (by exact y_ld hs rfl rfl) ?_
  refine l_q (by exact y_mv_int rfl) ?_
  refine l_q (by exact y_build (pv := [(0, .pointer _), (1, .int .i64 _)]) (vs := [_, _]) rfl rfl) ?_
  refine l_w (w_boxA (vs := [_, _]) hs rfl (fun b31 w hs hb31 => ?_))
  refine l_q (by exact y_as_ptr rfl) ?_
  refine l_q (by exact y_as_int rfl) ?_
  refine l_end ?_
  refine e_then ?_
  refine s_ret ?_
  exact ret_ [.pointer _, .int .i64 _] rfl ⟨rfl, rfl, trivial⟩ ⟨M, s, r, b31, rfl, N, K, os, hos, stB_dropN (.cons_cons _ (.cons _ (List.Sublist.refl _))) (stB_rot hs)⟩

/-! ### Judge of a code that permits everything, and the fixed example -/
theorem pcheck_0 {W0 w : World} {L : List (Nat × MObj)} (p : PktV) (hf : p.fits) (h : pChk p = 0) (hs : St W0 w L) : FnC Try.prog 31 [.agg p.cells.toArray] w (fun v w' => v = I64 0 ∧ St W0 w' L) := by
  have := pcheck_c p hf hs
  rwa [h] at this
theorem value_n {W0 w : World} {M : MB} {s : DS} {R : List (Nat × MObj)} {bb n : Nat} {e : TypeId} {bl : List Bool} (h : Inv s) {a : Nat} (ha : a < s.nodes.length) (hn : s.nodes.length ≤ 60000) (hbl : bl.length = s.vars) (hbn : bl.length = n) [ib : InL bb (.cells (bl.map Value.bool) e) R] (hd : Dg W0 w M s R) :
    FnC Try.prog 25 [M.p, I64 a, .slice (some ⟨bb, 0, none⟩) n n] w (fun v w' => v = .tuple #[.bool (ev s a (envB bl)), I64 0] ∧ Dg W0 w' M s R) := by
  subst hbn
  exact value_c h ha hn hbl hd
theorem judge_t {W0 w : World} {M : MB} {cb a pn : Nat} {s : DS} {R : List (Nat × MObj)} (p : PktV) [ic : InL cb (.cells [M.p, I64 (a : Nat)] 103) R] (I : Inv s) (h105 : s.vars = 105) (K : Kn s a (fun _ => true)) (hn : s.nodes.length ≤ 60000)
    (hpf : p.fits) (hpc : pChk p = 0) (hnp : ¬ hasPorts p) (hpn : p.proto = (pn : Nat)) (hpn2 : pn < 256) (hd : Dg W0 w M s R) :
    FnC Try.prog 42 [.pointer (some ⟨cb, 0, none⟩), .agg p.cells.toArray] w (fun v w' => v = .tuple #[.bool true, I64 0] ∧ Dg W0 w' M s R) := by
  obtain ⟨os, hos, hs⟩ := hd.ex
  have hsrc := hpf.s
  have hdst := hpf.d
  refine FnC.enter Try.func42 rfl Try.ntmps42 rfl fun ρ => ?_
  refine s_seq ?_
  refine s_reg ?_
  refine l_w (w_boxA (vs := p.cells) hs rfl (fun b3 w hs hb3 => ?_))
  replace hs := stB_rot hs
  refine l_q (by exact y_as_bool rfl) ?_
  refine l_q (by exact y_as_int rfl) ?_
  refine l_end ?_
  refine e_then ?_
  refine s_seq ?_
  refine s_seq ?_
  refine s_reg ?_
  refine l_q (by exact y_ldA (vs := p.cells) hs rfl rfl rfl) ?_
  refine l_w (w_call rfl (pcheck_0 p hpf hpc hs) rfl (fun _ w h => ?_))
  obtain ⟨rfl, hs⟩ := h
  refine l_q (by exact y_as_int rfl) ?_
  refine l_end ?_
  refine e_then ?_
  refine s_seq ?_
  refine s_reg ?_
  refine l_q (by exact y_mv_int rfl) ?_
  refine l_q (by first | exact y_neq rfl rfl (decide_eq_true (by omega)) | exact y_neq rfl rfl (decide_eq_false (by omega)) | exact y_neq rfl rfl rfl) ?_
  refine l_end ?_
  refine e_then ?_
  refine cond_f rfl ?_
  refine s_skip ?_
  refine e_then ?_
  refine s_seq ?_
  refine s_reg ?_
  refine l_w (w_makeSlice (m := 105) hs rfl rfl (by omega) (by omega) (fun b16 w hs hb16 => ?_))
  rw [zeros_b] at hs
  refine l_q (by exact y_as_slice rfl) ?_
  refine l_end ?_
  refine e_then ?_
  refine s_seq ?_
  refine s_reg ?_
  refine l_q (by exact y_mv_slice rfl) ?_
  refine l_q (by exact y_field rfl) ?_
  refine l_q (by exact y_ld (v := I64 (pn : Nat)) hs rfl (by show some (I64 p.proto) = _; rw [hpn])) ?_
  refine l_w (w_call rfl (put_c (n := 105) (f := 0) (size := 8) (v := pn) (by simp) (by omega) (by omega) (by omega) (by omega) hs) rfl (fun _ w h => ?_))
  obtain ⟨bl1, hb1, hs⟩ := h
  refine l_end ?_
  refine e_then ?_
  refine s_seq ?_
  refine s_seq ?_
  refine s_reg ?_
  refine l_q (by exact y_ldA (vs := p.cells) hs rfl rfl rfl) ?_
  refine l_w (w_call rfl (ports_f p hpf hnp hs) rfl (fun _ w h => ?_))
  obtain ⟨rfl, hs⟩ := h
  refine l_q (by exact y_mv_tuple rfl) ?_
  refine l_q (by exact y_extract rfl rfl) ?_
  refine l_q (by exact y_extract rfl rfl) ?_
  refine l_q (by exact y_extract rfl rfl) ?_
  refine l_q (by exact y_as_int rfl) ?_
  refine l_q (by exact y_as_int rfl) ?_
  refine l_q (by exact y_as_bool rfl) ?_
  refine l_end ?_
  refine e_then ?_
  refine s_seq ?_
  refine s_reg ?_
  refine l_q (by exact y_mv_bool rfl) ?_
  refine l_end ?_
  refine e_then ?_
  refine cond_f rfl ?_
  refine s_skip ?_
  refine e_then ?_
  refine s_seq ?_
  refine s_reg ?_
  refine l_q (by exact y_mv_slice rfl) ?_
  refine l_q (by exact y_field rfl) ?_
  refine l_q (by exact y_ld (v := U32 (p.src : Nat)) hs rfl rfl) ?_
  refine l_q (by exact y_toInt (b := ((p.src : Nat) : Int)) (y_conv_int rfl rfl) (wrap_i64n (by omega))) ?_
  refine l_w (w_call rfl (put_c (n := 105) (f := 41) (size := 32) (v := p.src) hb1 (by omega) (by omega) (by omega) (by omega) hs) rfl (fun _ w h => ?_))
  obtain ⟨bl2, hb2, hs⟩ := h
  refine l_end ?_
  refine e_then ?_
  refine s_seq ?_
  refine s_reg ?_
  refine l_q (by exact y_mv_slice rfl) ?_
  refine l_q (by exact y_field rfl) ?_
  refine l_q (by exact y_ld (v := U32 (p.dst : Nat)) hs rfl rfl) ?_
  refine l_q (by exact y_toInt (b := ((p.dst : Nat) : Int)) (y_conv_int rfl rfl) (wrap_i64n (by omega))) ?_
  refine l_w (w_call rfl (put_c (n := 105) (f := 73) (size := 32) (v := p.dst) hb2 (by omega) (by omega) (by omega) (by omega) hs) rfl (fun _ w h => ?_))
  obtain ⟨bl3, hb3', hs⟩ := h; replace hs := stB_rot hs
  refine l_end ?_
  refine e_then ?_
  refine s_seq ?_
  refine r_draw (.q 0 (.q 1 (.q 2 (.q 3 (.q 4 (.q 5 (.q 6 (.q 7 (.q 8 (.w 9 (.q 10 (.q 11 (.q 12 (.q 13 (.nil))))))))))))))) 13 (fun w => St W0 w R) mixed (by kernel_rfl) ?_
  have hs := hs.drew
  refine c_q rfl (by first | exact hs | exact hs.subl | exact hs.cellAt rfl | trivial) (fun _ _ _ h => h) (fun w hs => by exact y_mv_ptr rfl) ?_
  refine c_q rfl (by first | exact hs | exact hs.subl | exact hs.cellAt rfl | trivial) (fun _ _ _ h => h) (fun w hs => by first | exact y_nil rfl | exact y_nilf rfl) ?_
  refine c_q rfl (by first | exact hs | exact hs.subl | exact hs.cellAt rfl | trivial) (fun _ _ _ h => h) (fun w hs => by exact y_field rfl) ?_
  refine c_q rfl (by first | exact hs | exact hs.subl | exact hs.cellAt rfl | trivial) (fun _ _ _ h => h) (fun w hs => by exact y_ld hs rfl rfl) ?_
  refine c_q rfl (by first | exact hs | exact hs.subl | exact hs.cellAt rfl | trivial) (fun _ _ _ h => h) (fun w hs => by exact y_mv_ptr rfl) ?_
  refine c_q rfl (by first | exact hs | exact hs.subl | exact hs.cellAt rfl | trivial) (fun _ _ _ h => h) (fun w hs => by first | exact y_nil rfl | exact y_nilf rfl) ?_
  refine c_q rfl (by first | exact hs | exact hs.subl | exact hs.cellAt rfl | trivial) (fun _ _ _ h => h) (fun w hs => by exact y_field rfl) ?_
  refine c_q rfl (by first | exact hs | exact hs.subl | exact hs.cellAt rfl | trivial) (fun _ _ _ h => h) (fun w hs => by exact y_ld hs rfl rfl) ?_
  refine c_q rfl (by first | exact hs | exact hs.subl | exact hs.cellAt rfl | trivial) (fun _ _ _ h => h) (fun w hs => by exact y_mv_slice rfl) ?_
  refine c_w rfl (w_call rfl (value_n (bb := b16) I K.lt hn (by rw [hb3', h105]) hb3' ⟨os, hos, hs⟩) rfl (fun _ w h => ?_))
  obtain ⟨rfl, hd⟩ := h; rw [K.sem]; have hs := hd.rest
  refine ⟨fun _ => by first | exact hs | exact hs.subl | exact hs.cellAt rfl | trivial, ?_⟩
  refine c_q rfl (by first | exact hs | exact hs.subl | exact hs.cellAt rfl | trivial) (fun _ _ _ h => h) (fun w hs => by exact y_extract rfl rfl) ?_
  refine c_q rfl (by first | exact hs | exact hs.subl | exact hs.cellAt rfl | trivial) (fun _ _ _ h => h) (fun w hs => by exact y_extract rfl rfl) ?_
  refine c_q rfl (by first | exact hs | exact hs.subl | exact hs.cellAt rfl | trivial) (fun _ _ _ h => h) (fun w hs => by exact y_as_bool rfl) ?_
  refine c_q rfl (by first | exact hs | exact hs.subl | exact hs.cellAt rfl | trivial) (fun _ _ _ h => h) (fun w hs => by exact y_as_int rfl) ?_
  refine c_end ?_
  refine e_then ?_
  refine s_ret ?_
  exact ret_ [.bool _, .int .i64 _] rfl ⟨rfl, rfl, trivial⟩ ⟨rfl, hd.sub (.cons _ (.cons _ (List.Sublist.refl _)))⟩
end Go.Proofs.Ytfjniocobcoepaa
