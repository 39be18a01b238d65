/- Facts on the functions and types of this seat that its laws are proved from: contracts under the premises that each theorem names. -/
import Derived.Test.YtfjniocobcoepaaG41
set_option linter.unusedSimpArgs false
set_option linter.unusedVariables false
set_option linter.unnecessarySimpa false
namespace Go.Proofs.Ytfjniocobcoepaa
open Go Go.RowKit PB
set_option linter.unusedVariables false
set_option linter.unusedSimpArgs false

/-! ### permits, Witness, Same -/
theorem judge_ok {l : List RuleV} {p : PktV} (h : lChk l = 0) (hp : pChk p = 0) : judgeF l p = (firstM p l 0, 0) := by
  unfold judgeF; rw [if_neg (by rw [h]; simp), if_neg (by rw [hp]; simp)]
theorem permits_k {W0 w : World} {L : List (Nat × MObj)} {a : Option Addr} {l : List RuleV} {cap : Nat} {p : PktV} (hchk : lChk l = 0) (hpc : pChk p = 0) (hr : RdR W0 L a l) (hf : ∀ r ∈ l, r.fits) (hpf : p.fits) (hlen : l.length ≤ 9223372036854775807) (hs : St W0 w L) :
    FnC Try.prog 32 [.slice a l.length cap, .agg p.cells.toArray] w (fun v w' => v = .bool (permP p l) ∧ St W0 w' L) := by
  have hj := judge_ok hchk hpc
  refine FnC.enter Try.func32 rfl Try.ntmps32 rfl fun ρ => ?_
  rcases firstM_perm (p := p) l 0 with ⟨h1, h2⟩ | ⟨i, r, h1, h2, h3⟩
  · rw [h1] at hj
    rw [h2]
    refine s_seq ?_
    refine s_reg ?_
    refine l_w (w_boxA (vs := p.cells) hs rfl (fun b3 w hs hb3 => ?_))
    refine l_q (by exact y_as_bool rfl) ?_
    refine l_end ?_
    refine e_then ?_
    refine s_seq ?_
    refine s_reg ?_
    refine l_q (by exact y_mv_slice rfl) ?_
    refine l_q (by exact y_ldA (vs := p.cells) hs rfl rfl rfl) ?_
    refine l_w (w_call rfl (judge_v l cap p hj (hr.mono fun w h => h.tail) hf hpf hlen hs) rfl (fun _ w h => ?_))
    obtain ⟨rfl, hs⟩ := h
    refine l_q (by exact y_mv_tuple rfl) ?_
    refine l_q (by exact y_extract rfl rfl) ?_
    refine l_q (by exact y_extract rfl rfl) ?_
    refine l_q (by exact y_as_int rfl) ?_
    refine l_q (by exact y_as_int rfl) ?_
    refine l_end ?_
    refine e_then ?_
    refine s_seq ?_
    refine s_reg ?_
    refine l_q (by exact y_mv_int rfl) ?_
    refine l_q (by first | exact y_eql rfl rfl (decide_eq_true (by omega)) | exact y_eql rfl rfl (decide_eq_false (by omega)) | exact y_eql rfl rfl rfl) ?_
    refine l_q (by exact y_mv_bool rfl) ?_
    first | refine l_gskip rfl rfl ?_ | refine l_gskip_u rfl rfl ?_ | refine l_gdo rfl rfl (by exact y_mv_int rfl) ?_
    first | refine l_gskip rfl rfl ?_ | refine l_gskip_u rfl rfl ?_ | refine l_gdo rfl rfl (by first | exact y_geq rfl rfl (decide_eq_true (by omega)) | exact y_geq rfl rfl (decide_eq_false (by omega)) | exact y_geq rfl rfl rfl) ?_
    refine l_q (by first | exact y_pk_bt rfl rfl | exact y_pk_bf rfl rfl) ?_
    refine l_q (by exact y_mv_bool rfl) ?_
    first | refine l_gskip rfl rfl ?_ | refine l_gskip_u rfl rfl ?_ | refine l_gdo rfl rfl (by exact y_mv_int rfl) ?_
    first | refine l_gskip rfl rfl ?_ | refine l_gskip_u rfl rfl ?_ | refine l_gdo rfl rfl (by exact y_mv_slice rfl) ?_
    first | refine l_gskip rfl rfl ?_ | refine l_gskip_u rfl rfl ?_ | refine l_gdo rfl rfl (by exact y_len_slice rfl) ?_
    first | refine l_gskip rfl rfl ?_ | refine l_gskip_u rfl rfl ?_ | refine l_gdo rfl rfl (by first | exact y_lss rfl rfl (decide_eq_true (by omega)) | exact y_lss rfl rfl (decide_eq_false (by omega)) | exact y_lss rfl rfl rfl) ?_
    refine l_q (by first | exact y_pk_bt rfl rfl | exact y_pk_bf rfl rfl) ?_
    refine l_q (by exact y_mv_bool rfl) ?_
    first | refine l_gskip rfl rfl ?_ | refine l_gskip_u rfl rfl ?_ | refine l_gdo rfl rfl (by exact y_mv_slice rfl) ?_
    first | refine l_gskip rfl rfl ?_ | refine l_gskip_u rfl rfl ?_ | refine l_gdo rfl rfl (by exact y_mv_int rfl) ?_
    first | refine l_gskip rfl rfl ?_ | refine l_gskip_u rfl rfl ?_ | refine l_gdo rfl rfl (by exact y_indexA rfl rfl (by omega) (by omega) hx) ?_
    first | refine l_gskip rfl rfl ?_ | refine l_gskip_u rfl rfl ?_ | refine l_gdo rfl rfl (by exact y_field0 0 rfl rfl) ?_
    first | refine l_gskip rfl rfl ?_ | refine l_gskip_u rfl rfl ?_ | refine l_gdo rfl rfl (by exact y_load rfl (hperm _ _ hs)) ?_
    refine l_q (by first | exact y_pk_bt rfl rfl | exact y_pk_bf rfl rfl) ?_
    refine l_q (by exact y_as_bool rfl) ?_
    refine l_end ?_
    refine e_then ?_
    refine s_ret ?_
    exact ret_ [.bool _] rfl ⟨rfl, trivial⟩ ⟨rfl, hs.tail⟩
  · rw [Nat.zero_add] at h2
    rw [h2] at hj
    have hil : i < l.length := by
      rcases Nat.lt_or_ge i l.length with c | c
      · exact c
      · rw [List.getElem?_eq_none c] at h1; cases h1
    obtain ⟨x, hx, hrd⟩ := hr.at_ i r h1
    have hperm : ∀ b3 w, St W0 w ((b3, .cells p.cells 51) :: L) → w.cell? (x.add (i * 10)) = some (.bool (permP p l)) := fun b3 w hw => by
      have := hrd w hw.tail 0 (by decide)
      rw [addr_zero] at this
      rw [this, h3]; rfl
    refine s_seq ?_
    refine s_reg ?_
    refine l_w (w_boxA (vs := p.cells) hs rfl (fun b3 w hs hb3 => ?_))
    refine l_q (by exact y_as_bool rfl) ?_
    refine l_end ?_
    refine e_then ?_
    refine s_seq ?_
    refine s_reg ?_
    refine l_q (by exact y_mv_slice rfl) ?_
    refine l_q (by exact y_ldA (vs := p.cells) hs rfl rfl rfl) ?_
    refine l_w (w_call rfl (judge_v l cap p hj (hr.mono fun w h => h.tail) hf hpf hlen hs) rfl (fun _ w h => ?_))
    obtain ⟨rfl, hs⟩ := h
    refine l_q (by exact y_mv_tuple rfl) ?_
    refine l_q (by exact y_extract rfl rfl) ?_
    refine l_q (by exact y_extract rfl rfl) ?_
    refine l_q (by exact y_as_int rfl) ?_
    refine l_q (by exact y_as_int rfl) ?_
    refine l_end ?_
    refine e_then ?_
    refine s_seq ?_
    refine s_reg ?_
    refine l_q (by exact y_mv_int rfl) ?_
    refine l_q (by first | exact y_eql rfl rfl (decide_eq_true (by omega)) | exact y_eql rfl rfl (decide_eq_false (by omega)) | exact y_eql rfl rfl rfl) ?_
    refine l_q (by exact y_mv_bool rfl) ?_
    first | refine l_gskip rfl rfl ?_ | refine l_gskip_u rfl rfl ?_ | refine l_gdo rfl rfl (by exact y_mv_int rfl) ?_
    first | refine l_gskip rfl rfl ?_ | refine l_gskip_u rfl rfl ?_ | refine l_gdo rfl rfl (by first | exact y_geq rfl rfl (decide_eq_true (by omega)) | exact y_geq rfl rfl (decide_eq_false (by omega)) | exact y_geq rfl rfl rfl) ?_
    refine l_q (by first | exact y_pk_bt rfl rfl | exact y_pk_bf rfl rfl) ?_
    refine l_q (by exact y_mv_bool rfl) ?_
    first | refine l_gskip rfl rfl ?_ | refine l_gskip_u rfl rfl ?_ | refine l_gdo rfl rfl (by exact y_mv_int rfl) ?_
    first | refine l_gskip rfl rfl ?_ | refine l_gskip_u rfl rfl ?_ | refine l_gdo rfl rfl (by exact y_mv_slice rfl) ?_
    first | refine l_gskip rfl rfl ?_ | refine l_gskip_u rfl rfl ?_ | refine l_gdo rfl rfl (by exact y_len_slice rfl) ?_
    first | refine l_gskip rfl rfl ?_ | refine l_gskip_u rfl rfl ?_ | refine l_gdo rfl rfl (by first | exact y_lss rfl rfl (decide_eq_true (by omega)) | exact y_lss rfl rfl (decide_eq_false (by omega)) | exact y_lss rfl rfl rfl) ?_
    refine l_q (by first | exact y_pk_bt rfl rfl | exact y_pk_bf rfl rfl) ?_
    refine l_q (by exact y_mv_bool rfl) ?_
    first | refine l_gskip rfl rfl ?_ | refine l_gskip_u rfl rfl ?_ | refine l_gdo rfl rfl (by exact y_mv_slice rfl) ?_
    first | refine l_gskip rfl rfl ?_ | refine l_gskip_u rfl rfl ?_ | refine l_gdo rfl rfl (by exact y_mv_int rfl) ?_
    first | refine l_gskip rfl rfl ?_ | refine l_gskip_u rfl rfl ?_ | refine l_gdo rfl rfl (by exact y_indexA rfl rfl (by omega) (by omega) hx) ?_
    first | refine l_gskip rfl rfl ?_ | refine l_gskip_u rfl rfl ?_ | refine l_gdo rfl rfl (by exact y_field0 0 rfl rfl) ?_
    first | refine l_gskip rfl rfl ?_ | refine l_gskip_u rfl rfl ?_ | refine l_gdo rfl rfl (by exact y_load rfl (hperm _ _ hs)) ?_
    refine l_q (by first | exact y_pk_bt rfl rfl | exact y_pk_bf rfl rfl) ?_
    refine l_q (by exact y_as_bool rfl) ?_
    refine l_end ?_
    refine e_then ?_
    refine s_ret ?_
    exact ret_ [.bool _] rfl ⟨rfl, trivial⟩ ⟨rfl, hs.tail⟩

abbrev pktV (p : PktV) : Value := .agg p.cells.toArray
theorem witness_a {W0 w : World} {L : List (Nat × MObj)} {a : Option Addr} {l : List RuleV} {cap : Nat} {z : Int} (i : Int) (hj : lChk l = z) (hz : z ≠ 0) (hr : RdR W0 L a l) (hf : ∀ r ∈ l, r.fits) (hlen : l.length ≤ 9223372036854775807) (hs : St W0 w L) :
    FnC Try.prog 27 [.slice a l.length cap, I64 i] w (fun v w' => v = .tuple #[pktV pkZ, .bool false, I64 z] ∧ St W0 w' L) := by
  refine FnC.enter Try.func27 rfl Try.ntmps27 rfl fun ρ => ?_
  refine s_seq ?_
  refine s_reg ?_
  refine l_w (w_alloc (cs := [_, _, _, _, _, _, _, _, _]) hs rfl (fun b4 w hs hb4 => ?_))
  refine l_q (by exact y_as_bool rfl) ?_
  refine l_q (by exact y_as_int rfl) ?_
  refine l_end ?_
  refine e_then ?_
  refine s_seq ?_
  refine s_seq ?_
  refine s_reg ?_
  refine l_q (by exact y_mv_slice rfl) ?_
  refine l_w (w_call rfl (rcheck_v l cap hj (hr.mono fun w h => h.tail) hf hlen hs) rfl (fun _ w h => ?_))
  obtain ⟨rfl, hs⟩ := h
  refine l_q (by exact y_as_int rfl) ?_
  refine l_end ?_
  refine e_then ?_
  refine s_seq ?_
  refine s_reg ?_
  refine l_q (by exact y_mv_int rfl) ?_
  refine l_q (by first | exact y_neq rfl rfl (decide_eq_true (by omega)) | exact y_neq rfl rfl (decide_eq_false (by omega)) | exact y_neq rfl rfl rfl) ?_
  refine l_end ?_
  refine e_then ?_
  refine cond_t rfl ?_
  refine s_seq ?_
  refine s_reg ?_
  refine l_q (by exact y_build (pv := []) (vs := [_, _, _, _, _, _, _, _, _]) rfl rfl) ?_
  refine l_q (by exact y_mv_int rfl) ?_
  refine l_w (w_storeA (vs := [_, _, _, _, _, _, _, _, _]) hs rfl rfl rfl rfl rfl (fun w hs => ?_))
  refine l_q (by exact y_as_bool rfl) ?_
  refine l_q (by exact y_as_int rfl) ?_
  refine l_end ?_
  refine e_then ?_
  refine s_ret ?_
  refine e_then_r ?_
  exact ret_ [.agg (List.toArray [_, _, _, _, _, _, _, _, _]), .bool _, .int .i64 _] rfl ⟨⟨_, rfl, run_ldA hs rfl rfl⟩, rfl, rfl, trivial⟩ ⟨rfl, hs.tail⟩
theorem witness_b {W0 w : World} {L : List (Nat × MObj)} {a : Option Addr} {l : List RuleV} {cap : Nat} {i : Int} (hj : lChk l = 0) (hi : i < 0 ∨ l.length ≤ i) (hr : RdR W0 L a l) (hf : ∀ r ∈ l, r.fits) (hlen : l.length ≤ 9223372036854775807) (hs : St W0 w L) :
    FnC Try.prog 27 [.slice a l.length cap, I64 i] w (fun v w' => v = .tuple #[pktV pkZ, .bool false, I64 4] ∧ St W0 w' L) := by
  refine FnC.enter Try.func27 rfl Try.ntmps27 rfl fun ρ => ?_
  by_cases c : i < 0
  · refine s_seq ?_
    refine s_reg ?_
    refine l_w (w_alloc (cs := [_, _, _, _, _, _, _, _, _]) hs rfl (fun b4 w hs hb4 => ?_))
    refine l_q (by exact y_as_bool rfl) ?_
    refine l_q (by exact y_as_int rfl) ?_
    refine l_end ?_
    refine e_then ?_
    refine s_seq ?_
    refine s_seq ?_
    refine s_reg ?_
    refine l_q (by exact y_mv_slice rfl) ?_
    refine l_w (w_call rfl (rcheck_v l cap hj (hr.mono fun w h => h.tail) hf hlen hs) rfl (fun _ w h => ?_))
    obtain ⟨rfl, hs⟩ := h
    refine l_q (by exact y_as_int rfl) ?_
    refine l_end ?_
    refine e_then ?_
    refine s_seq ?_
    refine s_reg ?_
    refine l_q (by exact y_mv_int rfl) ?_
    refine l_q (by first | exact y_neq rfl rfl (decide_eq_true (by omega)) | exact y_neq rfl rfl (decide_eq_false (by omega)) | exact y_neq rfl rfl rfl) ?_
    refine l_end ?_
    refine e_then ?_
    refine cond_f rfl ?_
    refine s_skip ?_
    refine e_then ?_
    refine s_seq ?_
    refine s_seq ?_
    refine s_reg ?_
    refine l_q (by exact y_mv_int rfl) ?_
    refine l_q (by first | exact y_lss rfl rfl (decide_eq_true (by omega)) | exact y_lss rfl rfl (decide_eq_false (by omega)) | exact y_lss rfl rfl rfl) ?_
    refine l_q (by exact y_mv_bool rfl) ?_
    first | refine l_gskip rfl rfl ?_ | refine l_gskip_u rfl rfl ?_ | refine l_gdo rfl rfl (by exact y_mv_int rfl) ?_
    first | refine l_gskip rfl rfl ?_ | refine l_gskip_u rfl rfl ?_ | refine l_gdo rfl rfl (by exact y_mv_slice rfl) ?_
    first | refine l_gskip rfl rfl ?_ | refine l_gskip_u rfl rfl ?_ | refine l_gdo rfl rfl (by exact y_len_slice rfl) ?_
    first | refine l_gskip rfl rfl ?_ | refine l_gskip_u rfl rfl ?_ | refine l_gdo rfl rfl (by first | exact y_geq rfl rfl (decide_eq_true (by omega)) | exact y_geq rfl rfl (decide_eq_false (by omega)) | exact y_geq rfl rfl rfl) ?_
    refine l_q (by first | exact y_pk_bt rfl rfl | exact y_pk_bf rfl rfl) ?_
    refine l_end ?_
    refine e_then ?_
    refine cond_t rfl ?_
    refine s_seq ?_
    refine s_reg ?_
    refine l_q (by exact y_build (pv := []) (vs := [_, _, _, _, _, _, _, _, _]) rfl rfl) ?_
    refine l_w (w_storeA (vs := [_, _, _, _, _, _, _, _, _]) hs rfl rfl rfl rfl rfl (fun w hs => ?_))
    refine l_q (by exact y_as_bool rfl) ?_
    refine l_q (by exact y_as_int rfl) ?_
    refine l_end ?_
    refine e_then ?_
    refine s_ret ?_
    refine e_then_r ?_
    exact ret_ [.agg (List.toArray [_, _, _, _, _, _, _, _, _]), .bool _, .int .i64 _] rfl ⟨⟨_, rfl, run_ldA hs rfl rfl⟩, rfl, rfl, trivial⟩ ⟨rfl, hs.tail⟩
  · refine s_seq ?_
    refine s_reg ?_
    refine l_w (w_alloc (cs := [_, _, _, _, _, _, _, _, _]) hs rfl (fun b4 w hs hb4 => ?_))
    refine l_q (by exact y_as_bool rfl) ?_
    refine l_q (by exact y_as_int rfl) ?_
    refine l_end ?_
    refine e_then ?_
    refine s_seq ?_
    refine s_seq ?_
    refine s_reg ?_
    refine l_q (by exact y_mv_slice rfl) ?_
    refine l_w (w_call rfl (rcheck_v l cap hj (hr.mono fun w h => h.tail) hf hlen hs) rfl (fun _ w h => ?_))
    obtain ⟨rfl, hs⟩ := h
    refine l_q (by exact y_as_int rfl) ?_
    refine l_end ?_
    refine e_then ?_
    refine s_seq ?_
    refine s_reg ?_
    refine l_q (by exact y_mv_int rfl) ?_
    refine l_q (by first | exact y_neq rfl rfl (decide_eq_true (by omega)) | exact y_neq rfl rfl (decide_eq_false (by omega)) | exact y_neq rfl rfl rfl) ?_
    refine l_end ?_
    refine e_then ?_
    refine cond_f rfl ?_
    refine s_skip ?_
    refine e_then ?_
    refine s_seq ?_
    refine s_seq ?_
    refine s_reg ?_
    refine l_q (by exact y_mv_int rfl) ?_
    refine l_q (by first | exact y_lss rfl rfl (decide_eq_true (by omega)) | exact y_lss rfl rfl (decide_eq_false (by omega)) | exact y_lss rfl rfl rfl) ?_
    refine l_q (by exact y_mv_bool rfl) ?_
    first | refine l_gskip rfl rfl ?_ | refine l_gskip_u rfl rfl ?_ | refine l_gdo rfl rfl (by exact y_mv_int rfl) ?_
    first | refine l_gskip rfl rfl ?_ | refine l_gskip_u rfl rfl ?_ | refine l_gdo rfl rfl (by exact y_mv_slice rfl) ?_
    first | refine l_gskip rfl rfl ?_ | refine l_gskip_u rfl rfl ?_ | refine l_gdo rfl rfl (by exact y_len_slice rfl) ?_
    first | refine l_gskip rfl rfl ?_ | refine l_gskip_u rfl rfl ?_ | refine l_gdo rfl rfl (by first | exact y_geq rfl rfl (decide_eq_true (by omega)) | exact y_geq rfl rfl (decide_eq_false (by omega)) | exact y_geq rfl rfl rfl) ?_
    refine l_q (by first | exact y_pk_bt rfl rfl | exact y_pk_bf rfl rfl) ?_
    refine l_end ?_
    refine e_then ?_
    refine cond_t rfl ?_
    refine s_seq ?_
    refine s_reg ?_
    refine l_q (by exact y_build (pv := []) (vs := [_, _, _, _, _, _, _, _, _]) rfl rfl) ?_
    refine l_w (w_storeA (vs := [_, _, _, _, _, _, _, _, _]) hs rfl rfl rfl rfl rfl (fun w hs => ?_))
    refine l_q (by exact y_as_bool rfl) ?_
    refine l_q (by exact y_as_int rfl) ?_
    refine l_end ?_
    refine e_then ?_
    refine s_ret ?_
    refine e_then_r ?_
    exact ret_ [.agg (List.toArray [_, _, _, _, _, _, _, _, _]), .bool _, .int .i64 _] rfl ⟨⟨_, rfl, run_ldA hs rfl rfl⟩, rfl, rfl, trivial⟩ ⟨rfl, hs.tail⟩
theorem witness_k {W0 w : World} {L : List (Nat × MObj)} {a : Option Addr} {l : List RuleV} {cap i : Nat} {r : RuleV} (hj : lChk l = 0) (hi : l[i]? = some r) (hr : RdR W0 L a l) (hf : ∀ r ∈ l, r.fits) (hl : l.length ≤ 5) (hs : St W0 w L) :
    FnC Try.prog 27 [.slice a l.length cap, I64 i] w (fun v w' => ∃ p is, v = .tuple #[pktV p, .bool is, I64 0] ∧ FirstR (fstF (l.take i) r) p is ∧ St W0 w' L) := by
  have hok := lChk_ok hf hj
  have hlen : l.length ≤ 9223372036854775807 := by omega
  have hil : i < l.length := by
    rcases Nat.lt_or_ge i l.length with c | c
    · exact c
    · rw [List.getElem?_eq_none c] at hi; cases hi
  have hti : (l.take i).length = i := by rw [List.length_take]; omega
  have hok2 : ∀ x ∈ l.take i ++ [r], RuleOk x := fun x hx => by
    rcases List.mem_append.1 hx with hx | hx
    · exact hok x (List.mem_of_mem_take hx)
    · rw [List.mem_singleton.1 hx]; exact hok r (List.mem_of_getElem? hi)
  have hm := reachN_mono (show i ≤ 4 by omega)
  have h4 : reachN 4 = 16807 := rfl
  refine FnC.enter Try.func27 rfl Try.ntmps27 rfl fun ρ => ?_
  refine s_seq ?_
  refine s_reg ?_
  refine l_w (w_alloc (cs := [_, _, _, _, _, _, _, _, _]) hs rfl (fun b4 w hs hb4 => ?_))
  refine l_q (by exact y_as_bool rfl) ?_
  refine l_q (by exact y_as_int rfl) ?_
  refine l_end ?_
  refine e_then ?_
  refine s_seq ?_
  refine s_seq ?_
  refine s_reg ?_
  refine l_q (by exact y_mv_slice rfl) ?_
  refine l_w (w_call rfl (rcheck_v l cap hj (hr.mono fun w h => h.tail) hf hlen hs) rfl (fun _ w h => ?_))
  obtain ⟨rfl, hs⟩ := h
  refine l_q (by exact y_as_int rfl) ?_
  refine l_end ?_
  refine e_then ?_
  refine s_seq ?_
  refine s_reg ?_
  refine l_q (by exact y_mv_int rfl) ?_
  refine l_q (by first | exact y_neq rfl rfl (decide_eq_true (by omega)) | exact y_neq rfl rfl (decide_eq_false (by omega)) | exact y_neq rfl rfl rfl) ?_
  refine l_end ?_
  refine e_then ?_
  refine cond_f rfl ?_
  refine s_skip ?_
  refine e_then ?_
  refine s_seq ?_
  refine s_seq ?_
  refine s_reg ?_
  refine l_q (by exact y_mv_int rfl) ?_
  refine l_q (by first | exact y_lss rfl rfl (decide_eq_true (by omega)) | exact y_lss rfl rfl (decide_eq_false (by omega)) | exact y_lss rfl rfl rfl) ?_
  refine l_q (by exact y_mv_bool rfl) ?_
  first | refine l_gskip rfl rfl ?_ | refine l_gskip_u rfl rfl ?_ | refine l_gdo rfl rfl (by exact y_mv_int rfl) ?_
  first | refine l_gskip rfl rfl ?_ | refine l_gskip_u rfl rfl ?_ | refine l_gdo rfl rfl (by exact y_mv_slice rfl) ?_
  first | refine l_gskip rfl rfl ?_ | refine l_gskip_u rfl rfl ?_ | refine l_gdo rfl rfl (by exact y_len_slice rfl) ?_
  first | refine l_gskip rfl rfl ?_ | refine l_gskip_u rfl rfl ?_ | refine l_gdo rfl rfl (by first | exact y_geq rfl rfl (decide_eq_true (by omega)) | exact y_geq rfl rfl (decide_eq_false (by omega)) | exact y_geq rfl rfl rfl) ?_
  refine l_q (by first | exact y_pk_bt rfl rfl | exact y_pk_bf rfl rfl) ?_
  refine l_end ?_
  refine e_then ?_
  refine cond_f rfl ?_
  refine s_skip ?_
  refine e_then ?_
  refine s_seq ?_
  refine s_reg ?_
  refine l_w (w_call rfl (newMaker_k hs) rfl (fun _ w h => ?_))
  obtain ⟨M, mb, rfl, hd⟩ := h
  refine l_q (by exact y_as_ptr rfl) ?_
  refine l_end ?_
  refine e_then ?_
  refine s_seq ?_
  refine s_reg ?_
  refine l_q (by exact y_mv_ptr rfl) ?_
  refine l_q (by exact y_mv_ptr rfl) ?_
  refine l_q (by exact y_mv_slice rfl) ?_
  refine l_q (by exact y_mv_int rfl) ?_
  refine l_w (w_call rfl (reach_k (l := l) (i := i) (r0 := r) (init_inv (by decide)) rfl (hr.mono fun w h => h.tail.tail) hok (by omega) hi (by show 2 + _ ≤ _; omega) hd) rfl (fun _ w h => ?_))
  obtain ⟨s, x, rfl, N, K, hd⟩ := h
  refine l_w (w_call rfl (first_k N.inv N.ext.vars K (bxs_l hok2 _) (fst_of r (l.take i)) (by have := N.cnt; have e2 : (initS 105).nodes.length = 2 := rfl; rw [hti]; omega) hd) rfl (fun _ w h => ?_))
  obtain ⟨s2, p, is, rfl, N2, F, hd⟩ := h; obtain ⟨os, hos, hs⟩ := hd.ex
  refine l_q (by exact y_extract rfl rfl) ?_
  refine l_q (by exact y_extract rfl rfl) ?_
  refine l_q (by exact y_extract rfl rfl) ?_
  refine l_w (w_storeA (vs := p.cells) hs rfl rfl rfl rfl rfl (fun w hs => ?_))
  refine l_q (by exact y_as_bool rfl) ?_
  refine l_q (by exact y_as_int rfl) ?_
  refine l_end ?_
  refine e_then ?_
  refine s_ret ?_
  exact ret_ [.agg (List.toArray [_, _, _, _, _, _, _, _, _]), .bool _, .int .i64 _] rfl ⟨⟨_, rfl, run_ldA hs rfl rfl⟩, rfl, rfl, trivial⟩ ⟨p, is, rfl, F, hs.subl⟩
end Go.Proofs.Ytfjniocobcoepaa
