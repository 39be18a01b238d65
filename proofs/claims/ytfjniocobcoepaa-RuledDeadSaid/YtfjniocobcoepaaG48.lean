/- Facts on the functions and types of this seat that its laws are proved from: contracts under the premises that each theorem names. -/
import Derived.Test.YtfjniocobcoepaaG47
set_option linter.unusedSimpArgs false
set_option linter.unusedVariables false
set_option linter.unnecessarySimpa false
namespace Go.Proofs.Ytfjniocobcoepaa
open Go Go.RowKit PB
set_option linter.unusedVariables false
set_option linter.unusedSimpArgs false

/-! ### RuledDead -/
theorem dead_no {l : List RuleV} {i : Nat} {r : RuleV} {p : PktV} {is : Bool} (h : DeadAt l i) (hi : l[i]? = some r) (F : FirstR (fstF (l.take i) r) p is) : is = false := by
  obtain ⟨r', h1, h2⟩ := h
  rw [hi] at h1
  obtain rfl := Option.some.inj h1
  cases is with
  | false => rfl
  | true => obtain ⟨e, _, hf, hr⟩ := F.yes rfl; rw [h2 e hr] at hf; cases hf
theorem dead_judge {l : List RuleV} {i : Nat} {p : PktV} {n g : Int} (hok : ∀ r ∈ l, RuleOk r) (hj : lChk l = 0) (hf : p.fits) (h : DeadAt l i) (hjp : judgeF l p = (n, g)) (hg : g = 0) : n ≠ (i : Int) := by
  intro hn
  subst hg
  obtain ⟨r, hi, hdead⟩ := h
  by_cases hc : pChk p = 0
  · rw [judge_ok hj hc] at hjp
    have h1 : firstM p l 0 = ((0 + i : Nat) : Int) := by rw [Nat.zero_add, ← hn]; exact congrArg Prod.fst hjp
    obtain ⟨m1, m2⟩ := firstM_is l 0 i r hi h1
    obtain ⟨e, he, hr⟩ := bits_of hf hc
    have h2 : fstF (l.take i) r e = true := (fst_true _).2 ⟨(match_iff (hok r (List.mem_of_getElem? hi)) he).1 m1, fun q hq hon => m2 q hq ((match_iff (hok q (List.mem_of_mem_take hq)) he).2 hon)⟩
    rw [hdead e hr] at h2; cases h2
  · unfold judgeF at hjp
    rw [if_neg (by rw [hj]; simp), if_pos hc] at hjp
    exact hc (congrArg Prod.snd hjp)
theorem dead_same {l : List RuleV} {i : Nat} {p : PktV} {is : Bool} (h : DeadAt l i) (F : FirstR (fun e => xor (allF l e) (allF (l.take i ++ l.drop (i + 1)) e)) p is) : is = false := by
  obtain ⟨r, hi, hdead⟩ := h
  have hil : i < l.length := by
    rcases Nat.lt_or_ge i l.length with c | c
    · exact c
    · rw [List.getElem?_eq_none c] at hi; cases hi
  have hsplit : l = l.take i ++ r :: l.drop (i + 1) := by
    have h1 := List.drop_eq_getElem_cons hil
    have h2 : l[i] = r := by rw [List.getElem?_eq_getElem hil] at hi; exact Option.some.inj hi
    rw [h2] at h1
    rw [← h1, List.take_append_drop]
  cases is with
  | false => rfl
  | true =>
    obtain ⟨e, _, hf, hr⟩ := F.yes rfl
    have h1 := all_del (l.take i) (l.drop (i + 1)) (hdead e hr)
    rw [← hsplit] at h1
    simp [h1] at hf
/-- What stands ahead of place k. -/
def lastD (ds : List Nat) : Nat → Int
  | 0 => -1
  | k + 1 => (ds.getD k 0 : Nat)
theorem last_lt {ds : List Nat} (h : ds.Pairwise (· < ·)) {k : Nat} (hk : k < ds.length) : lastD ds k < (ds.getD k 0 : Nat) := by
  cases k with
  | zero => show (-1 : Int) < _; omega
  | succ k =>
    have h1 := List.pairwise_iff_getElem.1 h k (k + 1) (by omega) hk (by omega)
    show ((ds.getD k 0 : Nat) : Int) < _
    have e1 : ds.getD k 0 = ds[k]'(by omega) := by simp [show k < ds.length by omega]
    have e2 : ds.getD (k + 1) 0 = ds[k + 1]'hk := by simp [hk]
    rw [e1, e2]
    exact_mod_cast h1
theorem dead_walk (W : World) (a0 : Option Addr) (cap0 : Nat) (z0 : List RuleV) (w0 : RulesIn W a0 z0) (c0 : z0.length ≤ cap0) (p : PktV) (hpf : p.fits) (at_ : Int) :
    FnC Try.prog 10 [.slice a0 z0.length cap0, .agg p.cells.toArray, I64 at_] W (fun v w' => v = .bool true ∧ St W w' []) := by
  have hs := St.start W
  have hl0 : ∀ L, RdR W L a0 (z0.take 5) := fun L => (w0.rd L).take 5
  have hfl : ∀ r ∈ z0.take 5, r.fits := fun r hr => w0.fits r (List.mem_of_mem_take hr)
  have hll : (z0.take 5).length = min 5 z0.length := List.length_take
  have hz0 := w0.len
  generalize z0.take 5 = l at *
  have hmin0 : Value.int .i64 ((l.length : Nat) : Int) = .int .i64 (if (5 : Int) < (z0.length : Nat) then 5 else (z0.length : Nat)) := by
    have : ((l.length : Nat) : Int) = if (5 : Int) < (z0.length : Nat) then 5 else ((z0.length : Nat) : Int) := by split <;> omega
    exact congrArg _ this
  obtain ⟨z, hj⟩ : ∃ z, lChk l = z := ⟨_, rfl⟩
  refine FnC.enter Try.func10 rfl Try.ntmps10 rfl fun ρ => ?_
  by_cases hz : z ≠ 0
  · refine s_seq ?_
    refine s_reg ?_
    refine l_w (w_boxA (vs := p.cells) hs rfl (fun b4 w hs hb4 => ?_))
    refine l_q (by exact y_as_bool rfl) ?_
    refine l_end ?_
    refine e_then ?_
    refine s_seq ?_
    refine s_seq ?_
    refine s_reg ?_
    refine l_w (w_call rfl (fact26_c hs) rfl (fun _ w h => ?_))
    obtain ⟨rfl, hs⟩ := h
    refine l_q (by first | exact y_not_t rfl | exact y_not_f rfl | exact y_notd rfl) ?_
    refine l_end ?_
    refine e_then ?_
    refine cond_f rfl ?_
    refine s_skip ?_
    refine e_then ?_
    refine s_seq ?_
    refine s_reg ?_
    refine l_q (by exact y_mv_slice rfl) ?_
    refine l_q (by exact y_mv_slice rfl) ?_
    refine l_q (by exact y_len_slice rfl) ?_
    refine l_q (by exact y_min (v := .int .i64 ((l.length : Nat) : Int)) rfl rfl hmin0) ?_
    refine l_q (by exact y_slice_hi rfl rfl (by omega) (by omega)) ?_
    refine l_q (by exact y_as_slice rfl) ?_
    refine l_end ?_
    refine e_then ?_
    refine s_seq ?_
    refine s_reg ?_
    refine l_q (by exact y_mv_slice rfl) ?_
    refine l_w (w_call rfl (dead_a hj hz (hl0 _) hfl (by omega) hs) rfl (fun _ w h => ?_))
    obtain ⟨rfl, hs⟩ := h
    refine l_q (by exact y_mv_tuple rfl) ?_
    refine l_q (by exact y_extract rfl rfl) ?_
    refine l_q (by exact y_extract rfl rfl) ?_
    refine l_q (by exact y_as_slice rfl) ?_
    refine l_q (by exact y_as_int rfl) ?_
    refine l_end ?_
    refine e_then ?_
    refine s_seq ?_
    refine s_seq ?_
    refine s_reg ?_
    refine l_q (by exact y_mv_slice rfl) ?_
    refine l_w (w_call rfl (rcheck_v l cap0 hj (hl0 _) hfl (by omega) hs) rfl (fun _ w h => ?_))
    obtain ⟨rfl, hs⟩ := h
    refine l_q (by first | exact y_neq rfl rfl (decide_eq_true (by omega)) | exact y_neq rfl rfl (decide_eq_false (by omega)) | exact y_neq rfl rfl rfl) ?_
    refine l_end ?_
    refine e_then ?_
    refine cond_t rfl ?_
    refine s_seq ?_
    refine s_reg ?_
    refine l_q (by exact y_mv_slice rfl) ?_
    refine l_q (by exact y_len_slice rfl) ?_
    refine l_q (by first | exact y_eql rfl rfl (decide_eq_true (by omega)) | exact y_eql rfl rfl (decide_eq_false (by omega)) | exact y_eql rfl rfl rfl) ?_
    refine l_q (by exact y_mv_bool rfl) ?_
    first | refine l_gskip rfl rfl ?_ | refine l_gskip_u rfl rfl ?_ | refine l_gdo rfl rfl (by exact y_mv_int rfl) ?_
    first | refine l_gskip rfl rfl ?_ | refine l_gskip_u rfl rfl ?_ | refine l_gdo rfl rfl (by exact y_mv_slice rfl) ?_
    first | refine l_gskip rfl rfl ?_ | refine l_gskip_u rfl rfl ?_ | (refine l_gw rfl rfl (w_call rfl (rcheck_v l cap0 hj (hl0 _) hfl (by omega) hs) rfl (fun _ w h => ?_)); obtain ⟨rfl, hs⟩ := h)
    first | refine l_gskip rfl rfl ?_ | refine l_gskip_u rfl rfl ?_ | refine l_gdo rfl rfl (by first | exact y_eql rfl rfl (decide_eq_true (by omega)) | exact y_eql rfl rfl (decide_eq_false (by omega)) | exact y_eql rfl rfl rfl) ?_
    refine l_q (by first | exact y_pk_bt rfl rfl | exact y_pk_bf rfl rfl) ?_
    refine l_q (by exact y_as_bool rfl) ?_
    refine l_end ?_
    refine e_then ?_
    refine s_ret ?_
    refine e_then_r ?_
    exact ret_ [.bool _] rfl ⟨rfl, trivial⟩ ⟨rfl, hs.nil⟩
  replace hz := Classical.not_not.1 hz
  subst hz
  have hokl := lChk_ok hfl hj
  obtain ⟨⟨jn, jg⟩, hjp⟩ : ∃ x, judgeF l p = x := ⟨_, rfl⟩
  refine s_seq ?_
  refine s_reg ?_
  refine l_w (w_boxA (vs := p.cells) hs rfl (fun b4 w hs hb4 => ?_))
  refine l_q (by exact y_as_bool rfl) ?_
  refine l_end ?_
  refine e_then ?_
  refine s_seq ?_
  refine s_seq ?_
  refine s_reg ?_
  refine l_w (w_call rfl (fact26_c hs) rfl (fun _ w h => ?_))
  obtain ⟨rfl, hs⟩ := h
  refine l_q (by first | exact y_not_t rfl | exact y_not_f rfl | exact y_notd rfl) ?_
  refine l_end ?_
  refine e_then ?_
  refine cond_f rfl ?_
  refine s_skip ?_
  refine e_then ?_
  refine s_seq ?_
  refine s_reg ?_
  refine l_q (by exact y_mv_slice rfl) ?_
  refine l_q (by exact y_mv_slice rfl) ?_
  refine l_q (by exact y_len_slice rfl) ?_
  refine l_q (by exact y_min (v := .int .i64 ((l.length : Nat) : Int)) rfl rfl hmin0) ?_
  refine l_q (by exact y_slice_hi rfl rfl (by omega) (by omega)) ?_
  refine l_q (by exact y_as_slice rfl) ?_
  refine l_end ?_
  refine e_then ?_
  refine s_seq ?_
  refine s_reg ?_
  refine l_q (by exact y_mv_slice rfl) ?_
  refine l_w (w_call rfl (dead_k hj (hl0 _) hfl (by omega) hs) rfl (fun _ w h => ?_))
  obtain ⟨ds, ol, rfl, D, hokd, hdl, hs⟩ := h
  refine l_q (by exact y_mv_tuple rfl) ?_
  refine l_q (by exact y_extract rfl rfl) ?_
  refine l_q (by exact y_extract rfl rfl) ?_
  refine l_q (by exact y_as_slice rfl) ?_
  refine l_q (by exact y_as_int rfl) ?_
  refine l_end ?_
  refine e_then ?_
  refine s_seq ?_
  refine s_seq ?_
  refine s_reg ?_
  refine l_q (by exact y_mv_slice rfl) ?_
  refine l_w (w_call rfl (rcheck_v l cap0 hj (hl0 _) hfl (by omega) hs) rfl (fun _ w h => ?_))
  obtain ⟨rfl, hs⟩ := h
  refine l_q (by first | exact y_neq rfl rfl (decide_eq_true (by omega)) | exact y_neq rfl rfl (decide_eq_false (by omega)) | exact y_neq rfl rfl rfl) ?_
  refine l_end ?_
  refine e_then ?_
  refine cond_f rfl ?_
  refine s_skip ?_
  refine e_then ?_
  refine s_seq ?_
  refine s_seq ?_
  refine s_reg ?_
  refine l_q (by exact y_mv_int rfl) ?_
  refine l_q (by first | exact y_neq rfl rfl (decide_eq_true (by omega)) | exact y_neq rfl rfl (decide_eq_false (by omega)) | exact y_neq rfl rfl rfl) ?_
  refine l_end ?_
  refine e_then ?_
  refine cond_f rfl ?_
  refine s_skip ?_
  refine e_then ?_
  refine s_seq ?_
  refine s_reg ?_
  refine l_q (by exact y_as_int rfl) ?_
  refine l_end ?_
  refine e_then ?_
  refine s_seq ?_
  refine s_seq ?_
  refine s_reg ?_
  refine l_q (by exact y_mv_slice rfl) ?_
  refine l_q (by exact y_len_slice rfl) ?_
  refine l_q (by exact y_mv_int rfl) ?_
  refine l_end ?_
  refine e_then ?_
  refine s_block ?_
  refine loop_st (X := Nat) (fun k => [(0, .slice a0 l.length cap0), (2, I64 at_), (4, .pointer (some ⟨b4, 0, none⟩)), (7, .slice ol.ad ds.length ol.cap), (9, I64 (lastD ds k)), (46, .slice ol.ad ds.length ol.cap), (47, I64 ds.length), (48, I64 k)])
    (fun k w => St W w (ol.blk (nV ds) 3 ++ [(b4, .cells p.cells 51)]) ∧ k ≤ ds.length) (fun k => ds.length - k) 0 ⟨rfl, rfl, rfl, rfl, rfl, rfl, rfl, rfl, trivial⟩ ⟨hs, Nat.zero_le _⟩ ?_
  clear hs
  rintro k ρ w ⟨hs, hk⟩
  by_cases c : k < ds.length
  · obtain ⟨g, hg, had, hcell⟩ := own_now hokd c
    haveI := inl_blk hg (nV ds) 3
    have hmem : ds.getD k 0 ∈ ds := by simp [c]
    have hdead := D.dead _ hmem
    have hil := D.lt _ hmem
    have hlast := last_lt D.up c
    have hnx : lastD ds (k + 1) = ((ds.getD k 0 : Nat) : Int) := rfl
    generalize ds.getD k 0 = i at *
    obtain ⟨r, hi⟩ : ∃ r, l[i]? = some r := ⟨_, List.getElem?_eq_getElem hil⟩
    by_cases hg0 : jg = 0
    · have hne := dead_judge hokl hj hpf hdead hjp hg0
      refine s_seq ?_
      refine s_reg ?_
      refine l_q (by first | exact y_lss rfl rfl (decide_eq_true (by omega)) | exact y_lss rfl rfl (decide_eq_false (by omega)) | exact y_lss rfl rfl rfl) ?_
      refine l_end ?_
      refine e_then ?_
      refine s_seq ?_
      refine cond_t rfl ?_
      refine s_skip ?_
      refine e_then ?_
      refine s_seq ?_
      refine s_block ?_
      refine s_seq ?_
      refine s_reg ?_
      refine l_q (by exact y_indexT (off := k) rfl rfl (by omega) (by omega) had (by omega)) ?_
      refine l_q (by exact y_ld hs rfl hcell) ?_
      refine l_q (by exact y_as_int rfl) ?_
      refine l_end ?_
      refine e_then ?_
      refine s_seq ?_
      refine s_seq ?_
      refine s_reg ?_
      refine l_q (by exact y_mv_int rfl) ?_
      refine l_q (by exact y_mv_int rfl) ?_
      refine l_q (by first | exact y_leq rfl rfl (decide_eq_true (by omega)) | exact y_leq rfl rfl (decide_eq_false (by omega)) | exact y_leq rfl rfl rfl) ?_
      refine l_q (by exact y_mv_bool rfl) ?_
      first | refine l_gskip rfl rfl ?_ | refine l_gskip_u rfl rfl ?_ | refine l_gdo rfl rfl (by exact y_mv_int rfl) ?_
      first | refine l_gskip rfl rfl ?_ | refine l_gskip_u rfl rfl ?_ | refine l_gdo rfl rfl (by exact y_mv_slice rfl) ?_
      first | refine l_gskip rfl rfl ?_ | refine l_gskip_u rfl rfl ?_ | refine l_gdo rfl rfl (by exact y_len_slice rfl) ?_
      first | refine l_gskip rfl rfl ?_ | refine l_gskip_u rfl rfl ?_ | refine l_gdo rfl rfl (by first | exact y_geq rfl rfl (decide_eq_true (by omega)) | exact y_geq rfl rfl (decide_eq_false (by omega)) | exact y_geq rfl rfl rfl) ?_
      refine l_q (by first | exact y_pk_bt rfl rfl | exact y_pk_bf rfl rfl) ?_
      refine l_end ?_
      refine e_then ?_
      refine cond_f rfl ?_
      refine s_skip ?_
      refine e_then ?_
      refine s_seq ?_
      refine s_reg ?_
      refine l_q (by exact y_mv_int rfl) ?_
      refine l_q (by exact y_as_int rfl) ?_
      refine l_end ?_
      refine e_then ?_
      refine s_seq ?_
      refine s_reg ?_
      refine l_q (by exact y_mv_slice rfl) ?_
      refine l_q (by exact y_mv_int rfl) ?_
      refine l_w (w_call rfl (witness_k (i := i) (r := r) hj hi (hl0 _) hfl (by omega) hs) rfl (fun _ w h => ?_))
      obtain ⟨q, x, rfl, F, hs⟩ := h; obtain rfl := dead_no hdead hi F
      refine l_q (by exact y_mv_tuple rfl) ?_
      refine l_q (by exact y_extract rfl rfl) ?_
      refine l_q (by exact y_extract rfl rfl) ?_
      refine l_q (by exact y_extract rfl rfl) ?_
      refine l_w (w_alloc (cs := [_, _, _, _, _, _, _, _, _]) hs rfl (fun b12 w hs hb12 => ?_))
      refine l_w (w_storeA (vs := q.cells) hs rfl rfl rfl rfl rfl (fun w hs => ?_))
      refine l_q (by exact y_as_bool rfl) ?_
      refine l_q (by exact y_as_int rfl) ?_
      refine l_end ?_
      refine e_then ?_
      refine s_seq ?_
      refine s_reg ?_
      refine l_q (by exact y_mv_slice rfl) ?_
      refine l_q (by exact y_ldA (vs := p.cells) hs rfl rfl rfl) ?_
      refine l_w (w_call rfl (judge_v l cap0 p hjp (hl0 _) hfl hpf (by omega) hs) rfl (fun _ w h => ?_))
      obtain ⟨rfl, hs⟩ := h
      refine l_q (by exact y_mv_tuple rfl) ?_
      refine l_q (by exact y_extract rfl rfl) ?_
      refine l_q (by exact y_extract rfl rfl) ?_
      refine l_q (by exact y_as_int rfl) ?_
      refine l_q (by exact y_as_int rfl) ?_
      refine l_end ?_
      refine e_then ?_
      refine s_seq ?_
      refine s_reg ?_
      refine l_q (by exact y_mv_bool rfl) ?_
      refine l_q (by exact y_mv_bool rfl) ?_
      first | refine l_gskip rfl rfl ?_ | refine l_gskip_u rfl rfl ?_ | refine l_gdo rfl rfl (by exact y_mv_int rfl) ?_
      first | refine l_gskip rfl rfl ?_ | refine l_gskip_u rfl rfl ?_ | refine l_gdo rfl rfl (by first | exact y_neq rfl rfl (decide_eq_true (by omega)) | exact y_neq rfl rfl (decide_eq_false (by omega)) | exact y_neq rfl rfl rfl) ?_
      refine l_q (by first | exact y_pk_bt rfl rfl | exact y_pk_bf rfl rfl) ?_
      refine l_q (by exact y_mv_bool rfl) ?_
      first | refine l_gskip rfl rfl ?_ | refine l_gskip_u rfl rfl ?_ | refine l_gdo rfl rfl (by exact y_mv_int rfl) ?_
      first | refine l_gskip rfl rfl ?_ | refine l_gskip_u rfl rfl ?_ | refine l_gdo rfl rfl (by first | exact y_eql rfl rfl (decide_eq_true (by omega)) | exact y_eql rfl rfl (decide_eq_false (by omega)) | exact y_eql rfl rfl rfl) ?_
      first | refine l_gskip rfl rfl ?_ | refine l_gskip_u rfl rfl ?_ | refine l_gdo rfl rfl (by exact y_mv_bool rfl) ?_
      first | refine l_gskip rfl rfl ?_ | refine l_gskip_u rfl rfl ?_ | refine l_gdo rfl rfl (by exact y_mv_int rfl) ?_
      first | refine l_gskip rfl rfl ?_ | refine l_gskip_u rfl rfl ?_ | refine l_gdo rfl rfl (by exact y_mv_int rfl) ?_
      first | refine l_gskip rfl rfl ?_ | refine l_gskip_u rfl rfl ?_ | refine l_gdo rfl rfl (by first | exact y_eql rfl rfl (decide_eq_true (by omega)) | exact y_eql rfl rfl (decide_eq_false (by omega)) | exact y_eql rfl rfl rfl) ?_
      first | refine l_gskip rfl rfl ?_ | refine l_gskip_u rfl rfl ?_ | refine l_gdo rfl rfl (by first | exact y_pk_bt rfl rfl | exact y_pk_bf rfl rfl) ?_
      refine l_q (by first | exact y_pk_bt rfl rfl | exact y_pk_bf rfl rfl) ?_
      refine l_end ?_
      refine e_then ?_
      refine cond_f rfl ?_
      refine s_skip ?_
      refine e_blk ?_
      refine e_then ?_
      refine s_reg ?_
      refine l_q (by exact y_toInt (b := ((k + 1 : Nat) : Int)) (y_addn rfl rfl (by omega)) (by omega)) ?_
      refine l_q (by exact y_mv_int rfl) ?_
      refine l_end ?_
      refine e_then ?_
      exact ⟨k + 1, _, nx ⟨rfl, rfl, rfl, rfl, by rw [hnx]; rfl, rfl, rfl, rfl, trivial⟩, ⟨hs.tail, by omega⟩, by omega⟩
    · refine s_seq ?_
      refine s_reg ?_
      refine l_q (by first | exact y_lss rfl rfl (decide_eq_true (by omega)) | exact y_lss rfl rfl (decide_eq_false (by omega)) | exact y_lss rfl rfl rfl) ?_
      refine l_end ?_
      refine e_then ?_
      refine s_seq ?_
      refine cond_t rfl ?_
      refine s_skip ?_
      refine e_then ?_
      refine s_seq ?_
      refine s_block ?_
      refine s_seq ?_
      refine s_reg ?_
      refine l_q (by exact y_indexT (off := k) rfl rfl (by omega) (by omega) had (by omega)) ?_
      refine l_q (by exact y_ld hs rfl hcell) ?_
      refine l_q (by exact y_as_int rfl) ?_
      refine l_end ?_
      refine e_then ?_
      refine s_seq ?_
      refine s_seq ?_
      refine s_reg ?_
      refine l_q (by exact y_mv_int rfl) ?_
      refine l_q (by exact y_mv_int rfl) ?_
      refine l_q (by first | exact y_leq rfl rfl (decide_eq_true (by omega)) | exact y_leq rfl rfl (decide_eq_false (by omega)) | exact y_leq rfl rfl rfl) ?_
      refine l_q (by exact y_mv_bool rfl) ?_
      first | refine l_gskip rfl rfl ?_ | refine l_gskip_u rfl rfl ?_ | refine l_gdo rfl rfl (by exact y_mv_int rfl) ?_
      first | refine l_gskip rfl rfl ?_ | refine l_gskip_u rfl rfl ?_ | refine l_gdo rfl rfl (by exact y_mv_slice rfl) ?_
      first | refine l_gskip rfl rfl ?_ | refine l_gskip_u rfl rfl ?_ | refine l_gdo rfl rfl (by exact y_len_slice rfl) ?_
      first | refine l_gskip rfl rfl ?_ | refine l_gskip_u rfl rfl ?_ | refine l_gdo rfl rfl (by first | exact y_geq rfl rfl (decide_eq_true (by omega)) | exact y_geq rfl rfl (decide_eq_false (by omega)) | exact y_geq rfl rfl rfl) ?_
      refine l_q (by first | exact y_pk_bt rfl rfl | exact y_pk_bf rfl rfl) ?_
      refine l_end ?_
      refine e_then ?_
      refine cond_f rfl ?_
      refine s_skip ?_
      refine e_then ?_
      refine s_seq ?_
      refine s_reg ?_
      refine l_q (by exact y_mv_int rfl) ?_
      refine l_q (by exact y_as_int rfl) ?_
      refine l_end ?_
      refine e_then ?_
      refine s_seq ?_
      refine s_reg ?_
      refine l_q (by exact y_mv_slice rfl) ?_
      refine l_q (by exact y_mv_int rfl) ?_
      refine l_w (w_call rfl (witness_k (i := i) (r := r) hj hi (hl0 _) hfl (by omega) hs) rfl (fun _ w h => ?_))
      obtain ⟨q, x, rfl, F, hs⟩ := h; obtain rfl := dead_no hdead hi F
      refine l_q (by exact y_mv_tuple rfl) ?_
      refine l_q (by exact y_extract rfl rfl) ?_
      refine l_q (by exact y_extract rfl rfl) ?_
      refine l_q (by exact y_extract rfl rfl) ?_
      refine l_w (w_alloc (cs := [_, _, _, _, _, _, _, _, _]) hs rfl (fun b12 w hs hb12 => ?_))
      refine l_w (w_storeA (vs := q.cells) hs rfl rfl rfl rfl rfl (fun w hs => ?_))
      refine l_q (by exact y_as_bool rfl) ?_
      refine l_q (by exact y_as_int rfl) ?_
      refine l_end ?_
      refine e_then ?_
      refine s_seq ?_
      refine s_reg ?_
      refine l_q (by exact y_mv_slice rfl) ?_
      refine l_q (by exact y_ldA (vs := p.cells) hs rfl rfl rfl) ?_
      refine l_w (w_call rfl (judge_v l cap0 p hjp (hl0 _) hfl hpf (by omega) hs) rfl (fun _ w h => ?_))
      obtain ⟨rfl, hs⟩ := h
      refine l_q (by exact y_mv_tuple rfl) ?_
      refine l_q (by exact y_extract rfl rfl) ?_
      refine l_q (by exact y_extract rfl rfl) ?_
      refine l_q (by exact y_as_int rfl) ?_
      refine l_q (by exact y_as_int rfl) ?_
      refine l_end ?_
      refine e_then ?_
      refine s_seq ?_
      refine s_reg ?_
      refine l_q (by exact y_mv_bool rfl) ?_
      refine l_q (by exact y_mv_bool rfl) ?_
      first | refine l_gskip rfl rfl ?_ | refine l_gskip_u rfl rfl ?_ | refine l_gdo rfl rfl (by exact y_mv_int rfl) ?_
      first | refine l_gskip rfl rfl ?_ | refine l_gskip_u rfl rfl ?_ | refine l_gdo rfl rfl (by first | exact y_neq rfl rfl (decide_eq_true (by omega)) | exact y_neq rfl rfl (decide_eq_false (by omega)) | exact y_neq rfl rfl rfl) ?_
      refine l_q (by first | exact y_pk_bt rfl rfl | exact y_pk_bf rfl rfl) ?_
      refine l_q (by exact y_mv_bool rfl) ?_
      first | refine l_gskip rfl rfl ?_ | refine l_gskip_u rfl rfl ?_ | refine l_gdo rfl rfl (by exact y_mv_int rfl) ?_
      first | refine l_gskip rfl rfl ?_ | refine l_gskip_u rfl rfl ?_ | refine l_gdo rfl rfl (by first | exact y_eql rfl rfl (decide_eq_true (by omega)) | exact y_eql rfl rfl (decide_eq_false (by omega)) | exact y_eql rfl rfl rfl) ?_
      first | refine l_gskip rfl rfl ?_ | refine l_gskip_u rfl rfl ?_ | refine l_gdo rfl rfl (by exact y_mv_bool rfl) ?_
      first | refine l_gskip rfl rfl ?_ | refine l_gskip_u rfl rfl ?_ | refine l_gdo rfl rfl (by exact y_mv_int rfl) ?_
      first | refine l_gskip rfl rfl ?_ | refine l_gskip_u rfl rfl ?_ | refine l_gdo rfl rfl (by exact y_mv_int rfl) ?_
      first | refine l_gskip rfl rfl ?_ | refine l_gskip_u rfl rfl ?_ | refine l_gdo rfl rfl (by first | exact y_eql rfl rfl (decide_eq_true (by omega)) | exact y_eql rfl rfl (decide_eq_false (by omega)) | exact y_eql rfl rfl rfl) ?_
      first | refine l_gskip rfl rfl ?_ | refine l_gskip_u rfl rfl ?_ | refine l_gdo rfl rfl (by first | exact y_pk_bt rfl rfl | exact y_pk_bf rfl rfl) ?_
      refine l_q (by first | exact y_pk_bt rfl rfl | exact y_pk_bf rfl rfl) ?_
      refine l_end ?_
      refine e_then ?_
      refine cond_f rfl ?_
      refine s_skip ?_
      refine e_blk ?_
      refine e_then ?_
      refine s_reg ?_
      refine l_q (by exact y_toInt (b := ((k + 1 : Nat) : Int)) (y_addn rfl rfl (by omega)) (by omega)) ?_
      refine l_q (by exact y_mv_int rfl) ?_
      refine l_end ?_
      refine e_then ?_
      exact ⟨k + 1, _, nx ⟨rfl, rfl, rfl, rfl, by rw [hnx]; rfl, rfl, rfl, rfl, trivial⟩, ⟨hs.tail, by omega⟩, by omega⟩
  · by_cases hn : ds.length = 0
    · refine s_seq ?_
      refine s_reg ?_
      refine l_q (by first | exact y_lss rfl rfl (decide_eq_true (by omega)) | exact y_lss rfl rfl (decide_eq_false (by omega)) | exact y_lss rfl rfl rfl) ?_
      refine l_end ?_
      refine e_then ?_
      refine s_seq ?_
      refine cond_f rfl ?_
      refine s_exit ?_
      refine e_then_x ?_
      refine e_then_x ?_
      refine e_blk_x ?_
      refine e_then ?_
      refine s_seq ?_
      refine s_seq ?_
      refine s_reg ?_
      refine l_q (by exact y_mv_slice rfl) ?_
      refine l_q (by exact y_len_slice rfl) ?_
      refine l_q (by first | exact y_eql rfl rfl (decide_eq_true (by omega)) | exact y_eql rfl rfl (decide_eq_false (by omega)) | exact y_eql rfl rfl rfl) ?_
      refine l_end ?_
      refine e_then ?_
      refine cond_t rfl ?_
      refine s_seq ?_
      refine s_reg ?_
      refine l_q (by exact y_as_bool rfl) ?_
      refine l_end ?_
      refine e_then ?_
      refine s_ret ?_
      refine e_then_r ?_
      exact ret_ [.bool _] rfl ⟨rfl, trivial⟩ ⟨rfl, hs.nil⟩
    · obtain ⟨ix, hix0, hix⟩ := pick_n at_ (n := ds.length) (by omega)
      obtain ⟨g, hg, had, hcell⟩ := own_now hokd hix
      haveI := inl_blk hg (nV ds) 3
      have hmem : ds.getD ix 0 ∈ ds := by simp [hix]
      have hdead := D.dead _ hmem
      have hil := D.lt _ hmem
      generalize ds.getD ix 0 = i at *
      have htk : (l.take i).length = i := by rw [List.length_take]; omega
      have hdk : (l.drop (i + 1)).length = l.length - (i + 1) := List.length_drop
      have hsub : ∀ x ∈ l.take i ++ l.drop (i + 1), x ∈ l := fun x hx => (List.mem_append.1 hx).elim (fun h => List.mem_of_mem_take h) (fun h => List.mem_of_mem_drop h)
      have hfk : ∀ x ∈ l.take i ++ l.drop (i + 1), x.fits := fun x hx => hfl x (hsub x hx)
      have hkl : (l.take i ++ l.drop (i + 1)).length = l.length - 1 := by rw [List.length_append, htk, hdk]; omega
      have hj2 : lChk (l.take i ++ l.drop (i + 1)) = 0 := by
        unfold lChk at hj ⊢
        rw [if_neg (by omega)] at hj ⊢
        exact lErr_mem _ fun x hx => lErr_all l hj x (hsub x hx)
      have n1 := allN_mono (show l.length ≤ 5 by omega)
      have n2 := allN_mono (show (l.take i ++ l.drop (i + 1)).length ≤ 4 by omega)
      have a4 : allN 4 = 9922 := rfl
      have a5 : allN 5 = 17081 := rfl
      have bdm5 : ∀ j, j ≤ 5 → bd j ≤ 6326 := by decide
      have d1 := bdm5 (l.take i ++ l.drop (i + 1)).length (by omega)
      have d2 := bdm5 l.length (by omega)
      refine s_seq ?_
      refine s_reg ?_
      refine l_q (by first | exact y_lss rfl rfl (decide_eq_true (by omega)) | exact y_lss rfl rfl (decide_eq_false (by omega)) | exact y_lss rfl rfl rfl) ?_
      refine l_end ?_
      refine e_then ?_
      refine s_seq ?_
      refine cond_f rfl ?_
      refine s_exit ?_
      refine e_then_x ?_
      refine e_then_x ?_
      refine e_blk_x ?_
      refine e_then ?_
      refine s_seq ?_
      refine s_seq ?_
      refine s_reg ?_
      refine l_q (by exact y_mv_slice rfl) ?_
      refine l_q (by exact y_len_slice rfl) ?_
      refine l_q (by first | exact y_eql rfl rfl (decide_eq_true (by omega)) | exact y_eql rfl rfl (decide_eq_false (by omega)) | exact y_eql rfl rfl rfl) ?_
      refine l_end ?_
      refine e_then ?_
      refine cond_f rfl ?_
      refine s_skip ?_
      refine e_then ?_
      refine s_seq ?_
      refine s_reg ?_
      refine l_q (by exact y_mv_slice rfl) ?_
      refine l_q (by exact y_mv_int rfl) ?_
      refine l_q (by exact y_mv_slice rfl) ?_
      refine l_q (by exact y_len_slice rfl) ?_
      refine l_w (w_call rfl (rest_e hix0 _ (by omega) (by omega)) rfl (fun _ w h => ?_))
      obtain ⟨rfl, rfl⟩ := h
      refine l_q (by exact y_indexT (off := ix) rfl rfl (by omega) (by omega) had (by omega)) ?_
      refine l_q (by exact y_ld hs rfl hcell) ?_
      refine l_q (by exact y_as_int rfl) ?_
      refine l_end ?_
      refine e_then ?_
      refine cut (Y := Unit) (fun _ => [(8, I64 0), (18, .bool true)]) (fun _ w => St W w []) (fun K hK => ?_) (fun u ρ w hI => ?_)
      · refine r_draw (.q 0 (.q 2 (.q 3 (.q 4 (.q 6 (.q 7 (.q 8 (.q 9 (.w2 1 (.w2 5 (.w2 10 (.w2 11 (.q 12 (.q 13 (.q 14 (.q 15 (.w 16 (.q 17 (.w 18 (.q 19 (.nil))))))))) 16 (.w 11 (.q 12 (.q 13 (.q 14 (.q 15 (.q 17 (.w 18 (.q 19 (.nil)))))))))) 16 (.w 10 (.w 11 (.q 12 (.q 13 (.q 14 (.q 15 (.q 17 (.w 18 (.q 19 (.nil))))))))))) 16 (.w 5 (.w 10 (.w 11 (.q 12 (.q 13 (.q 14 (.q 15 (.q 17 (.w 18 (.q 19 (.nil)))))))))))) 16 (.w 1 (.w 5 (.w 10 (.w 11 (.q 12 (.q 13 (.q 14 (.q 15 (.q 17 (.w 18 (.q 19 (.nil))))))))))))))))))))) 19 (fun w => St W w []) mixed (by kernel_rfl) ?_
        have hs := hs.drew
        refine c_q rfl (by first | exact hs | exact hs.subl | exact hs.cellAt rfl | trivial) (fun _ _ _ h => h) (fun w hs => by exact y_mv_slice rfl) ?_
        refine c_q rfl (by first | exact hs | exact hs.subl | exact hs.cellAt rfl | trivial) (fun _ _ _ h => h) (fun w hs => by exact y_mv_slice rfl) ?_
        refine c_q rfl (by first | exact hs | exact hs.subl | exact hs.cellAt rfl | trivial) (fun _ _ _ h => h) (fun w hs => by exact y_mv_int rfl) ?_
        refine c_q rfl (by first | exact hs | exact hs.subl | exact hs.cellAt rfl | trivial) (fun _ _ _ h => h) (fun w hs => by exact y_slice_hi rfl rfl (by omega) (by omega)) ?_
        refine c_q rfl (by first | exact hs | exact hs.subl | exact hs.cellAt rfl | trivial) (fun _ _ _ h => h) (fun w hs => by exact y_mv_slice rfl) ?_
        refine c_q rfl (by first | exact hs | exact hs.subl | exact hs.cellAt rfl | trivial) (fun _ _ _ h => h) (fun w hs => by exact y_mv_int rfl) ?_
        refine c_q rfl (by first | exact hs | exact hs.subl | exact hs.cellAt rfl | trivial) (fun _ _ _ h => h) (fun w hs => by exact y_toInt (b := ((i + 1 : Nat) : Int)) (y_addn rfl rfl (by omega)) (by omega)) ?_
        refine c_q rfl (by first | exact hs | exact hs.subl | exact hs.cellAt rfl | trivial) (fun _ _ _ h => h) (fun w hs => by exact y_slice_loA rfl rfl (by omega) (by omega)) ?_
        refine c_w2 rfl rfl rfl rfl (w_slice0 hs (fun b102 w hs hb102 => ?_)) (w_alloc (cs := [_, _, _, _, _, _, _, _, _]) hs rfl (fun b19 w hs hb19 => ?_))
        · refine ⟨fun _ => by first | exact hs | exact hs.subl | exact hs.cellAt rfl | trivial, ?_⟩
          refine c_w2 rfl rfl rfl rfl (w_appR2 (s := ⟨some b102, 0, []⟩) [] [] (l.take i) hs okE0 rfl htk rfl ((hl0 _).take i) ⟨_, rfl⟩ (by simp; omega) (fun s1 w ok1 hg1 hs => ?_)) (w_alloc (cs := [_, _, _, _, _, _, _, _, _]) hs rfl (fun b19 w hs hb19 => ?_))
          · refine ⟨fun _ => by first | exact hs | exact hs.subl | exact hs.cellAt rfl | trivial, ?_⟩
            refine c_w2 rfl rfl rfl rfl (w_appR2 [] (l.take i) (l.drop (i + 1)) hs ok1 rfl hdk rfl ((hl0 _).drop (i + 1) (by omega)) hg1 (by simp; omega) (fun s2 w ok2 hg2 hs => ?_)) (w_alloc (cs := [_, _, _, _, _, _, _, _, _]) hs rfl (fun b19 w hs hb19 => ?_))
            · obtain ⟨g2, hg2⟩ := hg2
              refine ⟨fun _ => by first | exact hs | exact hs.subl | exact hs.cellAt rfl | trivial, ?_⟩
              refine c_w2 rfl rfl rfl rfl (w_call rfl (same_k (k := l.take i ++ l.drop (i + 1)) (m := l) hj hj2 (hl0 _) (rdR_os hg2) hfl hfk (by omega) (by omega) (by omega) (fun r hr => hr) hsub hokl (by omega) hs) rfl (fun _ w h => ?_)) (w_alloc (cs := [_, _, _, _, _, _, _, _, _]) hs rfl (fun b19 w hs hb19 => ?_))
              · obtain ⟨q, x, rfl, F, hs⟩ := h; obtain rfl := dead_same hdead F
                refine ⟨fun _ => by first | exact hs | exact hs.subl | exact hs.cellAt rfl | trivial, ?_⟩
                refine c_q rfl (by first | exact hs | exact hs.subl | exact hs.cellAt rfl | trivial) (fun _ _ _ h => h) (fun w hs => by exact y_mv_tuple rfl) ?_
                refine c_q rfl (by first | exact hs | exact hs.subl | exact hs.cellAt rfl | trivial) (fun _ _ _ h => h) (fun w hs => by exact y_extract rfl rfl) ?_
                refine c_q rfl (by first | exact hs | exact hs.subl | exact hs.cellAt rfl | trivial) (fun _ _ _ h => h) (fun w hs => by exact y_extract rfl rfl) ?_
                refine c_q rfl (by first | exact hs | exact hs.subl | exact hs.cellAt rfl | trivial) (fun _ _ _ h => h) (fun w hs => by exact y_extract rfl rfl) ?_
                refine c_w rfl (w_alloc (cs := [_, _, _, _, _, _, _, _, _]) hs rfl (fun b19 w hs hb19 => ?_))
                first | replace hs := St.sinkB (s := s2) hs | replace hs := St.sinkB (s := s1) hs | replace hs := hs.front b102 | skip
                refine ⟨fun _ => by first | exact hs | exact hs.subl | exact hs.cellAt rfl | trivial, ?_⟩
                refine c_q rfl (by first | exact hs | exact hs.subl | exact hs.cellAt rfl | trivial) (fun _ _ _ h => h) (fun w hs => by exact y_as_bool rfl) ?_
                refine c_w rfl (w_storeA (vs := q.cells) hs rfl rfl rfl rfl rfl (fun w hs => ?_))
                refine ⟨fun _ => by first | exact hs | exact hs.subl | exact hs.cellAt rfl | trivial, ?_⟩
                refine c_q rfl (by first | exact hs | exact hs.subl | exact hs.cellAt rfl | trivial) (fun _ _ _ h => h) (fun w hs => by exact y_as_int rfl) ?_
                refine c_end ?_
                exact e_then (meet hK () ⟨rfl, rfl, trivial⟩ hs.nil)
              · first | replace hs := St.sinkB (s := s2) hs | replace hs := St.sinkB (s := s1) hs | replace hs := hs.front b102 | skip
                refine ⟨fun _ => by first | exact hs | exact hs.subl | exact hs.cellAt rfl | trivial, ?_⟩
                refine c_w rfl (w_call rfl (same_k (k := l.take i ++ l.drop (i + 1)) (m := l) hj hj2 (hl0 _) (rdR_os hg2) hfl hfk (by omega) (by omega) (by omega) (fun r hr => hr) hsub hokl (by omega) hs) rfl (fun _ w h => ?_))
                obtain ⟨q, x, rfl, F, hs⟩ := h; obtain rfl := dead_same hdead F
                refine ⟨fun _ => by first | exact hs | exact hs.subl | exact hs.cellAt rfl | trivial, ?_⟩
                refine c_q rfl (by first | exact hs | exact hs.subl | exact hs.cellAt rfl | trivial) (fun _ _ _ h => h) (fun w hs => by exact y_mv_tuple rfl) ?_
                refine c_q rfl (by first | exact hs | exact hs.subl | exact hs.cellAt rfl | trivial) (fun _ _ _ h => h) (fun w hs => by exact y_extract rfl rfl) ?_
                refine c_q rfl (by first | exact hs | exact hs.subl | exact hs.cellAt rfl | trivial) (fun _ _ _ h => h) (fun w hs => by exact y_extract rfl rfl) ?_
                refine c_q rfl (by first | exact hs | exact hs.subl | exact hs.cellAt rfl | trivial) (fun _ _ _ h => h) (fun w hs => by exact y_extract rfl rfl) ?_
                refine c_q rfl (by first | exact hs | exact hs.subl | exact hs.cellAt rfl | trivial) (fun _ _ _ h => h) (fun w hs => by exact y_as_bool rfl) ?_
                refine c_w rfl (w_storeA (vs := q.cells) hs rfl rfl rfl rfl rfl (fun w hs => ?_))
                refine ⟨fun _ => by first | exact hs | exact hs.subl | exact hs.cellAt rfl | trivial, ?_⟩
                refine c_q rfl (by first | exact hs | exact hs.subl | exact hs.cellAt rfl | trivial) (fun _ _ _ h => h) (fun w hs => by exact y_as_int rfl) ?_
                refine c_end ?_
                exact e_then (meet hK () ⟨rfl, rfl, trivial⟩ hs.nil)
            · first | replace hs := St.sinkB (s := s2) hs | replace hs := St.sinkB (s := s1) hs | replace hs := hs.front b102 | skip
              refine ⟨fun _ => by first | exact hs | exact hs.subl | exact hs.cellAt rfl | trivial, ?_⟩
              refine c_w rfl (w_appR2 [] (l.take i) (l.drop (i + 1)) hs ok1 rfl hdk rfl ((hl0 _).drop (i + 1) (by omega)) hg1 (by simp; omega) (fun s2 w ok2 hg2 hs => ?_))
              obtain ⟨g2, hg2⟩ := hg2
              refine ⟨fun _ => by first | exact hs | exact hs.subl | exact hs.cellAt rfl | trivial, ?_⟩
              refine c_w rfl (w_call rfl (same_k (k := l.take i ++ l.drop (i + 1)) (m := l) hj hj2 (hl0 _) (rdR_os hg2) hfl hfk (by omega) (by omega) (by omega) (fun r hr => hr) hsub hokl (by omega) hs) rfl (fun _ w h => ?_))
              obtain ⟨q, x, rfl, F, hs⟩ := h; obtain rfl := dead_same hdead F
              refine ⟨fun _ => by first | exact hs | exact hs.subl | exact hs.cellAt rfl | trivial, ?_⟩
              refine c_q rfl (by first | exact hs | exact hs.subl | exact hs.cellAt rfl | trivial) (fun _ _ _ h => h) (fun w hs => by exact y_mv_tuple rfl) ?_
              refine c_q rfl (by first | exact hs | exact hs.subl | exact hs.cellAt rfl | trivial) (fun _ _ _ h => h) (fun w hs => by exact y_extract rfl rfl) ?_
              refine c_q rfl (by first | exact hs | exact hs.subl | exact hs.cellAt rfl | trivial) (fun _ _ _ h => h) (fun w hs => by exact y_extract rfl rfl) ?_
              refine c_q rfl (by first | exact hs | exact hs.subl | exact hs.cellAt rfl | trivial) (fun _ _ _ h => h) (fun w hs => by exact y_extract rfl rfl) ?_
              refine c_q rfl (by first | exact hs | exact hs.subl | exact hs.cellAt rfl | trivial) (fun _ _ _ h => h) (fun w hs => by exact y_as_bool rfl) ?_
              refine c_w rfl (w_storeA (vs := q.cells) hs rfl rfl rfl rfl rfl (fun w hs => ?_))
              refine ⟨fun _ => by first | exact hs | exact hs.subl | exact hs.cellAt rfl | trivial, ?_⟩
              refine c_q rfl (by first | exact hs | exact hs.subl | exact hs.cellAt rfl | trivial) (fun _ _ _ h => h) (fun w hs => by exact y_as_int rfl) ?_
              refine c_end ?_
              exact e_then (meet hK () ⟨rfl, rfl, trivial⟩ hs.nil)
          · first | replace hs := St.sinkB (s := s2) hs | replace hs := St.sinkB (s := s1) hs | replace hs := hs.front b102 | skip
            refine ⟨fun _ => by first | exact hs | exact hs.subl | exact hs.cellAt rfl | trivial, ?_⟩
            refine c_w rfl (w_appR2 (s := ⟨some b102, 0, []⟩) [] [] (l.take i) hs okE0 rfl htk rfl ((hl0 _).take i) ⟨_, rfl⟩ (by simp; omega) (fun s1 w ok1 hg1 hs => ?_))
            refine ⟨fun _ => by first | exact hs | exact hs.subl | exact hs.cellAt rfl | trivial, ?_⟩
            refine c_w rfl (w_appR2 [] (l.take i) (l.drop (i + 1)) hs ok1 rfl hdk rfl ((hl0 _).drop (i + 1) (by omega)) hg1 (by simp; omega) (fun s2 w ok2 hg2 hs => ?_))
            obtain ⟨g2, hg2⟩ := hg2
            refine ⟨fun _ => by first | exact hs | exact hs.subl | exact hs.cellAt rfl | trivial, ?_⟩
            refine c_w rfl (w_call rfl (same_k (k := l.take i ++ l.drop (i + 1)) (m := l) hj hj2 (hl0 _) (rdR_os hg2) hfl hfk (by omega) (by omega) (by omega) (fun r hr => hr) hsub hokl (by omega) hs) rfl (fun _ w h => ?_))
            obtain ⟨q, x, rfl, F, hs⟩ := h; obtain rfl := dead_same hdead F
            refine ⟨fun _ => by first | exact hs | exact hs.subl | exact hs.cellAt rfl | trivial, ?_⟩
            refine c_q rfl (by first | exact hs | exact hs.subl | exact hs.cellAt rfl | trivial) (fun _ _ _ h => h) (fun w hs => by exact y_mv_tuple rfl) ?_
            refine c_q rfl (by first | exact hs | exact hs.subl | exact hs.cellAt rfl | trivial) (fun _ _ _ h => h) (fun w hs => by exact y_extract rfl rfl) ?_
            refine c_q rfl (by first | exact hs | exact hs.subl | exact hs.cellAt rfl | trivial) (fun _ _ _ h => h) (fun w hs => by exact y_extract rfl rfl) ?_
            refine c_q rfl (by first | exact hs | exact hs.subl | exact hs.cellAt rfl | trivial) (fun _ _ _ h => h) (fun w hs => by exact y_extract rfl rfl) ?_
            refine c_q rfl (by first | exact hs | exact hs.subl | exact hs.cellAt rfl | trivial) (fun _ _ _ h => h) (fun w hs => by exact y_as_bool rfl) ?_
            refine c_w rfl (w_storeA (vs := q.cells) hs rfl rfl rfl rfl rfl (fun w hs => ?_))
            refine ⟨fun _ => by first | exact hs | exact hs.subl | exact hs.cellAt rfl | trivial, ?_⟩
            refine c_q rfl (by first | exact hs | exact hs.subl | exact hs.cellAt rfl | trivial) (fun _ _ _ h => h) (fun w hs => by exact y_as_int rfl) ?_
            refine c_end ?_
            exact e_then (meet hK () ⟨rfl, rfl, trivial⟩ hs.nil)
        · first | replace hs := St.sinkB (s := s2) hs | replace hs := St.sinkB (s := s1) hs | replace hs := hs.front b102 | skip
          refine ⟨fun _ => by first | exact hs | exact hs.subl | exact hs.cellAt rfl | trivial, ?_⟩
          refine c_w rfl (w_slice0 hs (fun b102 w hs hb102 => ?_))
          refine ⟨fun _ => by first | exact hs | exact hs.subl | exact hs.cellAt rfl | trivial, ?_⟩
          refine c_w rfl (w_appR2 (s := ⟨some b102, 0, []⟩) [] [] (l.take i) hs okE0 rfl htk rfl ((hl0 _).take i) ⟨_, rfl⟩ (by simp; omega) (fun s1 w ok1 hg1 hs => ?_))
          refine ⟨fun _ => by first | exact hs | exact hs.subl | exact hs.cellAt rfl | trivial, ?_⟩
          refine c_w rfl (w_appR2 [] (l.take i) (l.drop (i + 1)) hs ok1 rfl hdk rfl ((hl0 _).drop (i + 1) (by omega)) hg1 (by simp; omega) (fun s2 w ok2 hg2 hs => ?_))
          obtain ⟨g2, hg2⟩ := hg2
          refine ⟨fun _ => by first | exact hs | exact hs.subl | exact hs.cellAt rfl | trivial, ?_⟩
          refine c_w rfl (w_call rfl (same_k (k := l.take i ++ l.drop (i + 1)) (m := l) hj hj2 (hl0 _) (rdR_os hg2) hfl hfk (by omega) (by omega) (by omega) (fun r hr => hr) hsub hokl (by omega) hs) rfl (fun _ w h => ?_))
          obtain ⟨q, x, rfl, F, hs⟩ := h; obtain rfl := dead_same hdead F
          refine ⟨fun _ => by first | exact hs | exact hs.subl | exact hs.cellAt rfl | trivial, ?_⟩
          refine c_q rfl (by first | exact hs | exact hs.subl | exact hs.cellAt rfl | trivial) (fun _ _ _ h => h) (fun w hs => by exact y_mv_tuple rfl) ?_
          refine c_q rfl (by first | exact hs | exact hs.subl | exact hs.cellAt rfl | trivial) (fun _ _ _ h => h) (fun w hs => by exact y_extract rfl rfl) ?_
          refine c_q rfl (by first | exact hs | exact hs.subl | exact hs.cellAt rfl | trivial) (fun _ _ _ h => h) (fun w hs => by exact y_extract rfl rfl) ?_
          refine c_q rfl (by first | exact hs | exact hs.subl | exact hs.cellAt rfl | trivial) (fun _ _ _ h => h) (fun w hs => by exact y_extract rfl rfl) ?_
          refine c_q rfl (by first | exact hs | exact hs.subl | exact hs.cellAt rfl | trivial) (fun _ _ _ h => h) (fun w hs => by exact y_as_bool rfl) ?_
          refine c_w rfl (w_storeA (vs := q.cells) hs rfl rfl rfl rfl rfl (fun w hs => ?_))
          refine ⟨fun _ => by first | exact hs | exact hs.subl | exact hs.cellAt rfl | trivial, ?_⟩
          refine c_q rfl (by first | exact hs | exact hs.subl | exact hs.cellAt rfl | trivial) (fun _ _ _ h => h) (fun w hs => by exact y_as_int rfl) ?_
          refine c_end ?_
          exact e_then (meet hK () ⟨rfl, rfl, trivial⟩ hs.nil)
      have hs := hI
      refine s_seq ?_
      refine s_reg ?_
      refine l_q (by exact y_mv_bool rfl) ?_
      refine l_q (by exact y_mv_bool rfl) ?_
      first | refine l_gskip rfl rfl ?_ | refine l_gskip_u rfl rfl ?_ | refine l_gdo rfl rfl (by exact y_mv_int rfl) ?_
      first | refine l_gskip rfl rfl ?_ | refine l_gskip_u rfl rfl ?_ | refine l_gdo rfl rfl (by first | exact y_eql rfl rfl (decide_eq_true (by omega)) | exact y_eql rfl rfl (decide_eq_false (by omega)) | exact y_eql rfl rfl rfl) ?_
      refine l_q (by first | exact y_pk_bt rfl rfl | exact y_pk_bf rfl rfl) ?_
      refine l_q (by exact y_as_bool rfl) ?_
      refine l_end ?_
      refine e_then ?_
      refine s_ret ?_
      exact ret_ [.bool _] rfl ⟨rfl, trivial⟩ ⟨rfl, hs⟩
end Go.Proofs.Ytfjniocobcoepaa
