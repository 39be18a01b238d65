/- Facts on the functions and types of this seat that its laws are proved from: contracts under the premises that each theorem names. -/
import Derived.Test.YtfjniocobcoepaaG44
set_option linter.unusedSimpArgs false
set_option linter.unusedVariables false
set_option linter.unnecessarySimpa false
namespace Go.Proofs.Ytfjniocobcoepaa
open Go Go.RowKit PB
set_option linter.unusedVariables false
set_option linter.unusedSimpArgs false

/-! ### Writing operations under a guard, in a region whose order is open -/
section
variable {P : Program} {Q : Exit → Act → World → Prop} {S : World → Prop} {z n : Nat} {l : List Oper} {Γ : Fr} {ρ : Nat → Value} {ds : List Deferred} {w : World} {rest : Sch} {op : Op} {ty : TypeId} {pos : String} {after : Array Edge} {i j t : Nat} {want : Bool}
theorem c_gw {dst : Option Nat} (hi : opAt l i = some ⟨dst, op, ty, pos, after, some (j, want)⟩) (hj' : dstAt l j = some t) (hb : PB.ev n Γ ρ (.tmp t) = .bool want)
    (h : OW P ⟨dst, op, ty, pos, after, some (j, want)⟩ (act n Γ ρ ds) w (fun a' w' => (i ≠ z → S w') ∧ WC P l Q S z rest a' w') Q) : WC P l Q S z (.w i rest) (act n Γ ρ ds) w := by
  have hj : (l.toArray[j]?).bind (·.dst) = some t := (dstAt_eq l j).trans hj'
  have hw : Region.wanted ⟨dst, op, ty, pos, after, some (j, want)⟩ (yielded l.toArray (act n Γ ρ ds).tmps) = true := by
    simp only [Region.wanted, yielded_act hj hb]; cases want <;> rfl
  constructor
  simp only [wpCan, wpOp, opAt_eq, hi, hw, if_true]
  exact .inl (Oper.wp_mono (fun _ _ h => ⟨h.1, h.2.out⟩) h.out)
theorem c_gws {d : Nat} (hi : opAt l i = some ⟨some d, op, ty, pos, after, some (j, want)⟩) (hj' : dstAt l j = some t) (hb : PB.ev n Γ ρ (.tmp t) = .bool (!want))
    (h : (i ≠ z → S w) ∧ WC P l Q S z rest (act n ((d, undef) :: Γ) ρ ds) w) : WC P l Q S z (.w i rest) (act n Γ ρ ds) w := by
  have hj : (l.toArray[j]?).bind (·.dst) = some t := (dstAt_eq l j).trans hj'
  have hw : Region.wanted ⟨some d, op, ty, pos, after, some (j, want)⟩ (yielded l.toArray (act n Γ ρ ds).tmps) = false := by
    simp only [Region.wanted, yielded_act hj hb]; cases want <;> rfl
  constructor
  simp only [wpCan, wpOp, opAt_eq, hi, hw, put_act]
  exact ⟨h.1, h.2.out⟩
theorem c_gwsu {d : Nat} (hi : opAt l i = some ⟨some d, op, ty, pos, after, some (j, want)⟩) (hj' : dstAt l j = some t) (hb : PB.ev n Γ ρ (.tmp t) = undef)
    (h : (i ≠ z → S w) ∧ WC P l Q S z rest (act n ((d, undef) :: Γ) ρ ds) w) : WC P l Q S z (.w i rest) (act n Γ ρ ds) w := by
  have hj : (l.toArray[j]?).bind (·.dst) = some t := (dstAt_eq l j).trans hj'
  have hw : Region.wanted ⟨some d, op, ty, pos, after, some (j, want)⟩ (yielded l.toArray (act n Γ ρ ds).tmps) = false := by
    simp only [Region.wanted, yielded_undef hj hb]; rfl
  constructor
  simp only [wpCan, wpOp, opAt_eq, hi, hw, put_act]
  exact ⟨h.1, h.2.out⟩
end

/-! ### RuledSame -/
theorem self_none {l : List RuleV} {p : PktV} {is : Bool} (F : FirstR (fun e => xor (allF l e) (allF l e)) p is) : is = false := by
  cases is with
  | false => rfl
  | true => obtain ⟨e, _, h, _⟩ := F.yes rfl; simp at h
theorem differ {l k : List RuleV} {p : PktV} (hl : ∀ r ∈ l, RuleOk r) (hk : ∀ r ∈ k, RuleOk r) (F : FirstR (fun e => xor (allF l e) (allF k e)) p true) : pChk p = 0 ∧ (permP p l != permP p k) = true := by
  obtain ⟨e, rfl, h, hr⟩ := F.yes rfl
  obtain ⟨h1, _, h3⟩ := pkV_ok hr
  refine ⟨h3, ?_⟩
  rw [permP_all h1 l hl, permP_all h1 k hk]
  cases ha : allF l e <;> cases hb : allF k e <;> simp [ha, hb] at h ⊢
theorem same_walk (W : World) (a0 : Option Addr) (cap0 : Nat) (z0 : List RuleV) (w0 : RulesIn W a0 z0) (c0 : z0.length ≤ cap0) (a1 : Option Addr) (cap1 : Nat) (z1 : List RuleV) (w1 : RulesIn W a1 z1) (c1 : z1.length ≤ cap1) :
    FnC Try.prog 8 [.slice a0 z0.length cap0, .slice a1 z1.length cap1] W (fun v w' => v = .bool true ∧ St W w' []) := by
  have hs := St.start W
  have hl0 : ∀ L, RdR W L a0 (z0.take 4) := fun L => (w0.rd L).take 4
  have hk0 : ∀ L, RdR W L a1 (z1.take 4) := fun L => (w1.rd L).take 4
  have hfl : ∀ r ∈ z0.take 4, r.fits := fun r hr => w0.fits r (List.mem_of_mem_take hr)
  have hfk : ∀ r ∈ z1.take 4, r.fits := fun r hr => w1.fits r (List.mem_of_mem_take hr)
  have hll : (z0.take 4).length = min 4 z0.length := List.length_take
  have hkl : (z1.take 4).length = min 4 z1.length := List.length_take
  have hz0 := w0.len
  have hz1 := w1.len
  generalize z0.take 4 = l at *
  generalize z1.take 4 = k at *
  have hmin0 : Value.int .i64 ((l.length : Nat) : Int) = .int .i64 (if (4 : Int) < (z0.length : Nat) then 4 else (z0.length : Nat)) := by
    have : ((l.length : Nat) : Int) = if (4 : Int) < (z0.length : Nat) then 4 else ((z0.length : Nat) : Int) := by split <;> omega
    exact congrArg _ this
  have hmin1 : Value.int .i64 ((k.length : Nat) : Int) = .int .i64 (if (4 : Int) < (z1.length : Nat) then 4 else (z1.length : Nat)) := by
    have : ((k.length : Nat) : Int) = if (4 : Int) < (z1.length : Nat) then 4 else ((z1.length : Nat) : Int) := by split <;> omega
    exact congrArg _ this
  obtain ⟨z, hj⟩ : ∃ z, lChk l = z := ⟨_, rfl⟩
  obtain ⟨z2, hj2⟩ : ∃ z, lChk k = z := ⟨_, rfl⟩
  refine FnC.enter Try.func8 rfl Try.ntmps8 rfl fun ρ => ?_
  by_cases hz : z ≠ 0
  · refine s_seq ?_
    refine s_reg ?_
    refine l_q (by exact y_as_bool rfl) ?_
    refine l_end ?_
    refine e_then ?_
    refine s_seq ?_
    refine s_seq ?_
    refine s_reg ?_
    refine l_w (w_call rfl (fact26_c hs) rfl (fun _ w h => ?_))
    obtain ⟨rfl, hs⟩ := h
    refine l_q (by first | exact y_not_t rfl | exact y_not_f rfl | exact y_notd rfl) ?_
    refine l_end ?_
    refine e_then ?_
    refine cond_f rfl ?_
    refine s_skip ?_
    refine e_then ?_
    refine s_seq ?_
    refine r_dr (.q 0 (.q 1 (.q 2 (.q 3 (.q 4 (.q 5 (.q 6 (.q 7 (.q 8 (.q 9 (.q 10 (.q 11 (.nil))))))))))))) 11 hs mixed (by kernel_rfl) (fun hs => ?_)
    refine c_q rfl (by first | exact hs | exact hs.subl | exact hs.cellAt rfl | trivial) (fun _ _ _ h => h) (fun w hs => by exact y_mv_slice rfl) ?_
    refine c_q rfl (by first | exact hs | exact hs.subl | exact hs.cellAt rfl | trivial) (fun _ _ _ h => h) (fun w hs => by exact y_mv_slice rfl) ?_
    refine c_q rfl (by first | exact hs | exact hs.subl | exact hs.cellAt rfl | trivial) (fun _ _ _ h => h) (fun w hs => by exact y_len_slice rfl) ?_
    refine c_q rfl (by first | exact hs | exact hs.subl | exact hs.cellAt rfl | trivial) (fun _ _ _ h => h) (fun w hs => by exact y_min (v := .int .i64 ((l.length : Nat) : Int)) rfl rfl hmin0) ?_
    refine c_q rfl (by first | exact hs | exact hs.subl | exact hs.cellAt rfl | trivial) (fun _ _ _ h => h) (fun w hs => by exact y_slice_hi rfl rfl (by omega) (by omega)) ?_
    refine c_q rfl (by first | exact hs | exact hs.subl | exact hs.cellAt rfl | trivial) (fun _ _ _ h => h) (fun w hs => by exact y_mv_slice rfl) ?_
    refine c_q rfl (by first | exact hs | exact hs.subl | exact hs.cellAt rfl | trivial) (fun _ _ _ h => h) (fun w hs => by exact y_mv_slice rfl) ?_
    refine c_q rfl (by first | exact hs | exact hs.subl | exact hs.cellAt rfl | trivial) (fun _ _ _ h => h) (fun w hs => by exact y_len_slice rfl) ?_
    refine c_q rfl (by first | exact hs | exact hs.subl | exact hs.cellAt rfl | trivial) (fun _ _ _ h => h) (fun w hs => by exact y_min (v := .int .i64 ((k.length : Nat) : Int)) rfl rfl hmin1) ?_
    refine c_q rfl (by first | exact hs | exact hs.subl | exact hs.cellAt rfl | trivial) (fun _ _ _ h => h) (fun w hs => by exact y_slice_hi rfl rfl (by omega) (by omega)) ?_
    refine c_q rfl (by first | exact hs | exact hs.subl | exact hs.cellAt rfl | trivial) (fun _ _ _ h => h) (fun w hs => by exact y_as_slice rfl) ?_
    refine c_q rfl (by first | exact hs | exact hs.subl | exact hs.cellAt rfl | trivial) (fun _ _ _ h => h) (fun w hs => by exact y_as_slice rfl) ?_
    refine c_end ?_
    refine e_then ?_
    refine s_seq ?_
    refine s_reg ?_
    refine l_q (by exact y_mv_slice rfl) ?_
    refine l_q (by exact y_mv_slice rfl) ?_
    refine l_w (w_call rfl (same_a _ hj hz (hl0 _) hfl (by omega) hs) rfl (fun _ w h => ?_))
    obtain ⟨rfl, hs⟩ := h
    refine l_q (by exact y_mv_tuple rfl) ?_
    refine l_q (by exact y_extract rfl rfl) ?_
    refine l_q (by exact y_extract rfl rfl) ?_
    refine l_q (by exact y_extract rfl rfl) ?_
    refine l_w (w_alloc (cs := [_, _, _, _, _, _, _, _, _]) hs rfl (fun b6 w hs hb6 => ?_))
    refine l_q (by exact y_as_bool rfl) ?_
    refine l_w (w_storeA (vs := [_, _, _, _, _, _, _, _, _]) hs rfl rfl rfl rfl rfl (fun w hs => ?_))
    refine l_q (by exact y_as_int rfl) ?_
    refine l_end ?_
    refine e_then ?_
    refine s_seq ?_
    refine s_seq ?_
    refine s_reg ?_
    refine l_q (by exact y_mv_slice rfl) ?_
    refine l_w (w_call rfl (rcheck_v l cap0 hj (hl0 _) hfl (by omega) hs) rfl (fun _ w h => ?_))
    obtain ⟨rfl, hs⟩ := h
    refine l_q (by first | exact y_neq rfl rfl (decide_eq_true (by omega)) | exact y_neq rfl rfl (decide_eq_false (by omega)) | exact y_neq rfl rfl rfl) ?_
    refine l_q (by exact y_mv_bool rfl) ?_
    first | refine l_gskip rfl rfl ?_ | refine l_gskip_u rfl rfl ?_ | refine l_gdo rfl rfl (by exact y_mv_slice rfl) ?_
    first | refine l_gskip rfl rfl ?_ | refine l_gskip_u rfl rfl ?_ | (refine l_gw rfl rfl (w_call rfl (rcheck_v k cap1 hj2 (hk0 _) hfk (by omega) hs) rfl (fun _ w h => ?_)); obtain ⟨rfl, hs⟩ := h)
    first | refine l_gskip rfl rfl ?_ | refine l_gskip_u rfl rfl ?_ | refine l_gdo rfl rfl (by first | exact y_neq rfl rfl (decide_eq_true (by omega)) | exact y_neq rfl rfl (decide_eq_false (by omega)) | exact y_neq rfl rfl rfl) ?_
    refine l_q (by first | exact y_pk_bt rfl rfl | exact y_pk_bf rfl rfl) ?_
    refine l_end ?_
    refine e_then ?_
    refine cond_t rfl ?_
    refine s_seq ?_
    refine s_reg ?_
    refine l_q (by exact y_mv_int rfl) ?_
    refine l_q (by first | exact y_neq rfl rfl (decide_eq_true (by omega)) | exact y_neq rfl rfl (decide_eq_false (by omega)) | exact y_neq rfl rfl rfl) ?_
    refine l_q (by exact y_mv_bool rfl) ?_
    first | refine l_gskip rfl rfl ?_ | refine l_gskip_u rfl rfl ?_ | refine l_gdo rfl rfl (by exact y_mv_bool rfl) ?_
    first | refine l_gskip rfl rfl ?_ | refine l_gskip_u rfl rfl ?_ | refine l_gdo rfl rfl (by first | exact y_not_t rfl | exact y_not_f rfl | exact y_notd rfl) ?_
    refine l_q (by first | exact y_pk_bt rfl rfl | exact y_pk_bf rfl rfl) ?_
    refine l_q (by exact y_as_bool rfl) ?_
    refine l_end ?_
    refine e_then ?_
    refine s_ret ?_
    refine e_then_r ?_
    exact ret_ [.bool _] rfl ⟨rfl, trivial⟩ ⟨rfl, hs.nil⟩
  replace hz := Classical.not_not.1 hz
  subst hz
  by_cases hz2 : z2 ≠ 0
  · refine s_seq ?_
    refine s_reg ?_
    refine l_q (by exact y_as_bool rfl) ?_
    refine l_end ?_
    refine e_then ?_
    refine s_seq ?_
    refine s_seq ?_
    refine s_reg ?_
    refine l_w (w_call rfl (fact26_c hs) rfl (fun _ w h => ?_))
    obtain ⟨rfl, hs⟩ := h
    refine l_q (by first | exact y_not_t rfl | exact y_not_f rfl | exact y_notd rfl) ?_
    refine l_end ?_
    refine e_then ?_
    refine cond_f rfl ?_
    refine s_skip ?_
    refine e_then ?_
    refine s_seq ?_
    refine r_dr (.q 0 (.q 1 (.q 2 (.q 3 (.q 4 (.q 5 (.q 6 (.q 7 (.q 8 (.q 9 (.q 10 (.q 11 (.nil))))))))))))) 11 hs mixed (by kernel_rfl) (fun hs => ?_)
    refine c_q rfl (by first | exact hs | exact hs.subl | exact hs.cellAt rfl | trivial) (fun _ _ _ h => h) (fun w hs => by exact y_mv_slice rfl) ?_
    refine c_q rfl (by first | exact hs | exact hs.subl | exact hs.cellAt rfl | trivial) (fun _ _ _ h => h) (fun w hs => by exact y_mv_slice rfl) ?_
    refine c_q rfl (by first | exact hs | exact hs.subl | exact hs.cellAt rfl | trivial) (fun _ _ _ h => h) (fun w hs => by exact y_len_slice rfl) ?_
    refine c_q rfl (by first | exact hs | exact hs.subl | exact hs.cellAt rfl | trivial) (fun _ _ _ h => h) (fun w hs => by exact y_min (v := .int .i64 ((l.length : Nat) : Int)) rfl rfl hmin0) ?_
    refine c_q rfl (by first | exact hs | exact hs.subl | exact hs.cellAt rfl | trivial) (fun _ _ _ h => h) (fun w hs => by exact y_slice_hi rfl rfl (by omega) (by omega)) ?_
    refine c_q rfl (by first | exact hs | exact hs.subl | exact hs.cellAt rfl | trivial) (fun _ _ _ h => h) (fun w hs => by exact y_mv_slice rfl) ?_
    refine c_q rfl (by first | exact hs | exact hs.subl | exact hs.cellAt rfl | trivial) (fun _ _ _ h => h) (fun w hs => by exact y_mv_slice rfl) ?_
    refine c_q rfl (by first | exact hs | exact hs.subl | exact hs.cellAt rfl | trivial) (fun _ _ _ h => h) (fun w hs => by exact y_len_slice rfl) ?_
    refine c_q rfl (by first | exact hs | exact hs.subl | exact hs.cellAt rfl | trivial) (fun _ _ _ h => h) (fun w hs => by exact y_min (v := .int .i64 ((k.length : Nat) : Int)) rfl rfl hmin1) ?_
    refine c_q rfl (by first | exact hs | exact hs.subl | exact hs.cellAt rfl | trivial) (fun _ _ _ h => h) (fun w hs => by exact y_slice_hi rfl rfl (by omega) (by omega)) ?_
    refine c_q rfl (by first | exact hs | exact hs.subl | exact hs.cellAt rfl | trivial) (fun _ _ _ h => h) (fun w hs => by exact y_as_slice rfl) ?_
    refine c_q rfl (by first | exact hs | exact hs.subl | exact hs.cellAt rfl | trivial) (fun _ _ _ h => h) (fun w hs => by exact y_as_slice rfl) ?_
    refine c_end ?_
    refine e_then ?_
    refine s_seq ?_
    refine s_reg ?_
    refine l_q (by exact y_mv_slice rfl) ?_
    refine l_q (by exact y_mv_slice rfl) ?_
    refine l_w (w_call rfl (same_b hj hj2 hz2 (hl0 _) (hk0 _) hfl hfk (by omega) (by omega) hs) rfl (fun _ w h => ?_))
    obtain ⟨rfl, hs⟩ := h
    refine l_q (by exact y_mv_tuple rfl) ?_
    refine l_q (by exact y_extract rfl rfl) ?_
    refine l_q (by exact y_extract rfl rfl) ?_
    refine l_q (by exact y_extract rfl rfl) ?_
    refine l_w (w_alloc (cs := [_, _, _, _, _, _, _, _, _]) hs rfl (fun b6 w hs hb6 => ?_))
    refine l_q (by exact y_as_bool rfl) ?_
    refine l_w (w_storeA (vs := [_, _, _, _, _, _, _, _, _]) hs rfl rfl rfl rfl rfl (fun w hs => ?_))
    refine l_q (by exact y_as_int rfl) ?_
    refine l_end ?_
    refine e_then ?_
    refine s_seq ?_
    refine s_seq ?_
    refine s_reg ?_
    refine l_q (by exact y_mv_slice rfl) ?_
    refine l_w (w_call rfl (rcheck_v l cap0 hj (hl0 _) hfl (by omega) hs) rfl (fun _ w h => ?_))
    obtain ⟨rfl, hs⟩ := h
    refine l_q (by first | exact y_neq rfl rfl (decide_eq_true (by omega)) | exact y_neq rfl rfl (decide_eq_false (by omega)) | exact y_neq rfl rfl rfl) ?_
    refine l_q (by exact y_mv_bool rfl) ?_
    first | refine l_gskip rfl rfl ?_ | refine l_gskip_u rfl rfl ?_ | refine l_gdo rfl rfl (by exact y_mv_slice rfl) ?_
    first | refine l_gskip rfl rfl ?_ | refine l_gskip_u rfl rfl ?_ | (refine l_gw rfl rfl (w_call rfl (rcheck_v k cap1 hj2 (hk0 _) hfk (by omega) hs) rfl (fun _ w h => ?_)); obtain ⟨rfl, hs⟩ := h)
    first | refine l_gskip rfl rfl ?_ | refine l_gskip_u rfl rfl ?_ | refine l_gdo rfl rfl (by first | exact y_neq rfl rfl (decide_eq_true (by omega)) | exact y_neq rfl rfl (decide_eq_false (by omega)) | exact y_neq rfl rfl rfl) ?_
    refine l_q (by first | exact y_pk_bt rfl rfl | exact y_pk_bf rfl rfl) ?_
    refine l_end ?_
    refine e_then ?_
    refine cond_t rfl ?_
    refine s_seq ?_
    refine s_reg ?_
    refine l_q (by exact y_mv_int rfl) ?_
    refine l_q (by first | exact y_neq rfl rfl (decide_eq_true (by omega)) | exact y_neq rfl rfl (decide_eq_false (by omega)) | exact y_neq rfl rfl rfl) ?_
    refine l_q (by exact y_mv_bool rfl) ?_
    first | refine l_gskip rfl rfl ?_ | refine l_gskip_u rfl rfl ?_ | refine l_gdo rfl rfl (by exact y_mv_bool rfl) ?_
    first | refine l_gskip rfl rfl ?_ | refine l_gskip_u rfl rfl ?_ | refine l_gdo rfl rfl (by first | exact y_not_t rfl | exact y_not_f rfl | exact y_notd rfl) ?_
    refine l_q (by first | exact y_pk_bt rfl rfl | exact y_pk_bf rfl rfl) ?_
    refine l_q (by exact y_as_bool rfl) ?_
    refine l_end ?_
    refine e_then ?_
    refine s_ret ?_
    refine e_then_r ?_
    exact ret_ [.bool _] rfl ⟨rfl, trivial⟩ ⟨rfl, hs.nil⟩
  replace hz2 := Classical.not_not.1 hz2
  subst hz2
  have hokl := lChk_ok hfl hj
  have hokk := lChk_ok hfk hj2
  have hokm : ∀ r ∈ l ++ k, RuleOk r := fun r hr => (List.mem_append.1 hr).elim (hokl r) (hokk r)
  have n1 := allN_mono (show l.length ≤ 4 by omega)
  have n2 := allN_mono (show k.length ≤ 4 by omega)
  have a4 : allN 4 = 9922 := rfl
  have bdm : ∀ j, j ≤ 8 → bd j ≤ 30289 := by decide
  have bdm4 : ∀ j, j ≤ 4 → bd j ≤ 3629 := by decide
  have d1 := bdm4 k.length (by omega)
  have d3 := bdm4 l.length (by omega)
  have hlk : (l ++ k).length = l.length + k.length := List.length_append
  have d2 := bdm (l ++ k).length (by omega)
  refine s_seq ?_
  refine s_reg ?_
  refine l_q (by exact y_as_bool rfl) ?_
  refine l_end ?_
  refine e_then ?_
  refine s_seq ?_
  refine s_seq ?_
  refine s_reg ?_
  refine l_w (w_call rfl (fact26_c hs) rfl (fun _ w h => ?_))
  obtain ⟨rfl, hs⟩ := h
  refine l_q (by first | exact y_not_t rfl | exact y_not_f rfl | exact y_notd rfl) ?_
  refine l_end ?_
  refine e_then ?_
  refine cond_f rfl ?_
  refine s_skip ?_
  refine e_then ?_
  refine s_seq ?_
  refine r_dr (.q 0 (.q 1 (.q 2 (.q 3 (.q 4 (.q 5 (.q 6 (.q 7 (.q 8 (.q 9 (.q 10 (.q 11 (.nil))))))))))))) 11 hs mixed (by kernel_rfl) (fun hs => ?_)
  refine c_q rfl (by first | exact hs | exact hs.subl | exact hs.cellAt rfl | trivial) (fun _ _ _ h => h) (fun w hs => by exact y_mv_slice rfl) ?_
  refine c_q rfl (by first | exact hs | exact hs.subl | exact hs.cellAt rfl | trivial) (fun _ _ _ h => h) (fun w hs => by exact y_mv_slice rfl) ?_
  refine c_q rfl (by first | exact hs | exact hs.subl | exact hs.cellAt rfl | trivial) (fun _ _ _ h => h) (fun w hs => by exact y_len_slice rfl) ?_
  refine c_q rfl (by first | exact hs | exact hs.subl | exact hs.cellAt rfl | trivial) (fun _ _ _ h => h) (fun w hs => by exact y_min (v := .int .i64 ((l.length : Nat) : Int)) rfl rfl hmin0) ?_
  refine c_q rfl (by first | exact hs | exact hs.subl | exact hs.cellAt rfl | trivial) (fun _ _ _ h => h) (fun w hs => by exact y_slice_hi rfl rfl (by omega) (by omega)) ?_
  refine c_q rfl (by first | exact hs | exact hs.subl | exact hs.cellAt rfl | trivial) (fun _ _ _ h => h) (fun w hs => by exact y_mv_slice rfl) ?_
  refine c_q rfl (by first | exact hs | exact hs.subl | exact hs.cellAt rfl | trivial) (fun _ _ _ h => h) (fun w hs => by exact y_mv_slice rfl) ?_
  refine c_q rfl (by first | exact hs | exact hs.subl | exact hs.cellAt rfl | trivial) (fun _ _ _ h => h) (fun w hs => by exact y_len_slice rfl) ?_
  refine c_q rfl (by first | exact hs | exact hs.subl | exact hs.cellAt rfl | trivial) (fun _ _ _ h => h) (fun w hs => by exact y_min (v := .int .i64 ((k.length : Nat) : Int)) rfl rfl hmin1) ?_
  refine c_q rfl (by first | exact hs | exact hs.subl | exact hs.cellAt rfl | trivial) (fun _ _ _ h => h) (fun w hs => by exact y_slice_hi rfl rfl (by omega) (by omega)) ?_
  refine c_q rfl (by first | exact hs | exact hs.subl | exact hs.cellAt rfl | trivial) (fun _ _ _ h => h) (fun w hs => by exact y_as_slice rfl) ?_
  refine c_q rfl (by first | exact hs | exact hs.subl | exact hs.cellAt rfl | trivial) (fun _ _ _ h => h) (fun w hs => by exact y_as_slice rfl) ?_
  refine c_end ?_
  refine e_then ?_
  refine s_seq ?_
  refine s_reg ?_
  refine l_q (by exact y_mv_slice rfl) ?_
  refine l_q (by exact y_mv_slice rfl) ?_
  refine l_w (w_call rfl (same_k (m := l ++ k) hj hj2 (hl0 _) (hk0 _) hfl hfk (by omega) (by omega) (by omega) (fun r hr => List.mem_append_left _ hr) (fun r hr => List.mem_append_right _ hr) hokm (by omega) hs) rfl (fun _ w h => ?_))
  obtain ⟨p, x, rfl, F, hs⟩ := h
  refine l_q (by exact y_mv_tuple rfl) ?_
  refine l_q (by exact y_extract rfl rfl) ?_
  refine l_q (by exact y_extract rfl rfl) ?_
  refine l_q (by exact y_extract rfl rfl) ?_
  refine l_w (w_alloc (cs := [_, _, _, _, _, _, _, _, _]) hs rfl (fun b6 w hs hb6 => ?_))
  refine l_q (by exact y_as_bool rfl) ?_
  refine l_w (w_storeA (vs := p.cells) hs rfl rfl rfl rfl rfl (fun w hs => ?_))
  refine l_q (by exact y_as_int rfl) ?_
  refine l_end ?_
  refine e_then ?_
  refine s_seq ?_
  refine s_seq ?_
  refine s_reg ?_
  refine l_q (by exact y_mv_slice rfl) ?_
  refine l_w (w_call rfl (rcheck_v l cap0 hj (hl0 _) hfl (by omega) hs) rfl (fun _ w h => ?_))
  obtain ⟨rfl, hs⟩ := h
  refine l_q (by first | exact y_neq rfl rfl (decide_eq_true (by omega)) | exact y_neq rfl rfl (decide_eq_false (by omega)) | exact y_neq rfl rfl rfl) ?_
  refine l_q (by exact y_mv_bool rfl) ?_
  first | refine l_gskip rfl rfl ?_ | refine l_gskip_u rfl rfl ?_ | refine l_gdo rfl rfl (by exact y_mv_slice rfl) ?_
  first | refine l_gskip rfl rfl ?_ | refine l_gskip_u rfl rfl ?_ | (refine l_gw rfl rfl (w_call rfl (rcheck_v k cap1 hj2 (hk0 _) hfk (by omega) hs) rfl (fun _ w h => ?_)); obtain ⟨rfl, hs⟩ := h)
  first | refine l_gskip rfl rfl ?_ | refine l_gskip_u rfl rfl ?_ | refine l_gdo rfl rfl (by first | exact y_neq rfl rfl (decide_eq_true (by omega)) | exact y_neq rfl rfl (decide_eq_false (by omega)) | exact y_neq rfl rfl rfl) ?_
  refine l_q (by first | exact y_pk_bt rfl rfl | exact y_pk_bf rfl rfl) ?_
  refine l_end ?_
  refine e_then ?_
  refine cond_f rfl ?_
  refine s_skip ?_
  refine e_then ?_
  refine s_seq ?_
  refine s_reg ?_
  refine l_q (by exact y_mv_slice rfl) ?_
  refine l_q (by exact y_mv_slice rfl) ?_
  refine l_w (w_call rfl (same_k (m := l) hj hj (hl0 _) (hl0 _) hfl hfl (by omega) (by omega) (by omega) (fun r hr => hr) (fun r hr => hr) hokl (by omega) hs) rfl (fun _ w h => ?_))
  obtain ⟨p2, x2, rfl, F2, hs⟩ := h; obtain rfl := self_none F2
  refine l_q (by exact y_mv_tuple rfl) ?_
  refine l_q (by exact y_extract rfl rfl) ?_
  refine l_q (by exact y_extract rfl rfl) ?_
  refine l_q (by exact y_extract rfl rfl) ?_
  refine l_w (w_alloc (cs := [_, _, _, _, _, _, _, _, _]) hs rfl (fun b9 w hs hb9 => ?_))
  refine l_q (by exact y_as_bool rfl) ?_
  refine l_w (w_storeA (vs := p2.cells) hs rfl rfl rfl rfl rfl (fun w hs => ?_))
  refine l_q (by exact y_as_int rfl) ?_
  refine l_end ?_
  refine e_then ?_
  refine s_seq ?_
  refine s_seq ?_
  refine s_reg ?_
  refine l_q (by exact y_mv_int rfl) ?_
  refine l_q (by first | exact y_neq rfl rfl (decide_eq_true (by omega)) | exact y_neq rfl rfl (decide_eq_false (by omega)) | exact y_neq rfl rfl rfl) ?_
  refine l_q (by exact y_mv_bool rfl) ?_
  first | refine l_gskip rfl rfl ?_ | refine l_gskip_u rfl rfl ?_ | refine l_gdo rfl rfl (by exact y_mv_int rfl) ?_
  first | refine l_gskip rfl rfl ?_ | refine l_gskip_u rfl rfl ?_ | refine l_gdo rfl rfl (by first | exact y_neq rfl rfl (decide_eq_true (by omega)) | exact y_neq rfl rfl (decide_eq_false (by omega)) | exact y_neq rfl rfl rfl) ?_
  refine l_q (by first | exact y_pk_bt rfl rfl | exact y_pk_bf rfl rfl) ?_
  refine l_q (by exact y_mv_bool rfl) ?_
  first | refine l_gskip rfl rfl ?_ | refine l_gskip_u rfl rfl ?_ | refine l_gdo rfl rfl (by exact y_mv_bool rfl) ?_
  first | refine l_gskip rfl rfl ?_ | refine l_gskip_u rfl rfl ?_ | refine l_gdo rfl rfl (by first | exact y_not_t rfl | exact y_not_f rfl | exact y_notd rfl) ?_
  refine l_q (by first | exact y_pk_bt rfl rfl | exact y_pk_bf rfl rfl) ?_
  refine l_end ?_
  refine e_then ?_
  refine cond_f rfl ?_
  have hpf := first_fits F
  replace hs : St W w [(b9, .cells p2.cells 51), (b6, .cells p.cells 51)] := hs
  cases x with
  | false =>
    refine s_skip ?_
    refine e_then ?_
    refine s_seq ?_
    refine r_draw (.q 0 (.q 1 (.q 2 (.w 3 (.q 4 (.q 5 (.q 6 (.q 7 (.q 9 (.q 10 (.w 8 (.w 11 (.q 12 (.q 13 (.q 14 (.q 15 (.nil))))))))))))))))) 15 (fun w => St W w [(b9, .cells p2.cells 51), (b6, .cells p.cells 51)]) mixed (by kernel_rfl) ?_
    have hs := hs.drew
    refine c_q rfl (by first | exact hs | exact hs.subl | exact hs.cellAt rfl | trivial) (fun _ _ _ h => h) (fun w hs => by exact y_mv_bool rfl) ?_
    refine c_q rfl (by first | exact hs | exact hs.subl | exact hs.cellAt rfl | trivial) (fun _ _ _ h => h) (fun w hs => by exact y_mv_bool rfl) ?_
    first | refine c_gskip rfl (by first | exact hs | exact hs.subl | exact hs.cellAt rfl | trivial) (fun _ _ _ h => h) rfl rfl ?_ | refine c_gskip_u rfl (by first | exact hs | exact hs.subl | exact hs.cellAt rfl | trivial) (fun _ _ _ h => h) rfl rfl ?_ | refine c_gdo rfl (by first | exact hs | exact hs.subl | exact hs.cellAt rfl | trivial) (fun _ _ _ h => h) rfl rfl (fun w hs => by exact y_ldA (vs := p.cells) hs rfl rfl rfl) ?_
    first | refine c_gws rfl rfl rfl ?_ | refine c_gwsu rfl rfl rfl ?_ | (refine c_gw rfl rfl rfl (w_call rfl (pcheck_0 p hpf hpc hs) rfl (fun _ w h => ?_)); obtain ⟨rfl, hs⟩ := h)
    refine ⟨fun _ => by first | exact hs | exact hs.subl | exact hs.cellAt rfl | trivial, ?_⟩
    first | refine c_gskip rfl (by first | exact hs | exact hs.subl | exact hs.cellAt rfl | trivial) (fun _ _ _ h => h) rfl rfl ?_ | refine c_gskip_u rfl (by first | exact hs | exact hs.subl | exact hs.cellAt rfl | trivial) (fun _ _ _ h => h) rfl rfl ?_ | refine c_gdo rfl (by first | exact hs | exact hs.subl | exact hs.cellAt rfl | trivial) (fun _ _ _ h => h) rfl rfl (fun w hs => by first | exact y_eql rfl rfl (decide_eq_true (by omega)) | exact y_eql rfl rfl (decide_eq_false (by omega)) | exact y_eql rfl rfl rfl) ?_
    first | refine c_gskip rfl (by first | exact hs | exact hs.subl | exact hs.cellAt rfl | trivial) (fun _ _ _ h => h) rfl rfl ?_ | refine c_gskip_u rfl (by first | exact hs | exact hs.subl | exact hs.cellAt rfl | trivial) (fun _ _ _ h => h) rfl rfl ?_ | refine c_gdo rfl (by first | exact hs | exact hs.subl | exact hs.cellAt rfl | trivial) (fun _ _ _ h => h) rfl rfl (fun w hs => by exact y_mv_bool rfl) ?_
    first | refine c_gskip rfl (by first | exact hs | exact hs.subl | exact hs.cellAt rfl | trivial) (fun _ _ _ h => h) rfl rfl ?_ | refine c_gskip_u rfl (by first | exact hs | exact hs.subl | exact hs.cellAt rfl | trivial) (fun _ _ _ h => h) rfl rfl ?_ | refine c_gdo rfl (by first | exact hs | exact hs.subl | exact hs.cellAt rfl | trivial) (fun _ _ _ h => h) rfl rfl (fun w hs => by exact y_mv_slice rfl) ?_
    first | refine c_gskip rfl (by first | exact hs | exact hs.subl | exact hs.cellAt rfl | trivial) (fun _ _ _ h => h) rfl rfl ?_ | refine c_gskip_u rfl (by first | exact hs | exact hs.subl | exact hs.cellAt rfl | trivial) (fun _ _ _ h => h) rfl rfl ?_ | refine c_gdo rfl (by first | exact hs | exact hs.subl | exact hs.cellAt rfl | trivial) (fun _ _ _ h => h) rfl rfl (fun w hs => by exact y_ldA (vs := p.cells) hs rfl rfl rfl) ?_
    first | refine c_gskip rfl (by first | exact hs | exact hs.subl | exact hs.cellAt rfl | trivial) (fun _ _ _ h => h) rfl rfl ?_ | refine c_gskip_u rfl (by first | exact hs | exact hs.subl | exact hs.cellAt rfl | trivial) (fun _ _ _ h => h) rfl rfl ?_ | refine c_gdo rfl (by first | exact hs | exact hs.subl | exact hs.cellAt rfl | trivial) (fun _ _ _ h => h) rfl rfl (fun w hs => by exact y_mv_slice rfl) ?_
    first | refine c_gskip rfl (by first | exact hs | exact hs.subl | exact hs.cellAt rfl | trivial) (fun _ _ _ h => h) rfl rfl ?_ | refine c_gskip_u rfl (by first | exact hs | exact hs.subl | exact hs.cellAt rfl | trivial) (fun _ _ _ h => h) rfl rfl ?_ | refine c_gdo rfl (by first | exact hs | exact hs.subl | exact hs.cellAt rfl | trivial) (fun _ _ _ h => h) rfl rfl (fun w hs => by exact y_ldA (vs := p.cells) hs rfl rfl rfl) ?_
    first | refine c_gws rfl rfl rfl ?_ | refine c_gwsu rfl rfl rfl ?_ | (refine c_gw rfl rfl rfl (w_call rfl (permits_k hj hpc (hl0 _) hfl hpf (by omega) hs) rfl (fun _ w h => ?_)); obtain ⟨rfl, hs⟩ := h)
    refine ⟨fun _ => by first | exact hs | exact hs.subl | exact hs.cellAt rfl | trivial, ?_⟩
    first | refine c_gws rfl rfl rfl ?_ | refine c_gwsu rfl rfl rfl ?_ | (refine c_gw rfl rfl rfl (w_call rfl (permits_k hj2 hpc (hk0 _) hfk hpf (by omega) hs) rfl (fun _ w h => ?_)); obtain ⟨rfl, hs⟩ := h)
    refine ⟨fun _ => by first | exact hs | exact hs.subl | exact hs.cellAt rfl | trivial, ?_⟩
    first | refine c_gskip rfl (by first | exact hs | exact hs.subl | exact hs.cellAt rfl | trivial) (fun _ _ _ h => h) rfl rfl ?_ | refine c_gskip_u rfl (by first | exact hs | exact hs.subl | exact hs.cellAt rfl | trivial) (fun _ _ _ h => h) rfl rfl ?_ | refine c_gdo rfl (by first | exact hs | exact hs.subl | exact hs.cellAt rfl | trivial) (fun _ _ _ h => h) rfl rfl (fun w hs => by exact y_bool_neq rfl rfl rfl) ?_
    first | refine c_gskip rfl (by first | exact hs | exact hs.subl | exact hs.cellAt rfl | trivial) (fun _ _ _ h => h) rfl rfl ?_ | refine c_gskip_u rfl (by first | exact hs | exact hs.subl | exact hs.cellAt rfl | trivial) (fun _ _ _ h => h) rfl rfl ?_ | refine c_gdo rfl (by first | exact hs | exact hs.subl | exact hs.cellAt rfl | trivial) (fun _ _ _ h => h) rfl rfl (fun w hs => by first | exact y_pk_bt rfl rfl | exact y_pk_bf rfl rfl) ?_
    refine c_q rfl (by first | exact hs | exact hs.subl | exact hs.cellAt rfl | trivial) (fun _ _ _ h => h) (fun w hs => by first | exact y_pk_bt rfl rfl | exact y_pk_bf rfl rfl) ?_
    refine c_q rfl (by first | exact hs | exact hs.subl | exact hs.cellAt rfl | trivial) (fun _ _ _ h => h) (fun w hs => by exact y_as_bool rfl) ?_
    refine c_end ?_
    refine e_then ?_
    refine s_ret ?_
    exact ret_ [.bool _] rfl ⟨rfl, trivial⟩ ⟨rfl, hs.nil⟩
  | true =>
    obtain ⟨hpc, hne⟩ := differ hokl hokk F
    refine s_skip ?_
    refine e_then ?_
    refine s_seq ?_
    refine r_draw (.q 0 (.q 1 (.q 2 (.w 3 (.q 4 (.q 5 (.q 6 (.q 7 (.q 9 (.q 10 (.w 8 (.w 11 (.q 12 (.q 13 (.q 14 (.q 15 (.nil))))))))))))))))) 15 (fun w => St W w [(b9, .cells p2.cells 51), (b6, .cells p.cells 51)]) mixed (by kernel_rfl) ?_
    have hs := hs.drew
    refine c_q rfl (by first | exact hs | exact hs.subl | exact hs.cellAt rfl | trivial) (fun _ _ _ h => h) (fun w hs => by exact y_mv_bool rfl) ?_
    refine c_q rfl (by first | exact hs | exact hs.subl | exact hs.cellAt rfl | trivial) (fun _ _ _ h => h) (fun w hs => by exact y_mv_bool rfl) ?_
    first | refine c_gskip rfl (by first | exact hs | exact hs.subl | exact hs.cellAt rfl | trivial) (fun _ _ _ h => h) rfl rfl ?_ | refine c_gskip_u rfl (by first | exact hs | exact hs.subl | exact hs.cellAt rfl | trivial) (fun _ _ _ h => h) rfl rfl ?_ | refine c_gdo rfl (by first | exact hs | exact hs.subl | exact hs.cellAt rfl | trivial) (fun _ _ _ h => h) rfl rfl (fun w hs => by exact y_ldA (vs := p.cells) hs rfl rfl rfl) ?_
    first | refine c_gws rfl rfl rfl ?_ | refine c_gwsu rfl rfl rfl ?_ | (refine c_gw rfl rfl rfl (w_call rfl (pcheck_0 p hpf hpc hs) rfl (fun _ w h => ?_)); obtain ⟨rfl, hs⟩ := h)
    refine ⟨fun _ => by first | exact hs | exact hs.subl | exact hs.cellAt rfl | trivial, ?_⟩
    first | refine c_gskip rfl (by first | exact hs | exact hs.subl | exact hs.cellAt rfl | trivial) (fun _ _ _ h => h) rfl rfl ?_ | refine c_gskip_u rfl (by first | exact hs | exact hs.subl | exact hs.cellAt rfl | trivial) (fun _ _ _ h => h) rfl rfl ?_ | refine c_gdo rfl (by first | exact hs | exact hs.subl | exact hs.cellAt rfl | trivial) (fun _ _ _ h => h) rfl rfl (fun w hs => by first | exact y_eql rfl rfl (decide_eq_true (by omega)) | exact y_eql rfl rfl (decide_eq_false (by omega)) | exact y_eql rfl rfl rfl) ?_
    first | refine c_gskip rfl (by first | exact hs | exact hs.subl | exact hs.cellAt rfl | trivial) (fun _ _ _ h => h) rfl rfl ?_ | refine c_gskip_u rfl (by first | exact hs | exact hs.subl | exact hs.cellAt rfl | trivial) (fun _ _ _ h => h) rfl rfl ?_ | refine c_gdo rfl (by first | exact hs | exact hs.subl | exact hs.cellAt rfl | trivial) (fun _ _ _ h => h) rfl rfl (fun w hs => by exact y_mv_bool rfl) ?_
    first | refine c_gskip rfl (by first | exact hs | exact hs.subl | exact hs.cellAt rfl | trivial) (fun _ _ _ h => h) rfl rfl ?_ | refine c_gskip_u rfl (by first | exact hs | exact hs.subl | exact hs.cellAt rfl | trivial) (fun _ _ _ h => h) rfl rfl ?_ | refine c_gdo rfl (by first | exact hs | exact hs.subl | exact hs.cellAt rfl | trivial) (fun _ _ _ h => h) rfl rfl (fun w hs => by exact y_mv_slice rfl) ?_
    first | refine c_gskip rfl (by first | exact hs | exact hs.subl | exact hs.cellAt rfl | trivial) (fun _ _ _ h => h) rfl rfl ?_ | refine c_gskip_u rfl (by first | exact hs | exact hs.subl | exact hs.cellAt rfl | trivial) (fun _ _ _ h => h) rfl rfl ?_ | refine c_gdo rfl (by first | exact hs | exact hs.subl | exact hs.cellAt rfl | trivial) (fun _ _ _ h => h) rfl rfl (fun w hs => by exact y_ldA (vs := p.cells) hs rfl rfl rfl) ?_
    first | refine c_gskip rfl (by first | exact hs | exact hs.subl | exact hs.cellAt rfl | trivial) (fun _ _ _ h => h) rfl rfl ?_ | refine c_gskip_u rfl (by first | exact hs | exact hs.subl | exact hs.cellAt rfl | trivial) (fun _ _ _ h => h) rfl rfl ?_ | refine c_gdo rfl (by first | exact hs | exact hs.subl | exact hs.cellAt rfl | trivial) (fun _ _ _ h => h) rfl rfl (fun w hs => by exact y_mv_slice rfl) ?_
    first | refine c_gskip rfl (by first | exact hs | exact hs.subl | exact hs.cellAt rfl | trivial) (fun _ _ _ h => h) rfl rfl ?_ | refine c_gskip_u rfl (by first | exact hs | exact hs.subl | exact hs.cellAt rfl | trivial) (fun _ _ _ h => h) rfl rfl ?_ | refine c_gdo rfl (by first | exact hs | exact hs.subl | exact hs.cellAt rfl | trivial) (fun _ _ _ h => h) rfl rfl (fun w hs => by exact y_ldA (vs := p.cells) hs rfl rfl rfl) ?_
    first | refine c_gws rfl rfl rfl ?_ | refine c_gwsu rfl rfl rfl ?_ | (refine c_gw rfl rfl rfl (w_call rfl (permits_k hj hpc (hl0 _) hfl hpf (by omega) hs) rfl (fun _ w h => ?_)); obtain ⟨rfl, hs⟩ := h)
    refine ⟨fun _ => by first | exact hs | exact hs.subl | exact hs.cellAt rfl | trivial, ?_⟩
    first | refine c_gws rfl rfl rfl ?_ | refine c_gwsu rfl rfl rfl ?_ | (refine c_gw rfl rfl rfl (w_call rfl (permits_k hj2 hpc (hk0 _) hfk hpf (by omega) hs) rfl (fun _ w h => ?_)); obtain ⟨rfl, hs⟩ := h)
    refine ⟨fun _ => by first | exact hs | exact hs.subl | exact hs.cellAt rfl | trivial, ?_⟩
    first | refine c_gskip rfl (by first | exact hs | exact hs.subl | exact hs.cellAt rfl | trivial) (fun _ _ _ h => h) rfl rfl ?_ | refine c_gskip_u rfl (by first | exact hs | exact hs.subl | exact hs.cellAt rfl | trivial) (fun _ _ _ h => h) rfl rfl ?_ | refine c_gdo rfl (by first | exact hs | exact hs.subl | exact hs.cellAt rfl | trivial) (fun _ _ _ h => h) rfl rfl (fun w hs => by exact y_bool_neq rfl rfl (by rw [hne])) ?_
    first | refine c_gskip rfl (by first | exact hs | exact hs.subl | exact hs.cellAt rfl | trivial) (fun _ _ _ h => h) rfl rfl ?_ | refine c_gskip_u rfl (by first | exact hs | exact hs.subl | exact hs.cellAt rfl | trivial) (fun _ _ _ h => h) rfl rfl ?_ | refine c_gdo rfl (by first | exact hs | exact hs.subl | exact hs.cellAt rfl | trivial) (fun _ _ _ h => h) rfl rfl (fun w hs => by first | exact y_pk_bt rfl rfl | exact y_pk_bf rfl rfl) ?_
    refine c_q rfl (by first | exact hs | exact hs.subl | exact hs.cellAt rfl | trivial) (fun _ _ _ h => h) (fun w hs => by first | exact y_pk_bt rfl rfl | exact y_pk_bf rfl rfl) ?_
    refine c_q rfl (by first | exact hs | exact hs.subl | exact hs.cellAt rfl | trivial) (fun _ _ _ h => h) (fun w hs => by exact y_as_bool rfl) ?_
    refine c_end ?_
    refine e_then ?_
    refine s_ret ?_
    exact ret_ [.bool _] rfl ⟨rfl, trivial⟩ ⟨rfl, hs.nil⟩
end Go.Proofs.Ytfjniocobcoepaa
