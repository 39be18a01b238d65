/- Facts on the functions and types of this seat that its laws are proved from: contracts under the premises that each theorem names. -/
import Derived.Test.YtohomijijipfdaaFtm
set_option linter.unusedSimpArgs false
set_option linter.unusedVariables false
set_option linter.unnecessarySimpa false
namespace Go.Proofs.Ytohomijijipfdaa
open Go Go.RowKit PB
set_option linter.unusedVariables false

section
variable {W0 w : World} {R R' : List (Nat × MObj)}
instance InL.L {x : QI} {b : Nat} {o : MObj} [h : InL b o R] : InL b o (x.L R) := by
  unfold QI.L
  exact ⟨List.mem_cons_of_mem _ (List.mem_append_right _ (List.mem_append_right _ h.mem))⟩
instance Upd.L {x : QI} {b : Nat} {o : MObj} [h : Upd b o R R'] : Upd b o (x.L R) (x.L R') := by
  unfold QI.L
  infer_instance
theorem L_cons {x : QI} {p : Nat × MObj} (h : St W0 w (p :: x.L R)) : St W0 w (x.L (p :: R)) := by
  refine h.perm ?_
  unfold QI.L
  refine (List.Perm.swap _ _ _).trans (List.Perm.cons _ ?_)
  refine List.perm_middle.symm.trans (List.Perm.append_left _ ?_)
  exact List.perm_middle.symm
theorem L_drop {x : QI} (h : St W0 w (x.L R)) : St W0 w R := by
  unfold QI.L at h
  exact h.sub (((List.sublist_append_right _ _).trans (List.sublist_append_right _ _)).cons _)
end


theorem waiting_c {W0 w : World} {R : List (Nat × MObj)} {x : QI} {b : Nat} (hb : x.qb = b) (hok : x.ok) {i : Nat} {q : Q3} (hq : x.abs.qs[i]? = some q) (hs : St W0 w (x.L R)) :
    FnC Try.prog 19 [.pointer (some ⟨b, 0, none⟩), I64 i] w (fun v w' => v = .tuple #[I64 q.ws.length, I64 0] ∧ St W0 w' (x.L R)) := by
  subst hb
  have hi : i < x.qs.length := by
    rcases Nat.lt_or_ge i x.qs.length with h | h
    · exact h
    · rw [List.getElem?_eq_none (by simpa [QI.abs] using h)] at hq; cases hq
  have hn := hok.n
  obtain ⟨pre, qe, suf, hx, rfl⟩ := split_at hi
  have hqe : q = qe.abs := by
    simp [QI.abs, hx] at hq
    exact hq.symm
  subst hqe
  obtain ⟨g, hga, had⟩ := all_some hok
  haveI : ∀ xs, InL g (.cells (xs ++ x.all.sp) 46) (x.all.blk xs 46) := fun xs => inl_blk hga xs 46
  have hs0 := hs
  have hxL : x.L R = (x.qb, .cells [.slice x.all.ad x.qs.length x.all.cap, I64 x.quantum, I64 x.at_, .bool x.paid] 44) :: (x.all.blk (flat x.qs) 46 ++ (waitsL x.qs ++ R)) := rfl
  rw [hxL] at hs
  rw [show flat x.qs = flat (pre ++ qe :: suf) by rw [hx]] at hs
  refine FnC.enter Try.func19 rfl Try.ntmps19 rfl fun ρ => ?_
  refine s_seq ?_
  refine s_reg ?_
  refine l_q (by exact y_as_int rfl) ?_
  refine l_q (by exact y_as_int rfl) ?_
  refine l_end ?_
  refine e_then ?_
  refine s_seq ?_
  refine s_seq ?_
  refine s_reg ?_
  refine l_q (by exact y_mv_int rfl) ?_
  refine l_q (by first | exact y_lss rfl rfl (decide_eq_true (by omega)) | exact y_lss rfl rfl (decide_eq_false (by omega)) | exact y_lss rfl rfl rfl) ?_
  refine l_q (by exact y_mv_bool rfl) ?_
  first | refine l_gskip rfl rfl ?_ | refine l_gskip_u rfl rfl ?_ | refine l_gdo rfl rfl (by exact y_mv_int rfl) ?_
  first | refine l_gskip rfl rfl ?_ | refine l_gskip_u rfl rfl ?_ | refine l_gdo rfl rfl (by exact y_mv_ptr rfl) ?_
  first | refine l_gskip rfl rfl ?_ | refine l_gskip_u rfl rfl ?_ | refine l_gdo rfl rfl (by first | exact y_nil rfl | exact y_nilf rfl) ?_
  first | refine l_gskip rfl rfl ?_ | refine l_gskip_u rfl rfl ?_ | refine l_gdo rfl rfl (by exact y_field rfl) ?_
  first | refine l_gskip rfl rfl ?_ | refine l_gskip_u rfl rfl ?_ | refine l_gdo rfl rfl (by exact y_ld hs rfl rfl) ?_
  first | refine l_gskip rfl rfl ?_ | refine l_gskip_u rfl rfl ?_ | refine l_gdo rfl rfl (by exact y_len_slice rfl) ?_
  first | refine l_gskip rfl rfl ?_ | refine l_gskip_u rfl rfl ?_ | refine l_gdo rfl rfl (by first | exact y_geq rfl rfl (decide_eq_true (by omega)) | exact y_geq rfl rfl (decide_eq_false (by omega)) | exact y_geq rfl rfl rfl) ?_
  refine l_q (by first | exact y_pk_bt rfl rfl | exact y_pk_bf rfl rfl) ?_
  refine l_end ?_
  refine e_then ?_
  refine cond_f rfl ?_
  refine s_skip ?_
  refine e_then ?_
  refine s_seq ?_
  refine s_reg ?_
  refine l_q (by exact y_mv_ptr rfl) ?_
  refine l_q (by first | exact y_nil rfl | exact y_nilf rfl) ?_
  refine l_q (by exact y_field rfl) ?_
  refine l_q (by exact y_ld hs rfl rfl) ?_
  refine l_q (by exact y_mv_int rfl) ?_
  refine l_q (by exact y_indexT (off := 3 * pre.length) rfl rfl (by omega) (by omega) had (by omega)) ?_
  refine l_q (by exact y_field rfl) ?_
  refine l_q (by exact y_ld hs rfl (flat_get _ _ _ _ 2 (by omega))) ?_
  refine l_q (by exact y_len_slice rfl) ?_
  refine l_q (by exact y_as_int rfl) ?_
  refine l_q (by exact y_as_int rfl) ?_
  refine l_end ?_
  refine e_then ?_
  refine s_ret ?_
  exact ret_ [.int .i64 _, .int .i64 _] rfl ⟨rfl, rfl, trivial⟩ ⟨rfl, hs0⟩

/-! ### Filling -/
structure FillA (a : Ab) (ws : List Int) (Q : Int) (k i : Nat) : Prop where
  wf : a.wf
  ws_ : wsOf a = ws
  Q_ : a.Q = Q
  at_ : a.at_ = 0
  paid : a.paid = false
  qs : ∀ (j : Nat) (q : Q3), a.qs[j]? = some q → q.d = 0 ∧ (∀ s ∈ q.ws, s.size ≤ 100) ∧ q.ws.length = (if j < k then 50 else if j = k then i else 0)

theorem fill_new {ws : List Int} {Q : Int} (h : (Ab.new ws Q).wf) : FillA (Ab.new ws Q) ws Q 0 0 := by
  refine ⟨h, by simp [wsOf, Ab.new, Function.comp_def], rfl, rfl, rfl, fun j q hq => ?_⟩
  have hq := List.mem_of_getElem? hq
  simp only [Ab.new, List.mem_map] at hq
  obtain ⟨_, _, rfl⟩ := hq
  exact ⟨rfl, by simp, by simp⟩

theorem fill_put {a : Ab} {ws : List Int} {Q : Int} {k i : Nat} (h : FillA a ws Q k i) (hi : i < 50) {q : Q3} (hq : a.qs[k]? = some q) {s : ByteArray} (hs : s.size ≤ 100) : FillA (a.put k q s) ws Q k (i + 1) := by
  have hl := (h.qs _ _ hq).2.2
  rw [if_neg (Nat.lt_irrefl _), if_pos rfl] at hl
  refine ⟨wf_put h.wf hq (by omega) (by omega), by rw [wsOf_put hq]; exact h.ws_, h.Q_, h.at_, h.paid, fun j q' hj => ?_⟩
  have hk : k < a.qs.length := (List.getElem?_eq_some_iff.1 hq).1
  simp only [Ab.put, List.getElem?_set] at hj
  by_cases c : k = j
  · subst c
    simp [hk] at hj
    subst hj
    have := h.qs _ _ hq
    refine ⟨this.1, ?_, by rw [if_neg (Nat.lt_irrefl _), if_pos rfl]; simp; omega⟩
    intro s' h'
    simp only [List.mem_append, List.mem_singleton] at h'
    rcases h' with h' | rfl
    · exact this.2.1 s' h'
    · exact hs
  · rw [if_neg c] at hj
    have := h.qs _ _ hj
    refine ⟨this.1, this.2.1, ?_⟩
    rw [this.2.2, if_neg (show ¬ j = k from fun e => c e.symm), if_neg (show ¬ j = k from fun e => c e.symm)]

theorem fill_next {a : Ab} {ws : List Int} {Q : Int} {k : Nat} (h : FillA a ws Q k 50) : FillA a ws Q (k + 1) 0 := by
  refine ⟨h.wf, h.ws_, h.Q_, h.at_, h.paid, fun j q hj => ?_⟩
  have := h.qs _ _ hj
  refine ⟨this.1, this.2.1, ?_⟩
  rw [this.2.2]
  split <;> split <;> (try split) <;> (try split) <;> omega

theorem fill_sh {a : Ab} {ws : List Int} {Q : Int} (h : FillA a ws Q ws.length 0) : Sh a 0 (List.replicate ws.length 0) := by
  have hlen : a.qs.length = ws.length := by rw [← h.ws_]; simp [wsOf]
  refine ⟨by simp [hlen], fun j q x hj hx => ?_⟩
  have hjl : j < a.qs.length := (List.getElem?_eq_some_iff.1 hj).1
  have hx0 : x = 0 := by
    have := List.mem_of_getElem? hx
    exact List.eq_of_mem_replicate this
  subst hx0
  obtain ⟨h1, h2, h3⟩ := h.qs _ _ hj
  rw [if_pos (by omega)] at h3
  have hv : vis a j = 0 := by simp [vis, h.at_, h.paid]
  refine ⟨by rw [hv, h1]; simp, by omega, by rw [h1]; simp [cur, h.paid], h2, by omega, by omega, by intro e; rw [e] at h3; simp at h3⟩

def tot (a : Ab) : Nat := ((wss a).map List.length).sum
theorem tot_take {k : Nat} {a : Ab} {i : Nat} {s : ByteArray} {a' : Ab} (h : takeF k a = some (i, s, a')) : tot a' + 1 = tot a := by
  obtain ⟨r, h1, h2⟩ := takeF_ws k h
  unfold tot
  rw [h2, List.map_set]
  have := sum_set ((wss a).map List.length) i r.length (r.length + 1) (by simp [h1])
  omega
theorem sh_ne {a : Ab} {V : Int} {sv : List Int} (h : Sh a V sv) (hwf : a.wf) : ∃ q ∈ a.qs, q.ws ≠ [] := by
  have hlt := hwf.at_
  have hq : a.qs[a.at_]? = some a.qs[a.at_] := List.getElem?_eq_getElem hlt
  obtain ⟨x, hx⟩ := some_of_len h.len hq
  exact ⟨_, List.mem_of_getElem? hq, (h.at_ _ _ _ hq hx).ne⟩
end Go.Proofs.Ytohomijijipfdaa
