/- Facts on the functions and types of this seat that its laws are proved from: contracts under the premises that each theorem names. -/
import Derived.Test.YtfjniocobcoepaaGo
set_option linter.unusedSimpArgs false
set_option linter.unusedVariables false
set_option linter.unnecessarySimpa false
namespace Go.Proofs.Ytfjniocobcoepaa
open Go Go.RowKit PB
set_option linter.unusedVariables false
set_option linter.unusedSimpArgs false

/-! ### contains -/
theorem contains_c {W0 w : World} {L : List (Nat × MObj)} {os : OS} {l : List Nat} (hok : os.ok (nV l) l.length 1) (x : Nat) (hl : l.length ≤ 1000000) (hin : ∀ g, os.a = some g → InL g (.cells (nV l ++ os.sp) 3) L) (hs : St W0 w L) :
    FnC Try.prog 21 [.slice os.ad l.length os.cap, I64 x] w (fun v w' => v = .bool (decide (x ∈ l)) ∧ St W0 w' L) := by
  refine FnC.enter Try.func21 rfl Try.ntmps21 rfl fun ρ => ?_
  refine s_seq ?_
  refine s_reg ?_
  refine l_q (by exact y_as_bool rfl) ?_
  refine l_end ?_
  refine e_then ?_
  refine s_seq ?_
  refine s_seq ?_
  refine s_reg ?_
  refine l_q (by exact y_mv_slice rfl) ?_
  refine l_q (by exact y_len_slice rfl) ?_
  refine l_q (by exact y_mv_int rfl) ?_
  refine l_end ?_
  refine e_then ?_
  refine s_block ?_
  refine loop_st (X := Nat) (fun i => [(1, I64 x), (7, .slice os.ad l.length os.cap), (8, I64 l.length), (9, I64 i)])
    (fun i w => St W0 w L ∧ i ≤ l.length ∧ (x ∈ l ↔ x ∈ l.drop i)) (fun i => l.length - i) 0 ⟨rfl, rfl, rfl, rfl, trivial⟩ ⟨hs, by omega, by simp⟩ ?_
  clear hs
  rintro i ρ w ⟨hs, h1, h2⟩
  by_cases c : i < l.length
  · obtain ⟨g, hg, had, hc⟩ := own_now hok c
    haveI := hin g hg
    have hd : l.drop i = l.getD i 0 :: l.drop (i + 1) := by rw [List.drop_eq_getElem_cons c]; simp [c]
    rw [hd, List.mem_cons] at h2
    by_cases e : x = l.getD i 0
    · rw [decide_eq_true (h2.2 (.inl e))]
      refine s_seq ?_
      refine s_reg ?_
      refine l_q (by first | exact y_lss rfl rfl (decide_eq_true (by omega)) | exact y_lss rfl rfl (decide_eq_false (by omega)) | exact y_lss rfl rfl rfl) ?_
      refine l_end ?_
      refine e_then ?_
      refine s_seq ?_
      refine cond_t rfl ?_
      refine s_skip ?_
      refine e_then ?_
      refine s_seq ?_
      refine s_block ?_
      refine s_seq ?_
      refine s_reg ?_
      refine l_q (by exact y_indexT (off := i) rfl rfl (by omega) (by omega) had (by omega)) ?_
      refine l_q (by exact y_ld (v := I64 ((l.getD i 0 : Nat) : Int)) hs rfl hc) ?_
      refine l_q (by exact y_as_int rfl) ?_
      refine l_end ?_
      refine e_then ?_
      refine s_seq ?_
      refine s_reg ?_
      refine l_q (by exact y_mv_int rfl) ?_
      refine l_q (by exact y_mv_int rfl) ?_
      refine l_q (by first | exact y_eql rfl rfl (decide_eq_true (by omega)) | exact y_eql rfl rfl (decide_eq_false (by omega)) | exact y_eql rfl rfl rfl) ?_
      refine l_end ?_
      refine e_then ?_
      refine cond_t rfl ?_
      refine s_seq ?_
      refine s_reg ?_
      refine l_q (by exact y_as_bool rfl) ?_
      refine l_end ?_
      refine e_then ?_
      refine s_ret ?_
      refine e_blk_r ?_
      refine e_then_r ?_
      refine e_then_r ?_
      refine e_blk_r ?_
      refine e_then_r ?_
      exact ret_ [.bool _] rfl ⟨rfl, trivial⟩ ⟨rfl, hs⟩
    · refine s_seq ?_
      refine s_reg ?_
      refine l_q (by first | exact y_lss rfl rfl (decide_eq_true (by omega)) | exact y_lss rfl rfl (decide_eq_false (by omega)) | exact y_lss rfl rfl rfl) ?_
      refine l_end ?_
      refine e_then ?_
      refine s_seq ?_
      refine cond_t rfl ?_
      refine s_skip ?_
      refine e_then ?_
      refine s_seq ?_
      refine s_block ?_
      refine s_seq ?_
      refine s_reg ?_
      refine l_q (by exact y_indexT (off := i) rfl rfl (by omega) (by omega) had (by omega)) ?_
      refine l_q (by exact y_ld (v := I64 ((l.getD i 0 : Nat) : Int)) hs rfl hc) ?_
      refine l_q (by exact y_as_int rfl) ?_
      refine l_end ?_
      refine e_then ?_
      refine s_seq ?_
      refine s_reg ?_
      refine l_q (by exact y_mv_int rfl) ?_
      refine l_q (by exact y_mv_int rfl) ?_
      refine l_q (by first | exact y_eql rfl rfl (decide_eq_true (by omega)) | exact y_eql rfl rfl (decide_eq_false (by omega)) | exact y_eql rfl rfl rfl) ?_
      refine l_end ?_
      refine e_then ?_
      refine cond_f rfl ?_
      refine s_skip ?_
      refine e_blk ?_
      refine e_then ?_
      refine s_reg ?_
      refine l_q (by first | exact y_addn rfl rfl (by omega) | exact y_add rfl rfl rfl) ?_
      refine l_q (by exact y_mv_int rfl) ?_
      refine l_end ?_
      refine e_then ?_
      exact ⟨i + 1, _, nx ⟨rfl, rfl, rfl, rfl, trivial⟩, ⟨hs, by omega, h2.trans ⟨fun q => q.resolve_left e, .inr⟩⟩, by omega⟩
  · rw [decide_eq_false (fun q => by rw [h2, List.drop_eq_nil_of_le (by omega)] at q; simp at q)]
    refine s_seq ?_
    refine s_reg ?_
    refine l_q (by first | exact y_lss rfl rfl (decide_eq_true (by omega)) | exact y_lss rfl rfl (decide_eq_false (by omega)) | exact y_lss rfl rfl rfl) ?_
    refine l_end ?_
    refine e_then ?_
    refine s_seq ?_
    refine cond_f rfl ?_
    refine s_exit ?_
    refine e_then_x ?_
    refine e_then_x ?_
    refine e_blk_x ?_
    refine e_then ?_
    refine s_seq ?_
    refine s_reg ?_
    refine l_q (by exact y_as_bool rfl) ?_
    refine l_end ?_
    refine e_then ?_
    refine s_ret ?_
    exact ret_ [.bool _] rfl ⟨rfl, trivial⟩ ⟨rfl, hs⟩

/-! ### Size -/
def seenB (n : Nat) (l : List Nat) : List Bool := (List.range n).map fun i => decide (i ∈ l)
theorem seenB_len (n : Nat) (l : List Nat) : (seenB n l).length = n := by simp [seenB]
theorem seenB_0 (n : Nat) : List.replicate n false = seenB n [] := by apply List.ext_getElem <;> simp [seenB]
theorem seenB_get {n i : Nat} {l : List Nat} (h : i < n) : ((seenB n l).map Value.bool)[i]? = some (.bool (decide (i ∈ l))) := by simp [seenB, h]
theorem seenB_set {n a : Nat} {l : List Nat} : (seenB n l).set a true = seenB n (a :: l) := by
  apply List.ext_getElem
  · simp [seenB]
  · intro i h1 h2
    simp only [seenB, List.getElem_set, List.getElem_map, List.getElem_range, List.mem_cons]
    by_cases c : a = i
    · subst c; simp
    · rw [if_neg c]
      have : ¬ i = a := fun e => c e.symm
      simp [this]
structure WB where
  b18 : Nat
  b6 : Nat
  b7 : Nat
  b8 : Nat
  b2 : Nat
abbrev WB.fn (B : WB) : Value := .func (.func 38) #[] #[.pointer (some ⟨B.b6, 0, none⟩), .pointer (some ⟨B.b7, 0, none⟩), .pointer (some ⟨B.b8, 0, none⟩), .pointer (some ⟨B.b2, 0, none⟩)]
abbrev wbL (B : WB) (M : MB) (n : Nat) (l : List Nat) (R : List (Nat × MObj)) : List (Nat × MObj) :=
  (B.b8, .cells [B.fn] 78) :: (B.b7, .cells [I64 l.length] 3) :: (B.b6, .cells [.slice (some ⟨B.b18, 0, none⟩) n n] 43) :: (B.b18, .cells ((seenB n l).map Value.bool) 4) :: (B.b2, .cells [M.p] 23) :: R

theorem flatN_get1 {l : List N3} {i : Nat} (h : i < l.length) (sp : List Value) : (flatN l ++ sp)[3 * i + 1]? = some (I64 (l.getD i (0, 0, 0)).2.1) := by
  have h1 := flatN_take h sp
  have h2 : (((flatN l ++ sp).drop (3 * i)).take 3)[1]? = some (I64 (l.getD i (0, 0, 0)).2.1) := by rw [h1]; rfl
  rw [List.getElem?_take] at h2
  simpa using h2
theorem flatN_get2 {l : List N3} {i : Nat} (h : i < l.length) (sp : List Value) : (flatN l ++ sp)[3 * i + 2]? = some (I64 (l.getD i (0, 0, 0)).2.2) := by
  have h1 := flatN_take h sp
  have h2 : (((flatN l ++ sp).drop (3 * i)).take 3)[2]? = some (I64 (l.getD i (0, 0, 0)).2.2) := by rw [h1]; rfl
  rw [List.getElem?_take] at h2
  simpa using h2
theorem size1_c {W0 : World} {M : MB} {s : DS} {os : OS} {B : WB} {R : List (Nat × MObj)} (h : Inv s) (hn : s.nodes.length ≤ 60000) (hok : os.ok (flatN s.nodes) s.nodes.length 3) :
    ∀ (f : Nat) (l : List Nat) (a : Nat) (w : World), l.Nodup → (∀ d ∈ l, d < s.nodes.length) → a < s.nodes.length → s.vars - (s.nd a).1 < f → St W0 w (stB M s os (wbL B M s.nodes.length l R)) →
      FnC Try.prog 38 [I64 a, .pointer (some ⟨B.b6, 0, none⟩), .pointer (some ⟨B.b7, 0, none⟩), .pointer (some ⟨B.b8, 0, none⟩), .pointer (some ⟨B.b2, 0, none⟩)] w (fun v w' => v = .tuple #[] ∧ St W0 w' (stB M s os (wbL B M s.nodes.length (dfsF s f l a) R))) := by
  intro f
  have W : Wf s := ⟨h.toWf0, hn⟩
  obtain ⟨g, hg, had⟩ := own_nd hok W
  haveI := inl_blk hg (flatN s.nodes) 39
  induction f with
  | zero => intro l a w _ _ _ hf; omega
  | succ f ih0 =>
    have ih : ∀ (l : List Nat) (a : Nat) (w : World), _ := ih0
    intro l a w hnd hlt ha hf hs
    have hll := nodup_len _ l hnd hlt
    simp only [dfsF]
    refine FnC.enter Try.func38 rfl Try.ntmps38 rfl fun ρ => ?_
    by_cases c1 : a < 2
    · rw [if_pos (.inl c1)]
      refine s_seq ?_
      refine s_seq ?_
      refine s_reg ?_
      refine l_q (by exact y_mv_int rfl) ?_
      refine l_q (by first | exact y_lss rfl rfl (decide_eq_true (by omega)) | exact y_lss rfl rfl (decide_eq_false (by omega)) | exact y_lss rfl rfl rfl) ?_
      refine l_q (by exact y_mv_bool rfl) ?_
      first | refine l_gskip rfl rfl ?_ | refine l_gskip_u rfl rfl ?_ | refine l_gdo rfl rfl (by exact y_ld hs rfl rfl) ?_
      first | refine l_gskip rfl rfl ?_ | refine l_gskip_u rfl rfl ?_ | refine l_gdo rfl rfl (by exact y_mv_int rfl) ?_
      first | refine l_gskip rfl rfl ?_ | refine l_gskip_u rfl rfl ?_ | refine l_gdo rfl rfl (by exact y_indexT (off := a) rfl rfl (by omega) (by omega) rfl (by omega)) ?_
      first | refine l_gskip rfl rfl ?_ | refine l_gskip_u rfl rfl ?_ | refine l_gdo rfl rfl (by exact y_ld (v := .bool _) hs rfl (by rw [seenB_get ha, hsa])) ?_
      refine l_q (by first | exact y_pk_bt rfl rfl | exact y_pk_bf rfl rfl) ?_
      refine l_end ?_
      refine e_then ?_
      refine cond_t rfl ?_
      refine s_ret ?_
      refine e_then_r ?_
      exact ret_ [] rfl trivial ⟨rfl, hs⟩
    obtain ⟨sa, hsa⟩ : ∃ b, decide (a ∈ l) = b := ⟨_, rfl⟩
    cases sa with
    | true =>
      rw [if_pos (.inr (of_decide_eq_true hsa))]
      refine s_seq ?_
      refine s_seq ?_
      refine s_reg ?_
      refine l_q (by exact y_mv_int rfl) ?_
      refine l_q (by first | exact y_lss rfl rfl (decide_eq_true (by omega)) | exact y_lss rfl rfl (decide_eq_false (by omega)) | exact y_lss rfl rfl rfl) ?_
      refine l_q (by exact y_mv_bool rfl) ?_
      first | refine l_gskip rfl rfl ?_ | refine l_gskip_u rfl rfl ?_ | refine l_gdo rfl rfl (by exact y_ld hs rfl rfl) ?_
      first | refine l_gskip rfl rfl ?_ | refine l_gskip_u rfl rfl ?_ | refine l_gdo rfl rfl (by exact y_mv_int rfl) ?_
      first | refine l_gskip rfl rfl ?_ | refine l_gskip_u rfl rfl ?_ | refine l_gdo rfl rfl (by exact y_indexT (off := a) rfl rfl (by omega) (by omega) rfl (by omega)) ?_
      first | refine l_gskip rfl rfl ?_ | refine l_gskip_u rfl rfl ?_ | refine l_gdo rfl rfl (by exact y_ld (v := .bool _) hs rfl (by rw [seenB_get ha, hsa])) ?_
      refine l_q (by first | exact y_pk_bt rfl rfl | exact y_pk_bf rfl rfl) ?_
      refine l_end ?_
      refine e_then ?_
      refine cond_t rfl ?_
      refine s_ret ?_
      refine e_then_r ?_
      exact ret_ [] rfl trivial ⟨rfl, hs⟩
    | false =>
      have hna := of_decide_eq_false hsa
      rw [if_neg (by rintro (q | q); exact c1 q; exact hna q)]
      have o := h.ord a (by omega) ha
      have hlo := h.lo a ha
      have hhi := h.hi a ha
      have hla : (a :: l).Nodup := List.nodup_cons.2 ⟨hna, hnd⟩
      have hla2 : ∀ d ∈ a :: l, d < s.nodes.length := fun d hd => (List.mem_cons.1 hd).elim (fun e => e ▸ ha) (hlt d)
      have P1 := dfs_p h.toOrd f (a :: l) _ hlo (by omega)
      have hlb := P1.nd hla
      have hlb2 := P1.lt hla2
      refine s_seq ?_
      refine s_seq ?_
      refine s_reg ?_
      refine l_q (by exact y_mv_int rfl) ?_
      refine l_q (by first | exact y_lss rfl rfl (decide_eq_true (by omega)) | exact y_lss rfl rfl (decide_eq_false (by omega)) | exact y_lss rfl rfl rfl) ?_
      refine l_q (by exact y_mv_bool rfl) ?_
      first | refine l_gskip rfl rfl ?_ | refine l_gskip_u rfl rfl ?_ | refine l_gdo rfl rfl (by exact y_ld hs rfl rfl) ?_
      first | refine l_gskip rfl rfl ?_ | refine l_gskip_u rfl rfl ?_ | refine l_gdo rfl rfl (by exact y_mv_int rfl) ?_
      first | refine l_gskip rfl rfl ?_ | refine l_gskip_u rfl rfl ?_ | refine l_gdo rfl rfl (by exact y_indexT (off := a) rfl rfl (by omega) (by omega) rfl (by omega)) ?_
      first | refine l_gskip rfl rfl ?_ | refine l_gskip_u rfl rfl ?_ | refine l_gdo rfl rfl (by exact y_ld (v := .bool _) hs rfl (by rw [seenB_get ha, hsa])) ?_
      refine l_q (by first | exact y_pk_bt rfl rfl | exact y_pk_bf rfl rfl) ?_
      refine l_end ?_
      refine e_then ?_
      refine cond_f rfl ?_
      refine s_skip ?_
      refine e_then ?_
      refine s_seq ?_
      refine s_reg ?_
      refine l_q (by exact y_ld hs rfl rfl) ?_
      refine l_q (by exact y_mv_int rfl) ?_
      refine l_q (by exact y_indexT (off := a) rfl rfl (by omega) (by omega) rfl (by omega)) ?_
      refine l_w (w_store (v := .bool true) (off := a) hs rfl rfl rfl (by rw [Nat.blt_eq, List.length_map, seenB_len]; omega) (fun w hs => ?_))
      rw [← List.map_set, seenB_set] at hs
      refine l_end ?_
      refine e_then ?_
      refine s_seq ?_
      refine s_reg ?_
      refine l_q (by exact y_ld hs rfl rfl) ?_
      refine l_q (by exact y_toInt (b := ((l.length + 1 : Nat) : Int)) (y_addn rfl rfl (by omega)) rfl) ?_
      refine l_w (w_store (v := I64 ((l.length + 1 : Nat) : Int)) hs rfl rfl rfl rfl (fun w hs => ?_))
      replace hs : St W0 w (stB M s os (wbL B M s.nodes.length (a :: l) R)) := hs
      refine l_end ?_
      refine e_then ?_
      refine s_seq ?_
      refine r_dr (.q 0 (.q 1 (.q 2 (.q 3 (.q 4 (.q 5 (.q 6 (.q 7 (.q 8 (.w 9 (.nil))))))))))) 9 hs mixed (by kernel_rfl) (fun hs => ?_)
      refine c_q rfl (by first | exact hs | exact hs.subl | exact hs.cellAt rfl | trivial) (fun _ _ _ h => h) (fun w hs => by exact y_ld hs rfl rfl) ?_
      refine c_q rfl (by first | exact hs | exact hs.subl | exact hs.cellAt rfl | trivial) (fun _ _ _ h => h) (fun w hs => by exact y_ld hs rfl rfl) ?_
      refine c_q rfl (by first | exact hs | exact hs.subl | exact hs.cellAt rfl | trivial) (fun _ _ _ h => h) (fun w hs => by first | exact y_nil rfl | exact y_nilf rfl) ?_
      refine c_q rfl (by first | exact hs | exact hs.subl | exact hs.cellAt rfl | trivial) (fun _ _ _ h => h) (fun w hs => by exact y_field rfl) ?_
      refine c_q rfl (by first | exact hs | exact hs.subl | exact hs.cellAt rfl | trivial) (fun _ _ _ h => h) (fun w hs => by exact y_ld hs rfl rfl) ?_
      refine c_q rfl (by first | exact hs | exact hs.subl | exact hs.cellAt rfl | trivial) (fun _ _ _ h => h) (fun w hs => by exact y_mv_int rfl) ?_
      refine c_q rfl (by first | exact hs | exact hs.subl | exact hs.cellAt rfl | trivial) (fun _ _ _ h => h) (fun w hs => by exact y_indexT (off := 3 * a) rfl rfl (by omega) (by omega) had (by omega)) ?_
      refine c_q rfl (by first | exact hs | exact hs.subl | exact hs.cellAt rfl | trivial) (fun _ _ _ h => h) (fun w hs => by exact y_field rfl) ?_
      refine c_q rfl (by first | exact hs | exact hs.subl | exact hs.cellAt rfl | trivial) (fun _ _ _ h => h) (fun w hs => by exact y_ld (v := I64 (s.nd a).2.1) hs rfl (flatN_get1 ha _)) ?_
      refine c_w rfl (w_call rfl (ih _ _ _ hla hla2 hlo (by omega) hs) rfl (fun _ w h => ?_))
      obtain ⟨rfl, hs⟩ := h
      refine ⟨fun h => absurd rfl h, ?_⟩
      refine c_end ?_
      refine e_then ?_
      refine r_dr (.q 0 (.q 1 (.q 2 (.q 3 (.q 4 (.q 5 (.q 6 (.q 7 (.q 8 (.w 9 (.nil))))))))))) 9 hs mixed (by kernel_rfl) (fun hs => ?_)
      refine c_q rfl (by first | exact hs | exact hs.subl | exact hs.cellAt rfl | trivial) (fun _ _ _ h => h) (fun w hs => by exact y_ld hs rfl rfl) ?_
      refine c_q rfl (by first | exact hs | exact hs.subl | exact hs.cellAt rfl | trivial) (fun _ _ _ h => h) (fun w hs => by exact y_ld hs rfl rfl) ?_
      refine c_q rfl (by first | exact hs | exact hs.subl | exact hs.cellAt rfl | trivial) (fun _ _ _ h => h) (fun w hs => by first | exact y_nil rfl | exact y_nilf rfl) ?_
      refine c_q rfl (by first | exact hs | exact hs.subl | exact hs.cellAt rfl | trivial) (fun _ _ _ h => h) (fun w hs => by exact y_field rfl) ?_
      refine c_q rfl (by first | exact hs | exact hs.subl | exact hs.cellAt rfl | trivial) (fun _ _ _ h => h) (fun w hs => by exact y_ld hs rfl rfl) ?_
      refine c_q rfl (by first | exact hs | exact hs.subl | exact hs.cellAt rfl | trivial) (fun _ _ _ h => h) (fun w hs => by exact y_mv_int rfl) ?_
      refine c_q rfl (by first | exact hs | exact hs.subl | exact hs.cellAt rfl | trivial) (fun _ _ _ h => h) (fun w hs => by exact y_indexT (off := 3 * a) rfl rfl (by omega) (by omega) had (by omega)) ?_
      refine c_q rfl (by first | exact hs | exact hs.subl | exact hs.cellAt rfl | trivial) (fun _ _ _ h => h) (fun w hs => by exact y_field rfl) ?_
      refine c_q rfl (by first | exact hs | exact hs.subl | exact hs.cellAt rfl | trivial) (fun _ _ _ h => h) (fun w hs => by exact y_ld (v := I64 (s.nd a).2.2) hs rfl (flatN_get2 ha _)) ?_
      refine c_w rfl (w_call rfl (ih _ _ _ hlb hlb2 hhi (by omega) hs) rfl (fun _ w h => ?_))
      obtain ⟨rfl, hs⟩ := h
      refine ⟨fun h => absurd rfl h, ?_⟩
      refine c_end ?_
      exact end_ [] rfl trivial ⟨rfl, hs⟩
end Go.Proofs.Ytfjniocobcoepaa
