/- Facts on the functions and types of this seat that its laws are proved from: contracts under the premises that each theorem names. -/
import Derived.Test.YtagdgalnaobpeaaTf
import Derived.Test.YtagdgalnaobpeaaEni
set_option linter.unusedSimpArgs false
set_option linter.unusedVariables false
set_option linter.unnecessarySimpa false
namespace Go.Proofs.Ytagdgalnaobpeaa
open Go Go.RowKit PB
set_option linter.unusedVariables false
set_option linter.unusedSimpArgs false

theorem rest_c (n : Int) (m : Nat) (h1 : 1 ≤ m) (h2 : m ≤ 1000) (w : World) : FnC Try.prog 10 [I64 n, I64 m] w (fun v w' => (∃ r : Nat, v = I64 r ∧ r < m) ∧ w' = w) := by
  have hr1 : n.tmod m < m := Int.tmod_lt_of_pos _ (by omega)
  have hr2 : -(m : Int) < n.tmod m := by
    have := Int.lt_tmod_of_pos n (b := (m : Int)) (by omega)
    omega
  refine FnC.enter Try.func10 rfl Try.ntmps10 rfl fun ρ => ?_
  by_cases c : n.tmod m < 0
  · refine s_seq ?_
    refine s_reg ?_
    refine l_q (by exact y_as_int rfl) ?_
    refine l_end ?_
    refine e_then ?_
    refine s_seq ?_
    refine s_reg ?_
    refine l_q (by exact y_mv_int rfl) ?_
    refine l_q (by exact y_mv_int rfl) ?_
    refine l_q (by first | exact y_remn rfl rfl (by omega) | exact y_rem rfl rfl (by first | decide | omega) rfl) ?_
    refine l_q (by exact y_as_int rfl) ?_
    refine l_end ?_
    refine e_then ?_
    refine s_seq ?_
    refine s_seq ?_
    refine s_reg ?_
    refine l_q (by exact y_mv_int rfl) ?_
    refine l_q (by first | exact y_lss rfl rfl (decide_eq_true (by omega)) | exact y_lss rfl rfl (decide_eq_false (by omega)) | exact y_lss rfl rfl rfl) ?_
    refine l_end ?_
    refine e_then ?_
    refine cond_t rfl ?_
    refine s_seq ?_
    refine s_reg ?_
    refine l_q (by exact y_mv_int rfl) ?_
    refine l_q (by exact y_mv_int rfl) ?_
    refine l_q (by first | exact y_addn rfl rfl (by omega) | exact y_add rfl rfl rfl) ?_
    refine l_q (by exact y_as_int rfl) ?_
    refine l_end ?_
    refine e_then ?_
    refine s_ret ?_
    refine e_then_r ?_
    exact ret_ [.int .i64 _] rfl ⟨rfl, trivial⟩ ⟨⟨(n.tmod m + m).toNat, by
      show Value.int _ _ = Value.int _ _
      congr 1
      omega, by omega⟩, rfl⟩
  · refine s_seq ?_
    refine s_reg ?_
    refine l_q (by exact y_as_int rfl) ?_
    refine l_end ?_
    refine e_then ?_
    refine s_seq ?_
    refine s_reg ?_
    refine l_q (by exact y_mv_int rfl) ?_
    refine l_q (by exact y_mv_int rfl) ?_
    refine l_q (by first | exact y_remn rfl rfl (by omega) | exact y_rem rfl rfl (by first | decide | omega) rfl) ?_
    refine l_q (by exact y_as_int rfl) ?_
    refine l_end ?_
    refine e_then ?_
    refine s_seq ?_
    refine s_seq ?_
    refine s_reg ?_
    refine l_q (by exact y_mv_int rfl) ?_
    refine l_q (by first | exact y_lss rfl rfl (decide_eq_true (by omega)) | exact y_lss rfl rfl (decide_eq_false (by omega)) | exact y_lss rfl rfl rfl) ?_
    refine l_end ?_
    refine e_then ?_
    refine cond_f rfl ?_
    refine s_skip ?_
    refine e_then ?_
    refine s_seq ?_
    refine s_reg ?_
    refine l_q (by exact y_mv_int rfl) ?_
    refine l_q (by exact y_as_int rfl) ?_
    refine l_end ?_
    refine e_then ?_
    refine s_ret ?_
    exact ret_ [.int .i64 _] rfl ⟨rfl, trivial⟩ ⟨⟨(n.tmod m).toNat, by
      show Value.int _ _ = Value.int _ _
      congr 1
      omega, by omega⟩, rfl⟩

theorem inside_c {W0 w : World} {L : List (Nat × MObj)} (n : Int) (hs : St W0 w L) : FnC Try.prog 13 [I64 n] w (fun v w' => (∃ a p : Nat, v = endV a p ∧ 100 ≤ a ∧ a ≤ 103 ∧ 1 ≤ p ∧ p ≤ 5) ∧ St W0 w' L) := by
  refine FnC.enter Try.func13 rfl Try.ntmps13 rfl fun ρ => ?_
  refine s_seq ?_
  refine s_reg ?_
  refine l_w (w_alloc (cs := [_, _]) hs rfl (fun b2 w hs hb2 => ?_))
  refine l_end ?_
  refine e_then ?_
  refine s_seq ?_
  refine s_reg ?_
  refine l_q (by exact y_mv_int rfl) ?_
  refine l_w (w_call rfl (rest_c n 4 (by decide) (by decide) w) rfl (fun _ w h => ?_))
  obtain ⟨⟨r, rfl, hr⟩, rfl⟩ := h
  refine l_q (by exact y_toInt (b := ((100 + r : Nat) : Int)) (y_addn rfl rfl (by omega)) (by omega)) ?_
  refine l_q (by exact y_toInt (b := ((100 + r : Nat) : Int)) (y_conv_int rfl rfl) (by rw [IntKind.wrap_u32]; omega)) ?_
  refine l_q (by exact y_mv_int rfl) ?_
  refine l_q (by exact y_quo rfl rfl (by decide) rfl) ?_
  refine l_w (w_call rfl (rest_c _ 5 (by decide) (by decide) _) rfl (fun _ w h => ?_))
  obtain ⟨⟨q, rfl, hq⟩, rfl⟩ := h
  refine l_q (by exact y_toInt (b := ((1 + q : Nat) : Int)) (y_addn rfl rfl (by omega)) (by omega)) ?_
  refine l_q (by exact y_build (pv := [(0, .int .u32 _), (1, .int .i64 _)]) (vs := [_, _]) rfl rfl) ?_
  refine l_w (w_storeA (vs := [_, _]) hs rfl rfl rfl rfl rfl (fun w hs => ?_))
  refine l_end ?_
  refine e_then ?_
  refine s_ret ?_
  exact ret_ [.agg (List.toArray [_, _])] rfl ⟨⟨_, rfl, run_ldA hs rfl rfl⟩, trivial⟩ ⟨⟨100 + r, 1 + q, rfl, by omega, by omega, by omega, by omega⟩, hs.tail⟩
theorem outer_c {W0 w : World} {L : List (Nat × MObj)} (n : Int) (hs : St W0 w L) : FnC Try.prog 14 [I64 n] w (fun v w' => (∃ a p : Nat, v = endV a p ∧ 900 ≤ a ∧ a ≤ 902 ∧ 50 ≤ p ∧ p ≤ 53) ∧ St W0 w' L) := by
  refine FnC.enter Try.func14 rfl Try.ntmps14 rfl fun ρ => ?_
  refine s_seq ?_
  refine s_reg ?_
  refine l_w (w_alloc (cs := [_, _]) hs rfl (fun b2 w hs hb2 => ?_))
  refine l_end ?_
  refine e_then ?_
  refine s_seq ?_
  refine s_reg ?_
  refine l_q (by exact y_mv_int rfl) ?_
  refine l_w (w_call rfl (rest_c n 3 (by decide) (by decide) w) rfl (fun _ w h => ?_))
  obtain ⟨⟨r, rfl, hr⟩, rfl⟩ := h
  refine l_q (by exact y_toInt (b := ((900 + r : Nat) : Int)) (y_addn rfl rfl (by omega)) (by omega)) ?_
  refine l_q (by exact y_toInt (b := ((900 + r : Nat) : Int)) (y_conv_int rfl rfl) (by rw [IntKind.wrap_u32]; omega)) ?_
  refine l_q (by exact y_mv_int rfl) ?_
  refine l_q (by exact y_quo rfl rfl (by decide) rfl) ?_
  refine l_w (w_call rfl (rest_c _ 4 (by decide) (by decide) _) rfl (fun _ w h => ?_))
  obtain ⟨⟨q, rfl, hq⟩, rfl⟩ := h
  refine l_q (by exact y_toInt (b := ((50 + q : Nat) : Int)) (y_addn rfl rfl (by omega)) (by omega)) ?_
  refine l_q (by exact y_build (pv := [(0, .int .u32 _), (1, .int .i64 _)]) (vs := [_, _]) rfl rfl) ?_
  refine l_w (w_storeA (vs := [_, _]) hs rfl rfl rfl rfl rfl (fun w hs => ?_))
  refine l_end ?_
  refine e_then ?_
  refine s_ret ?_
  exact ret_ [.agg (List.toArray [_, _])] rfl ⟨⟨_, rfl, run_ldA hs rfl rfl⟩, trivial⟩ ⟨⟨900 + r, 50 + q, rfl, by omega, by omega, by omega, by omega⟩, hs.tail⟩

/-- The one rule of outward(). -/
def ruleO : RuleV := ⟨true, 96, 28, 0, 0, 0, 0, 65535, 0, 65535⟩
theorem outward_c {W0 w : World} {L : List (Nat × MObj)} (hs : St W0 w L) : FnC Try.prog 16 [] w (fun v w' => ∃ b, v = .slice (some ⟨b, 0, none⟩) 1 1 ∧ St W0 w' ((b, .cells (flatR [ruleO]) 30) :: L)) := by
  refine FnC.enter Try.func16 rfl Try.ntmps16 rfl fun ρ => ?_
  refine s_seq ?_
  refine s_reg ?_
  refine l_q (by exact y_as_slice rfl) ?_
  refine l_end ?_
  refine e_then ?_
  refine s_seq ?_
  refine s_reg ?_
  refine l_q (by exact y_build (pv := [(0, .int .u32 _), (1, .int .i64 _)]) (vs := [_, _]) rfl rfl) ?_
  refine l_q (by exact y_build (pv := [(0, .bool _), (1, .agg (List.toArray [_, _])), (5, .int .i64 _), (7, .int .i64 _)]) (vs := [_, _, _, _, _, _, _, _, _, _]) rfl rfl) ?_
  refine l_w (w_buildSliceV (pv := [.agg (List.toArray [_, _, _, _, _, _, _, _, _, _])]) (cs := [_, _, _, _, _, _, _, _, _, _]) hs rfl rfl rfl rfl rfl rfl (fun b3 w hs hb3 => ?_))
  refine l_q (by exact y_as_slice rfl) ?_
  refine l_end ?_
  refine e_then ?_
  refine s_ret ?_
  exact ret_ [.slice _ _ _] rfl ⟨rfl, trivial⟩ ⟨b3, rfl, hs⟩

/-! ### New -/
theorem okE {b : Nat} : (⟨some b, 0, []⟩ : OS).ok (flatR []) ([] : List RuleV).length 10 := ⟨rfl, rfl, Nat.le_refl _, fun h => by cases h⟩
theorem St.nilblk {W0 w : World} {R : List (Nat × MObj)} {b : Nat} {e : TypeId} (hs : St W0 w ((b, .cells [] e) :: R)) : St W0 w ([] ++ ((⟨some b, 0, []⟩ : OS).blk [] e ++ R)) := hs
theorem clone_c {W0 w : World} {L : List (Nat × MObj)} {b c : Nat} (l : List RuleV) (hl : l.length ≤ 16) (hs : St W0 w ((b, .cells (flatR l) 30) :: L)) :
    FnC Try.prog 19 [.slice (some ⟨b, 0, none⟩) l.length c] w (fun v w' => ∃ g c sp, v = .slice (some ⟨g, 0, none⟩) l.length c ∧ St W0 w' ((g, .cells (flatR l ++ sp) 30) :: L)) := by
  refine FnC.enter Try.func19 rfl Try.ntmps19 rfl fun ρ => ?_
  refine s_seq ?_
  refine s_reg ?_
  refine l_q (by exact y_as_slice rfl) ?_
  refine l_end ?_
  refine e_then ?_
  refine s_seq ?_
  refine s_seq ?_
  refine s_reg ?_
  refine l_q (by exact y_mv_slice rfl) ?_
  refine l_q (by exact y_eqnil_slice rfl rfl) ?_
  refine l_end ?_
  refine e_then ?_
  refine cond_f rfl ?_
  refine s_skip ?_
  refine e_then ?_
  refine s_seq ?_
  refine s_reg ?_
  refine l_w (w_slice0 hs (fun b5 w hs hb5 => ?_))
  refine l_q (by exact y_mv_slice rfl) ?_
  refine l_w (w_appendG (s := ⟨some b5, 0, []⟩) (ys := flatR l) (xs := []) (sz := 10) (bs := 80) (len := 0) [] (St.nilblk hs) okE rfl rfl rfl (fun w1 h1 => rdR_first (rdR_mem (b := b) (sp := []) (e := 30) (by simp)) h1 c) (flatR_len l) (flatR_one l) (.inr (by simp)) (by decide) (by omega) (fun s1 w ok1 hg1 hs => ?_))
  obtain ⟨g1, hg1⟩ := hg1; simp only [OS.blk, OS.ad, hg1, List.nil_append, List.singleton_append, Nat.zero_add, Option.map_some] at hs ⊢
  refine l_q (by exact y_as_slice rfl) ?_
  refine l_end ?_
  refine e_then ?_
  refine s_ret ?_
  exact ret_ [.slice _ _ _] rfl ⟨rfl, trivial⟩ ⟨g1, s1.cap, s1.sp, rfl, hs.subl⟩
end Go.Proofs.Ytagdgalnaobpeaa
