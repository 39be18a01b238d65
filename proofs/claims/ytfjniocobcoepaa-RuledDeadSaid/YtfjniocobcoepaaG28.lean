/- Facts on the functions and types of this seat that its laws are proved from: contracts under the premises that each theorem names. -/
import Derived.Test.YtfjniocobcoepaaG27
set_option linter.unusedSimpArgs false
set_option linter.unusedVariables false
set_option linter.unnecessarySimpa false
namespace Go.Proofs.Ytfjniocobcoepaa
open Go Go.RowKit PB
set_option linter.unusedVariables false
set_option linter.unusedSimpArgs false

/-! ### both -/
def bothF (s : DS) : List Nat → DS × Nat
  | [] => (s, 1)
  | x :: xs => ifF (bothF s xs).1 x (bothF s xs).2 0
structure BothS (s : DS) (q : DS × Nat) : Prop where
  inv : Inv q.1
  ext : Ext s q.1
  lt : q.2 < q.1.nodes.length
theorem both_spec {s : DS} (h : Inv s) : ∀ (xs : List Nat), (∀ a ∈ xs, a < s.nodes.length) → BothS s (bothF s xs)
  | [], _ => ⟨h, Ext.refl s, by have := h.n2; show 1 < s.nodes.length; omega⟩
  | x :: xs, ha => by
    have ih := both_spec h xs fun a hm => ha a (List.mem_cons_of_mem _ hm)
    have hx := ha x (List.mem_cons_self ..)
    have hl := ih.ext.len
    have h2 := ih.inv.n2
    have S := if_spec ih.inv (a := x) (b := (bothF s xs).2) (c := 0) (by omega) ih.lt (by omega)
    exact ⟨S.inv, ih.ext.trans S.ext, S.lt⟩
theorem both_drop {s : DS} (h : Inv s) : ∀ (xs : List Nat) (k : Nat), (∀ a ∈ xs, a < s.nodes.length) → Ext (bothF s (xs.drop k)).1 (bothF s xs).1
  | [], k, _ => by rw [List.drop_nil]; exact Ext.refl _
  | x :: xs, 0, _ => Ext.refl _
  | x :: xs, k + 1, ha => by
    have ha' : ∀ a ∈ xs, a < s.nodes.length := fun a hm => ha a (List.mem_cons_of_mem _ hm)
    have ih := both_drop h xs k ha'
    have b := both_spec h xs ha'
    have hx := ha x (List.mem_cons_self ..)
    have hl := b.ext.len
    have h2 := b.inv.n2
    have S := if_spec b.inv (a := x) (b := (bothF s xs).2) (c := 0) (by omega) b.lt (by omega)
    exact ih.trans S.ext
theorem both_c {W0 w : World} {M : MB} {mb bb : Nat} {s : DS} {R : List (Nat × MObj)} (xs : List Nat) [im : InL mb (mkO M) R] [ib : InL bb (.cells (xs.map fun (n : Nat) => I64 n) 3) R] (I : Inv s) (ha : ∀ a ∈ xs, a < s.nodes.length)
    (hl : xs.length ≤ 10) (hn : (bothF s xs).1.nodes.length ≤ 60000) (hd : Dg W0 w M s R) :
    FnC Try.prog 54 [mkP mb, .slice (some ⟨bb, 0, none⟩) xs.length xs.length] w (fun v w' => v = I64 ((bothF s xs).2 : Nat) ∧ Dg W0 w' M (bothF s xs).1 R) := by
  refine FnC.enter Try.func54 rfl Try.ntmps54 rfl fun ρ => ?_
  refine s_seq ?_
  refine s_reg ?_
  refine l_q (by exact y_as_int rfl) ?_
  refine l_end ?_
  refine e_then ?_
  refine s_seq ?_
  refine s_reg ?_
  refine l_q (by exact y_as_int rfl) ?_
  refine l_end ?_
  refine e_then ?_
  refine s_seq ?_
  refine s_seq ?_
  refine s_reg ?_
  refine l_q (by exact y_mv_slice rfl) ?_
  refine l_q (by exact y_len_slice rfl) ?_
  refine l_q (by first | exact y_subn rfl rfl (by omega) | exact y_sub rfl rfl rfl) ?_
  refine l_q (by exact y_as_int rfl) ?_
  refine l_end ?_
  refine e_then ?_
  refine s_block ?_
  refine loop_st (X := Nat) (fun k => [(0, mkP mb), (1, .slice (some ⟨bb, 0, none⟩) xs.length xs.length), (5, I64 ((bothF s (xs.drop k)).2 : Nat)), (6, I64 ((k : Int) - 1))])
    (fun k w => Dg W0 w M (bothF s (xs.drop k)).1 R ∧ k ≤ xs.length) (fun k => k) xs.length ⟨rfl, rfl, by rw [List.drop_length]; rfl, rfl, trivial⟩ ⟨by rw [List.drop_length]; exact hd, Nat.le_refl _⟩ ?_
  clear hd
  rintro k ρ w ⟨hd, hk⟩
  obtain ⟨os, hos, hs⟩ := hd.ex
  by_cases c : 0 < k
  · have hdr : xs.drop (k - 1) = xs.getD (k - 1) 0 :: xs.drop k := by
      have h1 := List.drop_eq_getElem_cons (l := xs) (i := k - 1) (by omega)
      rw [h1, show k - 1 + 1 = k by omega]
      simp [show k - 1 < xs.length by omega]
    have hx := ha (xs.getD (k - 1) 0) (by simp [show k - 1 < xs.length by omega])
    have b := both_spec I (xs.drop k) fun a hm => ha a (List.mem_of_mem_drop hm)
    have hx' : xs.getD (k - 1) 0 < (bothF s (xs.drop k)).1.nodes.length := by have := b.ext.len; omega
    have e2 := both_drop I xs (k - 1) ha
    rw [hdr] at e2
    have hn' : (ifF (bothF s (xs.drop k)).1 (xs.getD (k - 1) 0) (bothF s (xs.drop k)).2 0).1.nodes.length ≤ 60000 := by have := e2.len; simp only [bothF] at this; omega
    refine s_seq ?_
    refine s_seq ?_
    refine s_reg ?_
    refine l_q (by exact y_mv_int rfl) ?_
    refine l_q (by first | exact y_geq rfl rfl (decide_eq_true (by omega)) | exact y_geq rfl rfl (decide_eq_false (by omega)) | exact y_geq rfl rfl rfl) ?_
    refine l_q (by exact y_mv_bool rfl) ?_
    first | refine l_gskip rfl rfl ?_ | refine l_gskip_u rfl rfl ?_ | refine l_gdo rfl rfl (by exact y_mv_ptr rfl) ?_
    first | refine l_gskip rfl rfl ?_ | refine l_gskip_u rfl rfl ?_ | refine l_gdo rfl rfl (by first | exact y_nil rfl | exact y_nilf rfl) ?_
    first | refine l_gskip rfl rfl ?_ | refine l_gskip_u rfl rfl ?_ | refine l_gdo rfl rfl (by exact y_field rfl) ?_
    first | refine l_gskip rfl rfl ?_ | refine l_gskip_u rfl rfl ?_ | refine l_gdo rfl rfl (by exact y_ld hs rfl rfl) ?_
    first | refine l_gskip rfl rfl ?_ | refine l_gskip_u rfl rfl ?_ | refine l_gdo rfl rfl (by first | exact y_eql rfl rfl (decide_eq_true (by omega)) | exact y_eql rfl rfl (decide_eq_false (by omega)) | exact y_eql rfl rfl rfl) ?_
    refine l_q (by first | exact y_pk_bt rfl rfl | exact y_pk_bf rfl rfl) ?_
    refine l_end ?_
    refine e_then ?_
    refine cond_t rfl ?_
    refine s_skip ?_
    refine e_then ?_
    refine s_seq ?_
    refine s_block ?_
    refine r_draw (.q 0 (.q 1 (.q 2 (.q 3 (.q 4 (.q 5 (.q 6 (.q 7 (.q 8 (.q 9 (.w 10 (.q 11 (.q 12 (.w 13 (.q 14 (.nil)))))))))))))))) 14 (fun w => St W0 w R) mixed (by kernel_rfl) ?_
    have hs := hs.drew
    refine c_q rfl (by first | exact hs | exact hs.subl | exact hs.cellAt rfl | trivial) (fun _ _ _ h => h) (fun w hs => by exact y_mv_ptr rfl) ?_
    refine c_q rfl (by first | exact hs | exact hs.subl | exact hs.cellAt rfl | trivial) (fun _ _ _ h => h) (fun w hs => by exact y_mv_ptr rfl) ?_
    refine c_q rfl (by first | exact hs | exact hs.subl | exact hs.cellAt rfl | trivial) (fun _ _ _ h => h) (fun w hs => by first | exact y_nil rfl | exact y_nilf rfl) ?_
    refine c_q rfl (by first | exact hs | exact hs.subl | exact hs.cellAt rfl | trivial) (fun _ _ _ h => h) (fun w hs => by exact y_field rfl) ?_
    refine c_q rfl (by first | exact hs | exact hs.subl | exact hs.cellAt rfl | trivial) (fun _ _ _ h => h) (fun w hs => by exact y_ld hs rfl rfl) ?_
    refine c_q rfl (by first | exact hs | exact hs.subl | exact hs.cellAt rfl | trivial) (fun _ _ _ h => h) (fun w hs => by exact y_mv_slice rfl) ?_
    refine c_q rfl (by first | exact hs | exact hs.subl | exact hs.cellAt rfl | trivial) (fun _ _ _ h => h) (fun w hs => by exact y_mv_int rfl) ?_
    refine c_q rfl (by first | exact hs | exact hs.subl | exact hs.cellAt rfl | trivial) (fun _ _ _ h => h) (fun w hs => by exact y_indexT (off := k - 1) rfl rfl (by omega) (by omega) rfl (by omega)) ?_
    refine c_q rfl (by first | exact hs | exact hs.subl | exact hs.cellAt rfl | trivial) (fun _ _ _ h => h) (fun w hs => by exact y_ld (v := I64 ((xs.getD (k - 1) 0 : Nat) : Int)) hs rfl (own_nat (by omega))) ?_
    refine c_q rfl (by first | exact hs | exact hs.subl | exact hs.cellAt rfl | trivial) (fun _ _ _ h => h) (fun w hs => by exact y_mv_int rfl) ?_
    refine c_w rfl (w_call rfl (and_c b.inv hx' b.lt hn' ⟨os, hos, hs⟩) rfl (fun _ w h => ?_))
    obtain ⟨rfl, hd⟩ := h; obtain ⟨os, hos, hs⟩ := hd.ex
    refine ⟨fun _ => by first | exact hs | exact hs.subl | exact hs.cellAt rfl | trivial, ?_⟩
    refine c_q rfl (by first | exact hs | exact hs.subl | exact hs.cellAt rfl | trivial) (fun _ _ _ h => h) (fun w hs => by exact y_extract rfl rfl) ?_
    refine c_q rfl (by first | exact hs | exact hs.subl | exact hs.cellAt rfl | trivial) (fun _ _ _ h => h) (fun w hs => by exact y_extract rfl rfl) ?_
    refine c_w rfl (w_call rfl (keep_c (M := M) _ hs) rfl (fun _ w h => ?_))
    obtain ⟨rfl, hs⟩ := h
    refine ⟨fun _ => by first | exact hs | exact hs.subl | exact hs.cellAt rfl | trivial, ?_⟩
    refine c_q rfl (by first | exact hs | exact hs.subl | exact hs.cellAt rfl | trivial) (fun _ _ _ h => h) (fun w hs => by exact y_as_int rfl) ?_
    refine c_end ?_
    refine e_blk ?_
    refine e_then ?_
    refine s_reg ?_
    refine l_q (by exact y_mv_int rfl) ?_
    refine l_q (by first | exact y_subn rfl rfl (by omega) | exact y_sub rfl rfl rfl) ?_
    refine l_q (by exact y_as_int rfl) ?_
    refine l_end ?_
    refine e_then ?_
    refine ⟨k - 1, _, nx ⟨rfl, rfl, ?_, ?_, trivial⟩, ⟨?_, by omega⟩, by omega⟩
    · rw [hdr]; rfl
    · show I64 ((k : Int) - 1 - 1) = I64 (((k - 1 : Nat) : Int) - 1)
      rw [show (k : Int) - 1 - 1 = ((k - 1 : Nat) : Int) - 1 by omega]
    · rw [hdr]; exact ⟨os, hos, hs⟩
  · refine s_seq ?_
    refine s_seq ?_
    refine s_reg ?_
    refine l_q (by exact y_mv_int rfl) ?_
    refine l_q (by first | exact y_geq rfl rfl (decide_eq_true (by omega)) | exact y_geq rfl rfl (decide_eq_false (by omega)) | exact y_geq rfl rfl rfl) ?_
    refine l_q (by exact y_mv_bool rfl) ?_
    first | refine l_gskip rfl rfl ?_ | refine l_gskip_u rfl rfl ?_ | refine l_gdo rfl rfl (by exact y_mv_ptr rfl) ?_
    first | refine l_gskip rfl rfl ?_ | refine l_gskip_u rfl rfl ?_ | refine l_gdo rfl rfl (by first | exact y_nil rfl | exact y_nilf rfl) ?_
    first | refine l_gskip rfl rfl ?_ | refine l_gskip_u rfl rfl ?_ | refine l_gdo rfl rfl (by exact y_field rfl) ?_
    first | refine l_gskip rfl rfl ?_ | refine l_gskip_u rfl rfl ?_ | refine l_gdo rfl rfl (by exact y_ld hs rfl rfl) ?_
    first | refine l_gskip rfl rfl ?_ | refine l_gskip_u rfl rfl ?_ | refine l_gdo rfl rfl (by first | exact y_eql rfl rfl (decide_eq_true (by omega)) | exact y_eql rfl rfl (decide_eq_false (by omega)) | exact y_eql rfl rfl rfl) ?_
    refine l_q (by first | exact y_pk_bt rfl rfl | exact y_pk_bf rfl rfl) ?_
    refine l_end ?_
    refine e_then ?_
    refine cond_f rfl ?_
    refine s_exit ?_
    refine e_then_x ?_
    refine e_then_x ?_
    refine e_blk_x ?_
    refine e_then ?_
    refine s_seq ?_
    refine s_reg ?_
    refine l_q (by exact y_mv_int rfl) ?_
    refine l_q (by exact y_as_int rfl) ?_
    refine l_end ?_
    refine e_then ?_
    refine s_ret ?_
    have k0 : k = 0 := by omega
    subst k0
    exact ret_ [.int .i64 _] rfl ⟨rfl, trivial⟩ ⟨rfl, ⟨os, hos, hs⟩⟩
end Go.Proofs.Ytfjniocobcoepaa
