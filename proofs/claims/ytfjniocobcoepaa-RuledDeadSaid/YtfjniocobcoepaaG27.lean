/- Facts on the functions and types of this seat that its laws are proved from: contracts under the premises that each theorem names. -/
import Derived.Test.YtfjniocobcoepaaG26
set_option linter.unusedSimpArgs false
set_option linter.unusedVariables false
set_option linter.unnecessarySimpa false
namespace Go.Proofs.Ytfjniocobcoepaa
open Go Go.RowKit PB
set_option linter.unusedVariables false
set_option linter.unusedSimpArgs false

/-! ### The maker: keep and bit -/
abbrev mkO (M : MB) : MObj := .cells [M.p, I64 0] 95
abbrev mkP (mb : Nat) : Value := .pointer (some ⟨mb, 0, none⟩)
theorem upd_self {b : Nat} {o : MObj} {L : List (Nat × MObj)} (h : (b, o) ∈ L) : Upd b o L L := by
  obtain ⟨pre, suf, e⟩ := List.append_of_mem h
  exact ⟨pre, suf, o, e, e⟩
theorem keep_c {W0 w : World} {L : List (Nat × MObj)} {M : MB} {mb : Nat} (a : Int) [im : InL mb (mkO M) L] (hs : St W0 w L) :
    FnC Try.prog 51 [mkP mb, I64 a, I64 0] w (fun v w' => v = I64 a ∧ St W0 w' L) := by
  haveI : Upd mb (.cells ([M.p, I64 0].set (0 + 1) (I64 0)) 95) L L := upd_self im.mem
  refine FnC.enter Try.func51 rfl Try.ntmps51 rfl fun ρ => ?_
  refine s_seq ?_
  refine s_reg ?_
  refine l_q (by exact y_as_int rfl) ?_
  refine l_end ?_
  refine e_then ?_
  refine s_seq ?_
  refine s_seq ?_
  refine s_reg ?_
  refine l_q (by exact y_mv_ptr rfl) ?_
  refine l_q (by first | exact y_nil rfl | exact y_nilf rfl) ?_
  refine l_q (by exact y_field rfl) ?_
  refine l_q (by exact y_ld hs rfl rfl) ?_
  refine l_q (by first | exact y_eql rfl rfl (decide_eq_true (by omega)) | exact y_eql rfl rfl (decide_eq_false (by omega)) | exact y_eql rfl rfl rfl) ?_
  refine l_end ?_
  refine e_then ?_
  refine cond_t rfl ?_
  refine s_reg ?_
  refine l_q (by exact y_mv_ptr rfl) ?_
  refine l_q (by exact y_mv_int rfl) ?_
  refine l_q (by first | exact y_nil rfl | exact y_nilf rfl) ?_
  refine l_q (by exact y_field rfl) ?_
  refine l_w (w_store (v := .int .i64 _) hs rfl rfl rfl rfl (fun w hs => ?_))
  refine l_end ?_
  refine e_then ?_
  refine s_seq ?_
  refine s_reg ?_
  refine l_q (by exact y_mv_int rfl) ?_
  refine l_q (by exact y_as_int rfl) ?_
  refine l_end ?_
  refine e_then ?_
  refine s_ret ?_
  exact ret_ [.int .i64 _] rfl ⟨rfl, trivial⟩ ⟨rfl, hs⟩

/-! ### What a diagram stands for, and from which variable on -/
structure Kv (s : DS) (a v : Nat) (f : (Nat → Bool) → Bool) : Prop extends Kn s a f where
  var : v ≤ (s.nd a).1
theorem Kv.up {s s' : DS} {a v k : Nat} {f : (Nat → Bool) → Bool} (h : Kv s a v f) (W : Inv s) (n : Nx s s' k) : Kv s' a v f :=
  ⟨h.toKn.up W n, by rw [n.ext.nd h.lt]; exact h.var⟩
theorem Kv.fn {s : DS} {a v : Nat} {f g : (Nat → Bool) → Bool} (h : Kv s a v f) (e : ∀ x, f x = g x) : Kv s a v g := ⟨⟨h.lt, fun x => (h.sem x).trans (e x)⟩, h.var⟩
theorem Kn.fn {s : DS} {a : Nat} {f g : (Nat → Bool) → Bool} (h : Kn s a f) (e : ∀ x, f x = g x) : Kn s a g := ⟨h.lt, fun x => (h.sem x).trans (e x)⟩
theorem Kn.v0 {s : DS} {a : Nat} {f : (Nat → Bool) → Bool} (h : Kn s a f) : Kv s a 0 f := ⟨h, Nat.zero_le _⟩
theorem kv0 {s : DS} (h : Inv s) (v : Nat) (hv : v ≤ s.vars) : Kv s 0 v fun _ => false := ⟨kn0 h, by rw [h.c0]; exact hv⟩
theorem kv1 {s : DS} (h : Inv s) (v : Nat) (hv : v ≤ s.vars) : Kv s 1 v fun _ => true := ⟨kn1 h, by rw [h.c1]; exact hv⟩
theorem Nx.refl {s : DS} (h : Inv s) : Nx s s 0 := ⟨h, Ext.refl s, Nat.le_refl _⟩
theorem Nx.trans {s s' s'' : DS} {i j : Nat} (a : Nx s s' i) (b : Nx s' s'' j) : Nx s s'' (i + j) := ⟨b.inv, a.ext.trans b.ext, by have := a.cnt; have := b.cnt; omega⟩
theorem Nx.mono {s s' : DS} {i j : Nat} (a : Nx s s' i) (h : i ≤ j) : Nx s s' j := ⟨a.inv, a.ext, by have := a.cnt; omega⟩

theorem node_nd {s : DS} (h : Inv s) {v : Nat} (hv : v < s.vars) : (nodeF s (v, 0, 1)).1.nd (nodeF s (v, 0, 1)).2 = (v, 0, 1) := by
  unfold nodeF
  rw [if_neg (show ¬ (0 : Nat) = 1 by decide)]
  cases hl : lookN s.idx (v, 0, 1) with
  | some i => exact ((h.uniq _ _).1 hl).2.2
  | none => simp [DS.nd]
theorem if_bit {s : DS} (h : Inv s) {v a b c : Nat} (ha : a < s.nodes.length) (hb : b < s.nodes.length) (hc : c < s.nodes.length) (hn : s.nd a = (v, 0, 1)) (hv : v < s.vars) (vb : v < (s.nd b).1) (vc : v < (s.nd c).1) :
    (ifF s a b c).1.nodes.length ≤ s.nodes.length + 1 := by
  have hq := (if_some h ha hb hc).1
  obtain ⟨k, hk⟩ : ∃ k, s.vars = k + 1 := ⟨s.vars - 1, by omega⟩
  generalize hr : ifF s a b c = r at *
  have a2 : 2 ≤ a := by
    rcases Nat.lt_or_ge a 2 with q | q
    · have : a = 0 ∨ a = 1 := by omega
      rcases this with rfl | rfl
      · have := h.c0; rw [hn] at this; simp at this; omega
      · have := h.c1; rw [hn] at this; simp at this; omega
    · exact q
  rw [hk] at hq
  simp only [chooseF] at hq
  have htop : topV s a b c = v := by unfold topV; rw [hn]; simp; omega
  rw [htop] at hq
  have sa : ∀ hi, sideF s a v hi = if hi then 1 else 0 := fun hi => by unfold sideF; rw [hn]; simp
  have sb : ∀ hi, sideF s b v hi = b := fun hi => by unfold sideF; rw [if_pos (by omega)]
  have sc : ∀ hi, sideF s c v hi = c := fun hi => by unfold sideF; rw [if_pos (by omega)]
  simp only [sa, sb, sc] at hq
  by_cases c1 : a = 1 ∨ b = c
  · rw [if_pos c1] at hq; have : s = r.1 := by simpa using (congrArg (fun o => o.map Prod.fst) hq)
    rw [← this]; omega
  rw [if_neg c1, if_neg (by omega)] at hq
  by_cases c3 : b = 1 ∧ c = 0
  · rw [if_pos c3] at hq; have : s = r.1 := by simpa using (congrArg (fun o => o.map Prod.fst) hq)
    rw [← this]; omega
  rw [if_neg c3] at hq
  cases hd : lookN s.done (a, b, c) with
  | some x =>
    rw [hd] at hq
    have : s = r.1 := by simpa using (congrArg (fun o => o.map Prod.fst) hq)
    rw [← this]; omega
  | none =>
    rw [hd] at hq
    have n1 : ¬ b = c := fun e => c1 (.inr e)
    simp [n1, sa, sb, sc] at hq
    have := nodeF_new s (v, c, b)
    have e1 := congrArg (fun o => o.nodes) hq.1
    simp at e1
    rw [← e1]
    rcases this with q | q
    · rw [q]; omega
    · rw [q.1]; simp

section
variable {W0 w : World} {M : MB} {mb : Nat} {s : DS} {R : List (Nat × MObj)} {a b c : Nat} {f g k : (Nat → Bool) → Bool}
theorem if_n (h : Inv s) (A : Kn s a f) (B : Kn s b g) (C : Kn s c k) {z : Nat} (hz : (ifF s a b c).1.nodes.length ≤ s.nodes.length + z) : Nx s (ifF s a b c).1 z ∧ Kn (ifF s a b c).1 (ifF s a b c).2 (fun e => if f e then g e else k e) := by
  have S := if_spec h A.lt B.lt C.lt
  exact ⟨⟨S.inv, S.ext, hz⟩, ⟨S.lt, fun e => by rw [S.sem, A.sem, B.sem, C.sem]⟩⟩
theorem bit_k {v : Nat} [im : InL mb (mkO M) R] (I : Inv s) (h105 : s.vars = 105) (hv : v < 105) (LO : Kv s b (v + 1) f) (HI : Kv s c (v + 1) g) (hn : s.nodes.length + 2 ≤ 60000) (hd : Dg W0 w M s R) :
    FnC Try.prog 61 [mkP mb, I64 v, I64 b, I64 c] w (fun x w' => ∃ s' r, x = I64 (r : Nat) ∧ Nx s s' 2 ∧ Kv s' r v (fun e => if e v then g e else f e) ∧ Dg W0 w' M s' R) := by
  obtain ⟨os, hos, hs⟩ := hd.ex
  have V := var_spec I (i := v) (by omega)
  have N1 : Nx s (nodeF s (v, 0, 1)).1 1 := ⟨V.inv, V.ext, V.cnt⟩
  have LO1 := LO.up I N1
  have HI1 := HI.up I N1
  have v1 : (nodeF s (v, 0, 1)).1.vars = 105 := N1.ext.vars.trans h105
  have nd := node_nd I (v := v) (by omega)
  have VK : Kn (nodeF s (v, 0, 1)).1 (nodeF s (v, 0, 1)).2 (fun e => e v) := ⟨V.lt, fun e => by rw [V.sem, ev_0, ev_1]; cases e v <;> rfl⟩
  have hb := LO1.lt
  have hc := HI1.lt
  have c1 := N1.cnt
  have vb := LO1.var
  have vc := HI1.var
  have IB := if_bit N1.inv V.lt hc hb nd (by omega) (by omega) (by omega)
  obtain ⟨N2, K2⟩ := if_n N1.inv VK HI1.toKn LO1.toKn IB
  have S := if_spec N1.inv VK.lt hc hb
  have htop : topV (nodeF s (v, 0, 1)).1 (nodeF s (v, 0, 1)).2 c b = v := by unfold topV; rw [nd]; simp; omega
  have K3 : Kv (ifF (nodeF s (v, 0, 1)).1 (nodeF s (v, 0, 1)).2 c b).1 (ifF (nodeF s (v, 0, 1)).1 (nodeF s (v, 0, 1)).2 c b).2 v (fun e => if e v then g e else f e) := ⟨K2, by have := S.var; omega⟩
  refine FnC.enter Try.func61 rfl Try.ntmps61 rfl fun ρ => ?_
  refine s_seq ?_
  refine s_reg ?_
  refine l_q (by exact y_as_int rfl) ?_
  refine l_end ?_
  refine e_then ?_
  refine s_seq ?_
  refine s_reg ?_
  refine l_q (by exact y_mv_ptr rfl) ?_
  refine l_q (by exact y_mv_ptr rfl) ?_
  refine l_q (by first | exact y_nil rfl | exact y_nilf rfl) ?_
  refine l_q (by exact y_field rfl) ?_
  refine l_q (by exact y_ld hs rfl rfl) ?_
  refine l_q (by exact y_mv_int rfl) ?_
  refine l_w (w_call rfl (var_c I (i := v) (by omega) (by have := N1.cnt; omega) hd) rfl (fun _ w h => ?_))
  obtain ⟨rfl, hd⟩ := h; obtain ⟨os, hos, hs⟩ := hd.ex
  refine l_q (by exact y_extract rfl rfl) ?_
  refine l_q (by exact y_extract rfl rfl) ?_
  refine l_w (w_call rfl (keep_c (M := M) _ hs) rfl (fun _ w h => ?_))
  obtain ⟨rfl, hs⟩ := h
  refine l_q (by exact y_as_int rfl) ?_
  refine l_end ?_
  refine e_then ?_
  refine s_seq ?_
  refine s_seq ?_
  refine s_reg ?_
  refine l_q (by exact y_mv_ptr rfl) ?_
  refine l_q (by first | exact y_nil rfl | exact y_nilf rfl) ?_
  refine l_q (by exact y_field rfl) ?_
  refine l_q (by exact y_ld hs rfl rfl) ?_
  refine l_q (by first | exact y_neq rfl rfl (decide_eq_true (by omega)) | exact y_neq rfl rfl (decide_eq_false (by omega)) | exact y_neq rfl rfl rfl) ?_
  refine l_end ?_
  refine e_then ?_
  refine cond_f rfl ?_
  refine s_skip ?_
  refine e_then ?_
  refine s_seq ?_
  refine s_reg ?_
  refine l_q (by exact y_mv_ptr rfl) ?_
  refine l_q (by exact y_mv_ptr rfl) ?_
  refine l_q (by first | exact y_nil rfl | exact y_nilf rfl) ?_
  refine l_q (by exact y_field rfl) ?_
  refine l_q (by exact y_ld hs rfl rfl) ?_
  refine l_q (by exact y_mv_int rfl) ?_
  refine l_q (by exact y_mv_int rfl) ?_
  refine l_q (by exact y_mv_int rfl) ?_
  refine l_w (w_call rfl (if_c N1.inv V.lt hc hb (by omega) ⟨os, hos, hs⟩) rfl (fun _ w h => ?_))
  obtain ⟨rfl, hd⟩ := h; obtain ⟨os, hos, hs⟩ := hd.ex
  refine l_q (by exact y_extract rfl rfl) ?_
  refine l_q (by exact y_extract rfl rfl) ?_
  refine l_w (w_call rfl (keep_c (M := M) _ hs) rfl (fun _ w h => ?_))
  obtain ⟨rfl, hs⟩ := h
  refine l_q (by exact y_as_int rfl) ?_
  refine l_end ?_
  refine e_then ?_
  refine s_ret ?_
  exact ret_ [.int .i64 _] rfl ⟨rfl, trivial⟩ ⟨_, _, rfl, N1.trans N2, K3, ⟨os, hos, hs⟩⟩
end
end Go.Proofs.Ytfjniocobcoepaa
