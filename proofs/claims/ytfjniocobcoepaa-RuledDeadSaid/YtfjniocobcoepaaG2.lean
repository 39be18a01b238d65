/- Facts on the functions and types of this seat that its laws are proved from: contracts under the premises that each theorem names. -/
import Derived.Test.YtfjniocobcoepaaG1
set_option linter.unusedSimpArgs false
set_option linter.unusedVariables false
set_option linter.unnecessarySimpa false
namespace Go.Proofs.Ytfjniocobcoepaa
open Go Go.RowKit PB
set_option linter.unusedVariables false
set_option linter.unusedSimpArgs false

/-! ### A store of diagrams, as plain data -/
abbrev N3 := Nat × Nat × Nat
structure DS where
  vars : Nat
  nodes : List N3
  idx : List (N3 × Nat)
  done : List (N3 × Nat)
def DS.nd (s : DS) (a : Nat) : N3 := s.nodes.getD a (0, 0, 0)
def kN (t : N3) : K3 := (t.1, t.2.1, t.2.2)
def mp (l : List (N3 × Nat)) : List (K3 × Int) := l.map fun p => (kN p.1, (p.2 : Int))
def lookN : List (N3 × Nat) → N3 → Option Nat
  | [], _ => none
  | p :: l, a => if a = p.1 then some p.2 else lookN l a
def putN : List (N3 × Nat) → N3 → Nat → List (N3 × Nat)
  | [], a, v => [(a, v)]
  | p :: l, a, v => if a = p.1 then (a, v) :: l else p :: putN l a v
theorem kN_inj {a b : N3} : kN a = kN b ↔ a = b := by
  obtain ⟨a0, a1, a2⟩ := a
  obtain ⟨b0, b1, b2⟩ := b
  simp [kN]; omega
theorem look_mp (l : List (N3 × Nat)) (a : N3) : lookF (mp l) (kN a) = (lookN l a).map fun (n : Nat) => (n : Int) := by
  induction l with
  | nil => rfl
  | cons p l ih =>
    simp only [mp, List.map_cons, lookF, lookN, kN_inj]
    split
    · rfl
    · exact ih
theorem put_mp (l : List (N3 × Nat)) (a : N3) (v : Nat) : putF (mp l) (kN a) v = mp (putN l a v) := by
  induction l with
  | nil => rfl
  | cons p l ih =>
    simp only [mp, List.map_cons, putF, putN, kN_inj]
    split
    · rfl
    · simp only [List.map_cons]; congr 1

def flatN (l : List N3) : List Value := l.flatMap fun t => [I64 t.1, I64 t.2.1, I64 t.2.2]
theorem flatN_append (a b : List N3) : flatN (a ++ b) = flatN a ++ flatN b := by simp [flatN]
theorem flatN_cons (t : N3) (b : List N3) : flatN (t :: b) = [I64 t.1, I64 t.2.1, I64 t.2.2] ++ flatN b := by simp [flatN]
theorem flatN_len (l : List N3) : (flatN l).length = l.length * 3 := by
  induction l with
  | nil => rfl
  | cons t l ih => rw [flatN_cons, List.length_append, ih]; simp; omega
theorem nd_split {l : List N3} {i : Nat} (h : i < l.length) : ∃ pre suf, l = pre ++ l.getD i (0, 0, 0) :: suf ∧ pre.length = i :=
  ⟨l.take i, l.drop (i + 1), by simp [h], by simp; omega⟩
theorem flatN_take {l : List N3} {i : Nat} (h : i < l.length) (sp : List Value) : ((flatN l ++ sp).drop (3 * i)).take 3 = [I64 (l.getD i (0, 0, 0)).1, I64 (l.getD i (0, 0, 0)).2.1, I64 (l.getD i (0, 0, 0)).2.2] := by
  obtain ⟨pre, suf, h1, h2⟩ := nd_split h
  generalize l.getD i (0, 0, 0) = t at *
  subst h1 h2
  have hl := flatN_len pre
  rw [flatN_append, flatN_cons, List.append_assoc, List.drop_append, hl, List.drop_eq_nil_of_le (by omega), show 3 * pre.length - pre.length * 3 = 0 by omega]
  simp
theorem flatN_room {l : List N3} {i : Nat} (h : i < l.length) (sp : List Value) : Nat.ble (3 * i + 3) (flatN l ++ sp).length = true := by
  rw [Nat.ble_eq, List.length_append, flatN_len]; omega
theorem flatN_get {l : List N3} {i : Nat} (h : i < l.length) (sp : List Value) : (flatN l ++ sp)[3 * i + 0]? = some (I64 (l.getD i (0, 0, 0)).1) := by
  have h1 := flatN_take h sp
  have h2 : (((flatN l ++ sp).drop (3 * i)).take 3)[0]? = some (I64 (l.getD i (0, 0, 0)).1) := by rw [h1]; rfl
  rw [List.getElem?_take] at h2
  simpa using h2

/-- Its blocks. -/
structure MB where
  b : Nat
  bi : Nat
  bd : Nat
abbrev stB (M : MB) (s : DS) (os : OS) (R : List (Nat × MObj)) : List (Nat × MObj) :=
  (M.b, .cells [I64 s.vars, .slice os.ad s.nodes.length os.cap, .map (some M.bi), .map (some M.bd)] 73) :: (os.blk (flatN s.nodes) 39 ++ ((M.bi, .obj (mapObj (mp s.idx))) :: (M.bd, .obj (mapObj (mp s.done))) :: R))
abbrev MB.p (M : MB) : Value := .pointer (some ⟨M.b, 0, none⟩)

structure Wf0 (s : DS) : Prop where
  n2 : 2 ≤ s.nodes.length
  vars : s.vars ≤ 128
  v : ∀ a, a < s.nodes.length → (s.nd a).1 ≤ s.vars
  lo : ∀ a, a < s.nodes.length → (s.nd a).2.1 < s.nodes.length
  hi : ∀ a, a < s.nodes.length → (s.nd a).2.2 < s.nodes.length
  idx : ∀ k n, lookN s.idx k = some n → n < s.nodes.length
  done : ∀ k n, lookN s.done k = some n → n < s.nodes.length
structure Wf (s : DS) : Prop extends Wf0 s where
  n6 : s.nodes.length ≤ 60000

def sideF (s : DS) (a v : Nat) (high : Bool) : Nat := if (s.nd a).1 ≠ v then a else if high then (s.nd a).2.2 else (s.nd a).2.1
theorem sideF_lt {s : DS} (h : Wf0 s) {a v : Nat} (ha : a < s.nodes.length) (hi : Bool) : sideF s a v hi < s.nodes.length := by
  unfold sideF
  split
  · exact ha
  · split
    · exact h.hi a ha
    · exact h.lo a ha

theorem own_nd {s : DS} {os : OS} (hok : os.ok (flatN s.nodes) s.nodes.length 3) (h : Wf s) : ∃ g, os.a = some g ∧ os.ad = some ⟨g, 0, none⟩ := by
  have := h.n2
  cases ha : os.a with
  | none => have := hok.nil_ ha; omega
  | some g => exact ⟨g, rfl, by simp [OS.ad, ha]⟩

theorem side_c {W0 w : World} {R : List (Nat × MObj)} {M : MB} {s : DS} {os : OS} (hwf : Wf s) (hok : os.ok (flatN s.nodes) s.nodes.length 3) {a : Nat} (v : Nat) (high : Bool) (ha : a < s.nodes.length) (hs : St W0 w (stB M s os R)) :
    FnC Try.prog 39 [M.p, I64 a, I64 v, .bool high] w (fun u w' => u = I64 (sideF s a v high : Nat) ∧ St W0 w' (stB M s os R)) := by
  obtain ⟨g, hg, had⟩ := own_nd hok hwf
  have hn := hwf.n6
  haveI := inl_blk hg (flatN s.nodes) 39
  refine FnC.enter Try.func39 rfl Try.ntmps39 rfl fun ρ => ?_
  by_cases c : (s.nd a).1 ≠ v
  · have e : sideF s a v high = a := if_pos c
    refine s_seq ?_
    refine s_reg ?_
    refine l_q (by exact y_as_int rfl) ?_
    refine l_end ?_
    refine e_then ?_
    refine s_seq ?_
    refine s_reg ?_
    refine l_q (by exact y_mv_ptr rfl) ?_
    refine l_q (by first | exact y_nil rfl | exact y_nilf rfl) ?_
    refine l_q (by exact y_field rfl) ?_
    refine l_q (by exact y_ld hs rfl rfl) ?_
    refine l_q (by exact y_mv_int rfl) ?_
    refine l_q (by exact y_indexT (off := 3 * a) rfl rfl (by omega) (by omega) had (by omega)) ?_
    refine l_q (by exact y_ldA (vs := [I64 (s.nd a).1, I64 (s.nd a).2.1, I64 (s.nd a).2.2]) hs rfl (flatN_room ha _) (flatN_take ha _)) ?_
    refine l_w (w_alloc (cs := [_, _, _]) hs rfl (fun b9 w hs hb9 => ?_))
    refine l_w (w_storeA (vs := [_, _, _]) hs rfl rfl rfl rfl rfl (fun w hs => ?_))
    refine l_end ?_
    refine e_then ?_
    refine s_block ?_
    refine s_seq ?_
    refine s_reg ?_
    refine l_q (by exact y_field rfl) ?_
    refine l_q (by exact y_ld hs rfl rfl) ?_
    refine l_q (by exact y_mv_int rfl) ?_
    refine l_q (by first | exact y_neq rfl rfl (decide_eq_true (by omega)) | exact y_neq rfl rfl (decide_eq_false (by omega)) | exact y_neq rfl rfl rfl) ?_
    refine l_q (by exact y_as_bool rfl) ?_
    refine l_end ?_
    refine e_then ?_
    refine cond_t rfl ?_
    refine s_seq ?_
    refine s_reg ?_
    refine l_q (by exact y_mv_int rfl) ?_
    refine l_q (by exact y_as_int rfl) ?_
    refine l_end ?_
    refine e_then ?_
    refine s_ret ?_
    refine e_blk_r ?_
    exact ret_ [.int .i64 _] rfl ⟨rfl, trivial⟩ ⟨by rw [e]; rfl, hs.tail⟩
  · cases high with
    | true =>
      have e : sideF s a v true = (s.nd a).2.2 := by unfold sideF; rw [if_neg c]; rfl
      refine s_seq ?_
      refine s_reg ?_
      refine l_q (by exact y_as_int rfl) ?_
      refine l_end ?_
      refine e_then ?_
      refine s_seq ?_
      refine s_reg ?_
      refine l_q (by exact y_mv_ptr rfl) ?_
      refine l_q (by first | exact y_nil rfl | exact y_nilf rfl) ?_
      refine l_q (by exact y_field rfl) ?_
      refine l_q (by exact y_ld hs rfl rfl) ?_
      refine l_q (by exact y_mv_int rfl) ?_
      refine l_q (by exact y_indexT (off := 3 * a) rfl rfl (by omega) (by omega) had (by omega)) ?_
      refine l_q (by exact y_ldA (vs := [I64 (s.nd a).1, I64 (s.nd a).2.1, I64 (s.nd a).2.2]) hs rfl (flatN_room ha _) (flatN_take ha _)) ?_
      refine l_w (w_alloc (cs := [_, _, _]) hs rfl (fun b9 w hs hb9 => ?_))
      refine l_w (w_storeA (vs := [_, _, _]) hs rfl rfl rfl rfl rfl (fun w hs => ?_))
      refine l_end ?_
      refine e_then ?_
      refine s_block ?_
      refine s_seq ?_
      refine s_reg ?_
      refine l_q (by exact y_field rfl) ?_
      refine l_q (by exact y_ld hs rfl rfl) ?_
      refine l_q (by exact y_mv_int rfl) ?_
      refine l_q (by first | exact y_neq rfl rfl (decide_eq_true (by omega)) | exact y_neq rfl rfl (decide_eq_false (by omega)) | exact y_neq rfl rfl rfl) ?_
      refine l_q (by exact y_as_bool rfl) ?_
      refine l_end ?_
      refine e_then ?_
      refine cond_f rfl ?_
      refine s_seq ?_
      refine s_reg ?_
      refine l_q (by exact y_mv_bool rfl) ?_
      refine l_q (by exact y_as_bool rfl) ?_
      refine l_end ?_
      refine e_then ?_
      refine cond_t rfl ?_
      refine s_seq ?_
      refine s_reg ?_
      refine l_q (by exact y_field rfl) ?_
      refine l_q (by exact y_ld hs rfl rfl) ?_
      refine l_q (by exact y_as_int rfl) ?_
      refine l_end ?_
      refine e_then ?_
      refine s_ret ?_
      refine e_blk_r ?_
      exact ret_ [.int .i64 _] rfl ⟨rfl, trivial⟩ ⟨by rw [e]; rfl, hs.tail⟩
    | false =>
      have e : sideF s a v false = (s.nd a).2.1 := by unfold sideF; rw [if_neg c]; rfl
      refine s_seq ?_
      refine s_reg ?_
      refine l_q (by exact y_as_int rfl) ?_
      refine l_end ?_
      refine e_then ?_
      refine s_seq ?_
      refine s_reg ?_
      refine l_q (by exact y_mv_ptr rfl) ?_
      refine l_q (by first | exact y_nil rfl | exact y_nilf rfl) ?_
      refine l_q (by exact y_field rfl) ?_
      refine l_q (by exact y_ld hs rfl rfl) ?_
      refine l_q (by exact y_mv_int rfl) ?_
      refine l_q (by exact y_indexT (off := 3 * a) rfl rfl (by omega) (by omega) had (by omega)) ?_
      refine l_q (by exact y_ldA (vs := [I64 (s.nd a).1, I64 (s.nd a).2.1, I64 (s.nd a).2.2]) hs rfl (flatN_room ha _) (flatN_take ha _)) ?_
      refine l_w (w_alloc (cs := [_, _, _]) hs rfl (fun b9 w hs hb9 => ?_))
      refine l_w (w_storeA (vs := [_, _, _]) hs rfl rfl rfl rfl rfl (fun w hs => ?_))
      refine l_end ?_
      refine e_then ?_
      refine s_block ?_
      refine s_seq ?_
      refine s_reg ?_
      refine l_q (by exact y_field rfl) ?_
      refine l_q (by exact y_ld hs rfl rfl) ?_
      refine l_q (by exact y_mv_int rfl) ?_
      refine l_q (by first | exact y_neq rfl rfl (decide_eq_true (by omega)) | exact y_neq rfl rfl (decide_eq_false (by omega)) | exact y_neq rfl rfl rfl) ?_
      refine l_q (by exact y_as_bool rfl) ?_
      refine l_end ?_
      refine e_then ?_
      refine cond_f rfl ?_
      refine s_seq ?_
      refine s_reg ?_
      refine l_q (by exact y_mv_bool rfl) ?_
      refine l_q (by exact y_as_bool rfl) ?_
      refine l_end ?_
      refine e_then ?_
      refine cond_f rfl ?_
      refine s_seq ?_
      refine s_reg ?_
      refine l_q (by exact y_field rfl) ?_
      refine l_q (by exact y_ld hs rfl rfl) ?_
      refine l_q (by exact y_as_int rfl) ?_
      refine l_end ?_
      refine e_then ?_
      refine s_ret ?_
      refine e_blk_r ?_
      exact ret_ [.int .i64 _] rfl ⟨rfl, trivial⟩ ⟨by rw [e]; rfl, hs.tail⟩

/-! ### node -/
def nodeF (s : DS) (t : N3) : DS × Nat :=
  if t.2.1 = t.2.2 then (s, t.2.1)
  else match lookN s.idx t with
    | some i => (s, i)
    | none => ({ s with nodes := s.nodes ++ [t], idx := putN s.idx t s.nodes.length }, s.nodes.length)

theorem node_c {W0 w : World} {R : List (Nat × MObj)} {M : MB} {s : DS} {os : OS} (hwf : Wf s) (hok : os.ok (flatN s.nodes) s.nodes.length 3) {v lo hi : Nat} (hroom : (nodeF s (v, lo, hi)).1.nodes.length ≤ 60000) (hs : St W0 w (stB M s os R)) :
    FnC Try.prog 37 [M.p, I64 v, I64 lo, I64 hi] w (fun u w' => u = I64 ((nodeF s (v, lo, hi)).2 : Nat) ∧ ∃ os', os'.ok (flatN (nodeF s (v, lo, hi)).1.nodes) (nodeF s (v, lo, hi)).1.nodes.length 3 ∧ St W0 w' (stB M (nodeF s (v, lo, hi)).1 os' R)) := by
  have hn := hwf.n6
  refine FnC.enter Try.func37 rfl Try.ntmps37 rfl fun ρ => ?_
  by_cases c : lo = hi
  · have e : nodeF s (v, lo, hi) = (s, lo) := if_pos c
    rw [e]
    refine s_seq ?_
    refine s_reg ?_
    refine l_q (by exact y_as_int rfl) ?_
    refine l_end ?_
    refine e_then ?_
    refine s_seq ?_
    refine s_seq ?_
    refine s_reg ?_
    refine l_q (by exact y_mv_int rfl) ?_
    refine l_q (by exact y_mv_int rfl) ?_
    refine l_q (by first | exact y_eql rfl rfl (decide_eq_true (by omega)) | exact y_eql rfl rfl (decide_eq_false (by omega)) | exact y_eql rfl rfl rfl) ?_
    refine l_end ?_
    refine e_then ?_
    refine cond_t rfl ?_
    refine s_seq ?_
    refine s_reg ?_
    refine l_q (by exact y_mv_int rfl) ?_
    refine l_q (by exact y_as_int rfl) ?_
    refine l_end ?_
    refine e_then ?_
    refine s_ret ?_
    refine e_then_r ?_
    exact ret_ [.int .i64 _] rfl ⟨rfl, trivial⟩ ⟨rfl, os, hok, hs⟩
  cases hl : lookN s.idx (v, lo, hi) with
  | some i =>
    have e : nodeF s (v, lo, hi) = (s, i) := by unfold nodeF; rw [if_neg c, hl]
    rw [e]
    have hlk : Value.tuple #[I64 i, .bool true] = .tuple #[I64 ((lookF (mp s.idx) (kN (v, lo, hi))).getD 0), .bool (lookF (mp s.idx) (kN (v, lo, hi))).isSome] := by rw [look_mp, hl]; rfl
    refine s_seq ?_
    refine s_reg ?_
    refine l_q (by exact y_as_int rfl) ?_
    refine l_end ?_
    refine e_then ?_
    refine s_seq ?_
    refine s_seq ?_
    refine s_reg ?_
    refine l_q (by exact y_mv_int rfl) ?_
    refine l_q (by exact y_mv_int rfl) ?_
    refine l_q (by first | exact y_eql rfl rfl (decide_eq_true (by omega)) | exact y_eql rfl rfl (decide_eq_false (by omega)) | exact y_eql rfl rfl rfl) ?_
    refine l_end ?_
    refine e_then ?_
    refine cond_f rfl ?_
    refine s_skip ?_
    refine e_then ?_
    refine s_seq ?_
    refine s_reg ?_
    refine l_q (by exact y_mv_int rfl) ?_
    refine l_q (by exact y_mv_int rfl) ?_
    refine l_q (by exact y_mv_int rfl) ?_
    refine l_q (by exact y_build (pv := [(0, .int .i64 _), (1, .int .i64 _), (2, .int .i64 _)]) (vs := [_, _, _]) rfl rfl) ?_
    refine l_w (w_alloc (cs := [_, _, _]) hs rfl (fun b9 w hs hb9 => ?_))
    refine l_w (w_storeA (vs := [I64 v, I64 lo, I64 hi]) hs rfl rfl rfl rfl rfl (fun w hs => ?_))
    replace hs : St W0 w ((b9, .cells [I64 v, I64 lo, I64 hi] 39) :: stB M s os R) := hs
    refine l_end ?_
    refine e_then ?_
    refine s_seq ?_
    refine s_seq ?_
    refine r_dr (.q 0 (.q 1 (.q 2 (.q 3 (.q 4 (.q 5 (.q 6 (.q 7 (.q 8 (.q 9 (.q 10 (.nil)))))))))))) 10 hs mixed (by kernel_rfl) (fun hs => ?_)
    refine c_q rfl (by first | exact hs | exact hs.subl | exact hs.cellAt rfl | trivial) (fun _ _ _ h => h) (fun w hs => by exact y_mv_ptr rfl) ?_
    refine c_q rfl (by first | exact hs | exact hs.subl | exact hs.cellAt rfl | trivial) (fun _ _ _ h => h) (fun w hs => by first | exact y_nil rfl | exact y_nilf rfl) ?_
    refine c_q rfl (by first | exact hs | exact hs.subl | exact hs.cellAt rfl | trivial) (fun _ _ _ h => h) (fun w hs => by exact y_field rfl) ?_
    refine c_q rfl (by first | exact hs | exact hs.subl | exact hs.cellAt rfl | trivial) (fun _ _ _ h => h) (fun w hs => by exact y_ld hs rfl rfl) ?_
    refine c_q rfl (by first | exact hs | exact hs.subl | exact hs.cellAt rfl | trivial) (fun _ _ _ h => h) (fun w hs => by exact y_ldA (vs := [_, _, _]) hs rfl rfl rfl) ?_
    refine c_q rfl (by first | exact hs | exact hs.subl | exact hs.cellAt rfl | trivial) (fun _ _ _ h => h) (fun w hs => by exact y_lookup3 (a := kN (v, lo, hi)) (l := mp s.idx) hs rfl rfl hlk) ?_
    refine c_q rfl (by first | exact hs | exact hs.subl | exact hs.cellAt rfl | trivial) (fun _ _ _ h => h) (fun w hs => by exact y_mv_tuple rfl) ?_
    refine c_q rfl (by first | exact hs | exact hs.subl | exact hs.cellAt rfl | trivial) (fun _ _ _ h => h) (fun w hs => by exact y_extract rfl rfl) ?_
    refine c_q rfl (by first | exact hs | exact hs.subl | exact hs.cellAt rfl | trivial) (fun _ _ _ h => h) (fun w hs => by exact y_extract rfl rfl) ?_
    refine c_q rfl (by first | exact hs | exact hs.subl | exact hs.cellAt rfl | trivial) (fun _ _ _ h => h) (fun w hs => by exact y_as_int rfl) ?_
    refine c_q rfl (by first | exact hs | exact hs.subl | exact hs.cellAt rfl | trivial) (fun _ _ _ h => h) (fun w hs => by exact y_as_bool rfl) ?_
    refine c_end ?_
    refine e_then ?_
    refine s_seq ?_
    refine s_reg ?_
    refine l_q (by exact y_mv_bool rfl) ?_
    refine l_end ?_
    refine e_then ?_
    refine cond_t rfl ?_
    refine s_seq ?_
    refine s_reg ?_
    refine l_q (by exact y_mv_int rfl) ?_
    refine l_q (by exact y_as_int rfl) ?_
    refine l_end ?_
    refine e_then ?_
    refine s_ret ?_
    refine e_then_r ?_
    exact ret_ [.int .i64 _] rfl ⟨rfl, trivial⟩ ⟨rfl, os, hok, hs.tail⟩
  | none =>
    have e : nodeF s (v, lo, hi) = ({ s with nodes := s.nodes ++ [(v, lo, hi)], idx := putN s.idx (v, lo, hi) s.nodes.length }, s.nodes.length) := by unfold nodeF; rw [if_neg c, hl]
    rw [e] at hroom ⊢
    simp only [List.length_append, List.length_singleton] at hroom
    have hlk : Value.tuple #[I64 0, .bool false] = .tuple #[I64 ((lookF (mp s.idx) (kN (v, lo, hi))).getD 0), .bool (lookF (mp s.idx) (kN (v, lo, hi))).isSome] := by rw [look_mp, hl]; rfl
    refine s_seq ?_
    refine s_reg ?_
    refine l_q (by exact y_as_int rfl) ?_
    refine l_end ?_
    refine e_then ?_
    refine s_seq ?_
    refine s_seq ?_
    refine s_reg ?_
    refine l_q (by exact y_mv_int rfl) ?_
    refine l_q (by exact y_mv_int rfl) ?_
    refine l_q (by first | exact y_eql rfl rfl (decide_eq_true (by omega)) | exact y_eql rfl rfl (decide_eq_false (by omega)) | exact y_eql rfl rfl rfl) ?_
    refine l_end ?_
    refine e_then ?_
    refine cond_f rfl ?_
    refine s_skip ?_
    refine e_then ?_
    refine s_seq ?_
    refine s_reg ?_
    refine l_q (by exact y_mv_int rfl) ?_
    refine l_q (by exact y_mv_int rfl) ?_
    refine l_q (by exact y_mv_int rfl) ?_
    refine l_q (by exact y_build (pv := [(0, .int .i64 _), (1, .int .i64 _), (2, .int .i64 _)]) (vs := [_, _, _]) rfl rfl) ?_
    refine l_w (w_alloc (cs := [_, _, _]) hs rfl (fun b9 w hs hb9 => ?_))
    refine l_w (w_storeA (vs := [I64 v, I64 lo, I64 hi]) hs rfl rfl rfl rfl rfl (fun w hs => ?_))
    replace hs : St W0 w ((b9, .cells [I64 v, I64 lo, I64 hi] 39) :: stB M s os R) := hs
    refine l_end ?_
    refine e_then ?_
    refine s_seq ?_
    refine s_seq ?_
    refine r_dr (.q 0 (.q 1 (.q 2 (.q 3 (.q 4 (.q 5 (.q 6 (.q 7 (.q 8 (.q 9 (.q 10 (.nil)))))))))))) 10 hs mixed (by kernel_rfl) (fun hs => ?_)
    refine c_q rfl (by first | exact hs | exact hs.subl | exact hs.cellAt rfl | trivial) (fun _ _ _ h => h) (fun w hs => by exact y_mv_ptr rfl) ?_
    refine c_q rfl (by first | exact hs | exact hs.subl | exact hs.cellAt rfl | trivial) (fun _ _ _ h => h) (fun w hs => by first | exact y_nil rfl | exact y_nilf rfl) ?_
    refine c_q rfl (by first | exact hs | exact hs.subl | exact hs.cellAt rfl | trivial) (fun _ _ _ h => h) (fun w hs => by exact y_field rfl) ?_
    refine c_q rfl (by first | exact hs | exact hs.subl | exact hs.cellAt rfl | trivial) (fun _ _ _ h => h) (fun w hs => by exact y_ld hs rfl rfl) ?_
    refine c_q rfl (by first | exact hs | exact hs.subl | exact hs.cellAt rfl | trivial) (fun _ _ _ h => h) (fun w hs => by exact y_ldA (vs := [_, _, _]) hs rfl rfl rfl) ?_
    refine c_q rfl (by first | exact hs | exact hs.subl | exact hs.cellAt rfl | trivial) (fun _ _ _ h => h) (fun w hs => by exact y_lookup3 (a := kN (v, lo, hi)) (l := mp s.idx) hs rfl rfl hlk) ?_
    refine c_q rfl (by first | exact hs | exact hs.subl | exact hs.cellAt rfl | trivial) (fun _ _ _ h => h) (fun w hs => by exact y_mv_tuple rfl) ?_
    refine c_q rfl (by first | exact hs | exact hs.subl | exact hs.cellAt rfl | trivial) (fun _ _ _ h => h) (fun w hs => by exact y_extract rfl rfl) ?_
    refine c_q rfl (by first | exact hs | exact hs.subl | exact hs.cellAt rfl | trivial) (fun _ _ _ h => h) (fun w hs => by exact y_extract rfl rfl) ?_
    refine c_q rfl (by first | exact hs | exact hs.subl | exact hs.cellAt rfl | trivial) (fun _ _ _ h => h) (fun w hs => by exact y_as_int rfl) ?_
    refine c_q rfl (by first | exact hs | exact hs.subl | exact hs.cellAt rfl | trivial) (fun _ _ _ h => h) (fun w hs => by exact y_as_bool rfl) ?_
    refine c_end ?_
    refine e_then ?_
    refine s_seq ?_
    refine s_reg ?_
    refine l_q (by exact y_mv_bool rfl) ?_
    refine l_end ?_
    refine e_then ?_
    refine cond_f rfl ?_
    refine s_skip ?_
    refine e_then ?_
    refine s_seq ?_
    refine s_seq ?_
    refine s_reg ?_
    refine l_q (by exact y_mv_ptr rfl) ?_
    refine l_q (by first | exact y_nil rfl | exact y_nilf rfl) ?_
    refine l_q (by exact y_field rfl) ?_
    refine l_q (by exact y_ld hs rfl rfl) ?_
    refine l_q (by exact y_len_slice rfl) ?_
    refine l_q (by first | exact y_geq rfl rfl (decide_eq_true (by omega)) | exact y_geq rfl rfl (decide_eq_false (by omega)) | exact y_geq rfl rfl rfl) ?_
    refine l_end ?_
    refine e_then ?_
    refine cond_f rfl ?_
    refine s_skip ?_
    refine e_then ?_
    refine s_seq ?_
    refine r_draw (.q 0 (.q 1 (.q 2 (.q 3 (.q 4 (.q 5 (.w 6 (.w 7 (.q 8 (.q 9 (.w 10 (.nil)))))))))))) 10 (fun w => St W0 w [(b9, .cells [I64 v, I64 lo, I64 hi] 39), (M.b, .cells [I64 s.vars, .slice os.ad s.nodes.length os.cap, .map (some M.bi), .map (some M.bd)] 73)]) mixed (by kernel_rfl) ?_
    have hs := hs.drew
    refine c_q rfl (by first | exact hs | exact hs.subl | exact hs.cellAt rfl | trivial) (fun _ _ _ h => h) (fun w hs => by exact y_mv_ptr rfl) ?_
    refine c_q rfl (by first | exact hs | exact hs.subl | exact hs.cellAt rfl | trivial) (fun _ _ _ h => h) (fun w hs => by exact y_mv_ptr rfl) ?_
    refine c_q rfl (by first | exact hs | exact hs.subl | exact hs.cellAt rfl | trivial) (fun _ _ _ h => h) (fun w hs => by first | exact y_nil rfl | exact y_nilf rfl) ?_
    refine c_q rfl (by first | exact hs | exact hs.subl | exact hs.cellAt rfl | trivial) (fun _ _ _ h => h) (fun w hs => by exact y_field rfl) ?_
    refine c_q rfl (by first | exact hs | exact hs.subl | exact hs.cellAt rfl | trivial) (fun _ _ _ h => h) (fun w hs => by exact y_ld hs rfl rfl) ?_
    refine c_q rfl (by first | exact hs | exact hs.subl | exact hs.cellAt rfl | trivial) (fun _ _ _ h => h) (fun w hs => by exact y_ldA (vs := [_, _, _]) hs rfl rfl rfl) ?_
    refine c_w rfl (w_buildSliceV (pv := [.agg (List.toArray [_, _, _])]) (cs := [_, _, _]) hs rfl rfl rfl rfl rfl rfl (fun b45 w hs hb45 => ?_))
    refine ⟨fun _ => by first | exact hs | exact hs.subl | exact hs.cellAt rfl | trivial, ?_⟩
    refine c_w rfl (w_append (ys := [_, _, _]) [(b45, _), (b9, _), (M.b, _)] hs hok rfl rfl rfl rfl rfl rfl (.inl (by decide)) (by decide) (by omega) (fun os' w ok' hg' hs => ?_))
    simp only [List.cons_append, List.nil_append] at hs
    refine ⟨fun _ => by first | exact hs | exact hs.subl | exact hs.cellAt rfl | trivial, ?_⟩
    refine c_q rfl (by first | exact hs | exact hs.subl | exact hs.cellAt rfl | trivial) (fun _ _ _ h => h) (fun w hs => by first | exact y_nil rfl | exact y_nilf rfl) ?_
    refine c_q rfl (by first | exact hs | exact hs.subl | exact hs.cellAt rfl | trivial) (fun _ _ _ h => h) (fun w hs => by exact y_field rfl) ?_
    refine c_w rfl (w_store (v := .slice _ _ _) hs rfl rfl rfl rfl (fun w hs => ?_))
    refine ⟨fun h => absurd rfl h, ?_⟩
    refine c_end ?_
    refine e_then ?_
    refine s_seq ?_
    refine r_dr (.q 0 (.q 1 (.q 2 (.q 3 (.q 4 (.q 5 (.q 6 (.q 7 (.q 8 (.q 9 (.q 10 (.w 11 (.nil))))))))))))) 11 hs mixed (by kernel_rfl) (fun hs => ?_)
    refine c_q rfl (by first | exact hs | exact hs.subl | exact hs.cellAt rfl | trivial) (fun _ _ _ h => h) (fun w hs => by exact y_mv_ptr rfl) ?_
    refine c_q rfl (by first | exact hs | exact hs.subl | exact hs.cellAt rfl | trivial) (fun _ _ _ h => h) (fun w hs => by first | exact y_nil rfl | exact y_nilf rfl) ?_
    refine c_q rfl (by first | exact hs | exact hs.subl | exact hs.cellAt rfl | trivial) (fun _ _ _ h => h) (fun w hs => by exact y_field rfl) ?_
    refine c_q rfl (by first | exact hs | exact hs.subl | exact hs.cellAt rfl | trivial) (fun _ _ _ h => h) (fun w hs => by exact y_ld hs rfl rfl) ?_
    refine c_q rfl (by first | exact hs | exact hs.subl | exact hs.cellAt rfl | trivial) (fun _ _ _ h => h) (fun w hs => by exact y_ldA (vs := [_, _, _]) hs rfl rfl rfl) ?_
    refine c_q rfl (by first | exact hs | exact hs.subl | exact hs.cellAt rfl | trivial) (fun _ _ _ h => h) (fun w hs => by exact y_mv_ptr rfl) ?_
    refine c_q rfl (by first | exact hs | exact hs.subl | exact hs.cellAt rfl | trivial) (fun _ _ _ h => h) (fun w hs => by first | exact y_nil rfl | exact y_nilf rfl) ?_
    refine c_q rfl (by first | exact hs | exact hs.subl | exact hs.cellAt rfl | trivial) (fun _ _ _ h => h) (fun w hs => by exact y_field rfl) ?_
    refine c_q rfl (by first | exact hs | exact hs.subl | exact hs.cellAt rfl | trivial) (fun _ _ _ h => h) (fun w hs => by exact y_ld hs rfl rfl) ?_
    refine c_q rfl (by first | exact hs | exact hs.subl | exact hs.cellAt rfl | trivial) (fun _ _ _ h => h) (fun w hs => by exact y_len_slice rfl) ?_
    refine c_q rfl (by first | exact hs | exact hs.subl | exact hs.cellAt rfl | trivial) (fun _ _ _ h => h) (fun w hs => by exact y_toInt (b := ((s.nodes.length : Nat) : Int)) (y_subn rfl rfl (by omega)) (by omega)) ?_
    refine c_w rfl (w_mapUpdate3 (a := kN (v, lo, hi)) (l := mp s.idx) (u := (s.nodes.length : Nat)) hs rfl rfl rfl (fun w hs => ?_))
    refine ⟨fun h => absurd rfl h, ?_⟩
    refine c_end ?_
    refine e_then ?_
    refine s_seq ?_
    refine s_reg ?_
    refine l_q (by exact y_mv_ptr rfl) ?_
    refine l_q (by first | exact y_nil rfl | exact y_nilf rfl) ?_
    refine l_q (by exact y_field rfl) ?_
    refine l_q (by exact y_ld hs rfl rfl) ?_
    refine l_q (by exact y_len_slice rfl) ?_
    refine l_q (by exact y_toInt (b := ((s.nodes.length : Nat) : Int)) (y_subn rfl rfl (by omega)) (by omega)) ?_
    refine l_q (by exact y_as_int rfl) ?_
    refine l_end ?_
    refine e_then ?_
    refine s_ret ?_
    rw [put_mp] at hs
    have hz : (s.nodes ++ [(v, lo, hi)]).length = s.nodes.length + 1 := by simp
    refine ret_ [.int .i64 _] rfl ⟨rfl, trivial⟩ ⟨rfl, os', ?_, ?_⟩
    · dsimp only; rw [hz, flatN_append]; exact ok'
    · dsimp only [stB]; rw [hz, flatN_append]; exact hs.tail.tail
end Go.Proofs.Ytfjniocobcoepaa
