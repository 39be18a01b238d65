/- Facts on the functions and types of this seat that its laws are proved from: contracts under the premises that each theorem names. -/
import Derived.Test.YtfjniocobcoepaaGj
set_option linter.unusedSimpArgs false
set_option linter.unusedVariables false
set_option linter.unnecessarySimpa false
namespace Go.Proofs.Ytfjniocobcoepaa
open Go Go.RowKit PB
set_option linter.unusedVariables false
set_option linter.unusedSimpArgs false

/-! ### The nodes of a diagram -/
inductive Reach (s : DS) (x : Nat) : Nat → Prop
  | refl : Reach s x x
  | lo {d : Nat} : Reach s x d → 2 ≤ d → Reach s x (s.nd d).2.1
  | hi {d : Nat} : Reach s x d → 2 ≤ d → Reach s x (s.nd d).2.2
theorem Reach.trans {s : DS} {x y z : Nat} (h : Reach s x y) (h2 : Reach s y z) : Reach s x z := by
  induction h2 with
  | refl => exact h
  | lo _ h2 ih => exact .lo ih h2
  | hi _ h2 ih => exact .hi ih h2
/-- A list that holds just the nodes of x. -/
structure All (s : DS) (x : Nat) (l : List Nat) : Prop where
  nd : l.Nodup
  ge : ∀ d ∈ l, 2 ≤ d
  sound : ∀ d ∈ l, Reach s x d
  start : x < 2 ∨ x ∈ l
  closed : ∀ d ∈ l, ((s.nd d).2.1 < 2 ∨ (s.nd d).2.1 ∈ l) ∧ ((s.nd d).2.2 < 2 ∨ (s.nd d).2.2 ∈ l)
theorem All.mem {s : DS} {x : Nat} {l : List Nat} (h : All s x l) {d : Nat} (hd : Reach s x d) : d < 2 ∨ d ∈ l := by
  induction hd with
  | refl => exact h.start
  | lo _ h2 ih => exact ih.elim (fun c => by omega) (fun c => (h.closed _ c).1)
  | hi _ h2 ih => exact ih.elim (fun c => by omega) (fun c => (h.closed _ c).2)
theorem All.len {s : DS} {x : Nat} {l k : List Nat} (h : All s x l) (h2 : All s x k) : l.length = k.length := by
  refine ((List.perm_ext_iff_of_nodup h.nd h2.nd).2 fun d => ⟨fun hd => ?_, fun hd => ?_⟩).length_eq
  · exact (h2.mem (h.sound d hd)).resolve_left (by have := h.ge d hd; omega)
  · exact (h.mem (h2.sound d hd)).resolve_left (by have := h2.ge d hd; omega)
theorem nodup_len : ∀ (n : Nat) (l : List Nat), l.Nodup → (∀ a ∈ l, a < n) → l.length ≤ n
  | 0, [], _, _ => Nat.le_refl _
  | 0, a :: l, _, h => absurd (h a (List.mem_cons_self ..)) (by omega)
  | n + 1, l, hd, h => by
    by_cases c : n ∈ l
    · have h1 := nodup_len n (l.erase n) (hd.erase n) (fun a ha => by
        have := (List.Nodup.mem_erase_iff hd).1 ha
        have := h a this.2
        omega)
      rw [List.length_erase_of_mem c] at h1
      omega
    · have := nodup_len n l hd (fun a ha => by
        have := h a ha
        have : a ≠ n := fun e => c (e ▸ ha)
        omega)
      omega

/-! ### By depth -/
def dfsF (s : DS) : Nat → List Nat → Nat → List Nat
  | 0, l, _ => l
  | f + 1, l, a => if a < 2 ∨ a ∈ l then l else dfsF s f (dfsF s f (a :: l) (s.nd a).2.1) (s.nd a).2.2
structure DfsP (s : DS) (a : Nat) (l l' : List Nat) : Prop where
  sub : ∀ d ∈ l, d ∈ l'
  nd : l.Nodup → l'.Nodup
  lt : (∀ d ∈ l, d < s.nodes.length) → ∀ d ∈ l', d < s.nodes.length
  start : a < 2 ∨ a ∈ l'
  new : ∀ d ∈ l', d ∉ l → 2 ≤ d ∧ Reach s a d ∧ ((s.nd d).2.1 < 2 ∨ (s.nd d).2.1 ∈ l') ∧ ((s.nd d).2.2 < 2 ∨ (s.nd d).2.2 ∈ l')
theorem dfs_p {s : DS} (h : Ord s) : ∀ (f : Nat) (l : List Nat) (a : Nat), a < s.nodes.length → s.vars - (s.nd a).1 < f → DfsP s a l (dfsF s f l a) := by
  intro f
  induction f with
  | zero => intro l a _ hf; omega
  | succ f ih =>
    intro l a ha hf
    simp only [dfsF]
    by_cases c : a < 2 ∨ a ∈ l
    · rw [if_pos c]
      exact ⟨fun _ h => h, fun h => h, fun h => h, c, fun d h1 h2 => absurd h1 h2⟩
    · rw [if_neg c]
      have h2 : 2 ≤ a := by
        rcases Nat.lt_or_ge a 2 with q | q
        · exact absurd (.inl q) c
        · exact q
      have hnl : a ∉ l := fun q => c (.inr q)
      have o := h.ord a h2 ha
      have P1 := ih (a :: l) _ (h.lo a ha) (by omega)
      have P2 := ih (dfsF s f (a :: l) (s.nd a).2.1) _ (h.hi a ha) (by omega)
      generalize dfsF s f (a :: l) (s.nd a).2.1 = l2 at *
      generalize dfsF s f l2 (s.nd a).2.2 = l3 at *
      refine ⟨fun d hd => P2.sub d (P1.sub d (List.mem_cons_of_mem _ hd)), fun hn => P2.nd (P1.nd (List.nodup_cons.2 ⟨hnl, hn⟩)), fun hl => P2.lt (P1.lt (fun d hd => ?_)), .inr (P2.sub a (P1.sub a (List.mem_cons_self ..))), fun d hd hn => ?_⟩
      · rcases List.mem_cons.1 hd with rfl | hd
        · exact ha
        · exact hl d hd
      · by_cases e : d = a
        · subst e
          exact ⟨h2, .refl, P1.start.imp id (fun q => P2.sub _ q), P2.start⟩
        · by_cases c2 : d ∈ l2
          · obtain ⟨q1, q2, q3, q4⟩ := P1.new d c2 (fun q => (List.mem_cons.1 q).elim e hn)
            exact ⟨q1, (Reach.lo .refl h2).trans q2, q3.imp id (P2.sub _), q4.imp id (P2.sub _)⟩
          · obtain ⟨q1, q2, q3, q4⟩ := P2.new d hd c2
            exact ⟨q1, (Reach.hi .refl h2).trans q2, q3, q4⟩
theorem dfs_all {s : DS} (h : Ord s) {a : Nat} (ha : a < s.nodes.length) : All s a (dfsF s (s.vars + 1) [] a) := by
  have P := dfs_p h (s.vars + 1) [] a ha (by omega)
  exact ⟨P.nd List.nodup_nil, fun d hd => (P.new d hd (by simp)).1, fun d hd => (P.new d hd (by simp)).2.1, P.start, fun d hd => (P.new d hd (by simp)).2.2⟩

/-! ### By breadth -/
structure Bfs (s : DS) (x : Nat) (op done : List Nat) : Prop where
  nd : done.Nodup
  ge : ∀ d ∈ done, 2 ≤ d ∧ d < s.nodes.length
  olt : ∀ d ∈ op, d < s.nodes.length
  sound : ∀ d ∈ done, Reach s x d
  osound : ∀ d ∈ op, Reach s x d
  start : x < 2 ∨ x ∈ done ∨ x ∈ op
  closed : ∀ d ∈ done, ((s.nd d).2.1 < 2 ∨ (s.nd d).2.1 ∈ done ∨ (s.nd d).2.1 ∈ op) ∧ ((s.nd d).2.2 < 2 ∨ (s.nd d).2.2 ∈ done ∨ (s.nd d).2.2 ∈ op)
theorem Bfs.start' {s : DS} {x : Nat} (hx : x < s.nodes.length) : Bfs s x [x] [] :=
  ⟨List.nodup_nil, by simp, by simpa using hx, by simp, by simpa using Reach.refl, .inr (.inr (by simp)), by simp⟩
theorem Bfs.drop {s : DS} {x a : Nat} {op done : List Nat} (h : Bfs s x (a :: op) done) (ha : a < 2 ∨ a ∈ done) : Bfs s x op done := by
  have tr : ∀ y, (y < 2 ∨ y ∈ done ∨ y ∈ a :: op) → (y < 2 ∨ y ∈ done ∨ y ∈ op) := by
    intro y hy
    rcases hy with hy | hy | hy
    · exact .inl hy
    · exact .inr (.inl hy)
    · rcases List.mem_cons.1 hy with rfl | hy
      · exact ha.imp id .inl
      · exact .inr (.inr hy)
  exact ⟨h.nd, h.ge, fun d hd => h.olt d (List.mem_cons_of_mem _ hd), h.sound, fun d hd => h.osound d (List.mem_cons_of_mem _ hd), tr _ h.start, fun d hd => ⟨tr _ (h.closed d hd).1, tr _ (h.closed d hd).2⟩⟩
theorem Bfs.step {s : DS} (hw : Wf0 s) {x a : Nat} {op done : List Nat} (h : Bfs s x (a :: op) done) (h2 : 2 ≤ a) (hn : a ∉ done) : Bfs s x (op ++ [(s.nd a).2.1, (s.nd a).2.2]) (done ++ [a]) := by
  have hal := h.olt a (List.mem_cons_self ..)
  have hr := h.osound a (List.mem_cons_self ..)
  have tr : ∀ y, (y < 2 ∨ y ∈ done ∨ y ∈ a :: op) → (y < 2 ∨ y ∈ done ++ [a] ∨ y ∈ op ++ [(s.nd a).2.1, (s.nd a).2.2]) := by
    intro y hy
    rcases hy with hy | hy | hy
    · exact .inl hy
    · exact .inr (.inl (List.mem_append_left _ hy))
    · rcases List.mem_cons.1 hy with rfl | hy
      · exact .inr (.inl (by simp))
      · exact .inr (.inr (List.mem_append_left _ hy))
  refine ⟨?_, fun d hd => ?_, fun d hd => ?_, fun d hd => ?_, fun d hd => ?_, tr _ h.start, fun d hd => ?_⟩
  · rw [List.nodup_append]
    refine ⟨h.nd, by simp, fun p hp q hq => ?_⟩
    simp at hq
    subst hq
    exact fun e => hn (e ▸ hp)
  · rcases List.mem_append.1 hd with hd | hd
    · exact h.ge d hd
    · simp at hd; subst hd; exact ⟨h2, hal⟩
  · rcases List.mem_append.1 hd with hd | hd
    · exact h.olt d (List.mem_cons_of_mem _ hd)
    · simp at hd
      rcases hd with rfl | rfl
      · exact hw.lo a hal
      · exact hw.hi a hal
  · rcases List.mem_append.1 hd with hd | hd
    · exact h.sound d hd
    · simp at hd; subst hd; exact hr
  · rcases List.mem_append.1 hd with hd | hd
    · exact h.osound d (List.mem_cons_of_mem _ hd)
    · simp at hd
      rcases hd with rfl | rfl
      · exact .lo hr h2
      · exact .hi hr h2
  · rcases List.mem_append.1 hd with hd | hd
    · exact ⟨tr _ (h.closed d hd).1, tr _ (h.closed d hd).2⟩
    · simp at hd; subst hd; exact ⟨.inr (.inr (by simp)), .inr (.inr (by simp))⟩
theorem Bfs.all {s : DS} {x : Nat} {done : List Nat} (h : Bfs s x [] done) : All s x done :=
  ⟨h.nd, fun d hd => (h.ge d hd).1, h.sound, h.start.imp id (fun q => q.elim id (fun q => absurd q (by simp))), fun d hd => ⟨(h.closed d hd).1.imp id (fun q => q.elim id (fun q => absurd q (by simp))), (h.closed d hd).2.imp id (fun q => q.elim id (fun q => absurd q (by simp)))⟩⟩
theorem nd_ne {s : DS} (h : Inv s) {a b : Nat} (a2 : 2 ≤ a) (b2 : 2 ≤ b) (ha : a < s.nodes.length) (hb : b < s.nodes.length) (hne : a ≠ b) : s.nd a ≠ s.nd b := by
  intro e
  have u1 := (h.uniq (s.nd a) a).2 ⟨a2, ha, rfl⟩
  have u2 := (h.uniq (s.nd a) b).2 ⟨b2, hb, e.symm⟩
  rw [u1] at u2
  exact hne (Option.some.inj u2)
end Go.Proofs.Ytfjniocobcoepaa
