/- Facts on the functions and types of this seat that its laws are proved from: contracts under the premises that each theorem names. -/
import Derived.Test.YtfjniocobcoepaaG2
set_option linter.unusedSimpArgs false
set_option linter.unusedVariables false
set_option linter.unnecessarySimpa false
namespace Go.Proofs.Ytfjniocobcoepaa
open Go Go.RowKit PB
set_option linter.unusedVariables false
set_option linter.unusedSimpArgs false

theorem lookN_put (l : List (N3 × Nat)) (a k : N3) (v : Nat) : lookN (putN l a v) k = if k = a then some v else lookN l k := by
  induction l with
  | nil => simp [putN, lookN]
  | cons p l ih =>
    simp only [putN]
    by_cases c : a = p.1
    · rw [if_pos c]
      simp only [lookN]
      by_cases d : k = a
      · simp [d]
      · rw [if_neg d, if_neg d, if_neg (by rw [← c]; exact d)]
    · rw [if_neg c]
      simp only [lookN, ih]
      by_cases d : k = p.1
      · rw [if_pos d, if_neg (by rw [d]; exact fun e => c e.symm), if_pos d]
      · rw [if_neg d, if_neg d]

/-- A later state of a store. -/
structure Ext (s s' : DS) : Prop where
  vars : s'.vars = s.vars
  nodes : ∃ t, s'.nodes = s.nodes ++ t
theorem Ext.refl (s : DS) : Ext s s := ⟨rfl, [], by simp⟩
theorem Ext.trans {a b c : DS} (h : Ext a b) (h2 : Ext b c) : Ext a c := by
  obtain ⟨t, ht⟩ := h.nodes
  obtain ⟨u, hu⟩ := h2.nodes
  exact ⟨h2.vars.trans h.vars, t ++ u, by rw [hu, ht, List.append_assoc]⟩
theorem Ext.len {s s' : DS} (h : Ext s s') : s.nodes.length ≤ s'.nodes.length := by
  obtain ⟨t, ht⟩ := h.nodes
  rw [ht, List.length_append]; omega
theorem Ext.nd {s s' : DS} (h : Ext s s') {a : Nat} (ha : a < s.nodes.length) : s'.nd a = s.nd a := by
  obtain ⟨t, ht⟩ := h.nodes
  unfold DS.nd
  rw [ht, List.getD_eq_getElem?_getD, List.getD_eq_getElem?_getD, List.getElem?_append_left ha]

theorem node_ok {s : DS} (h : Wf0 s) {t : N3} (hv : t.1 ≤ s.vars) (hl : t.2.1 < s.nodes.length) (hh : t.2.2 < s.nodes.length) :
    Wf0 (nodeF s t).1 ∧ Ext s (nodeF s t).1 ∧ (nodeF s t).2 < (nodeF s t).1.nodes.length := by
  unfold nodeF
  split
  · exact ⟨h, Ext.refl s, hl⟩
  · split
    · rename_i i hi
      exact ⟨h, Ext.refl s, h.idx _ _ hi⟩
    · rename_i hi
      have e : Ext s { s with nodes := s.nodes ++ [t], idx := putN s.idx t s.nodes.length } := ⟨rfl, [t], rfl⟩
      have hlen : (s.nodes ++ [t]).length = s.nodes.length + 1 := by simp
      have hnd : ∀ a, a < s.nodes.length + 1 → ({ s with nodes := s.nodes ++ [t], idx := putN s.idx t s.nodes.length } : DS).nd a = if a < s.nodes.length then s.nd a else t := fun a ha => by
        by_cases c : a < s.nodes.length
        · rw [if_pos c]; exact e.nd c
        · rw [if_neg c]
          have : a = s.nodes.length := by omega
          subst this
          simp [DS.nd]
      refine ⟨⟨?_, h.vars, fun a ha => ?_, fun a ha => ?_, fun a ha => ?_, fun k n hk => ?_, fun k n hk => ?_⟩, e, by simp⟩
      · have := h.n2; simp; omega
      · simp only [hlen] at ha
        rw [hnd a ha]
        split
        · exact h.v a (by assumption)
        · exact hv
      · simp only [hlen] at ha ⊢
        rw [hnd a ha]
        split
        · have := h.lo a (by assumption); omega
        · omega
      · simp only [hlen] at ha ⊢
        rw [hnd a ha]
        split
        · have := h.hi a (by assumption); omega
        · omega
      · simp only [hlen]
        rw [lookN_put] at hk
        split at hk
        · cases hk; omega
        · have := h.idx k n hk; omega
      · simp only [hlen]
        have := h.done k n hk; omega

def topV (s : DS) (a b c : Nat) : Nat := min (min (s.nd a).1 (s.nd b).1) (s.nd c).1
def chooseF : Nat → DS → Nat → Nat → Nat → Option (DS × Nat)
  | 0, _, _, _, _ => none
  | f + 1, s, a, b, c =>
    if a = 1 ∨ b = c then some (s, b)
    else if a = 0 then some (s, c)
    else if b = 1 ∧ c = 0 then some (s, a)
    else match lookN s.done (a, b, c) with
      | some r => some (s, r)
      | none =>
        (chooseF f s (sideF s a (topV s a b c) false) (sideF s b (topV s a b c) false) (sideF s c (topV s a b c) false)).bind fun q1 =>
        (chooseF f q1.1 (sideF q1.1 a (topV s a b c) true) (sideF q1.1 b (topV s a b c) true) (sideF q1.1 c (topV s a b c) true)).bind fun q2 =>
        some ({ (nodeF q2.1 (topV s a b c, q1.2, q2.2)).1 with done := putN (nodeF q2.1 (topV s a b c, q1.2, q2.2)).1.done (a, b, c) (nodeF q2.1 (topV s a b c, q1.2, q2.2)).2 }, (nodeF q2.1 (topV s a b c, q1.2, q2.2)).2)

theorem topV_le {s : DS} (h : Wf0 s) {a b c : Nat} (ha : a < s.nodes.length) : topV s a b c ≤ s.vars := by
  have := h.v a ha
  unfold topV; omega

theorem done_ok {s : DS} (h : Wf0 s) {k : N3} {r : Nat} (hr : r < s.nodes.length) : Wf0 { s with done := putN s.done k r } :=
  ⟨h.n2, h.vars, h.v, h.lo, h.hi, h.idx, fun k' n hk => by
    rw [lookN_put] at hk
    split at hk
    · cases hk; exact hr
    · exact h.done k' n hk⟩

theorem choose_ok : ∀ (f : Nat) {s : DS} {a b c : Nat} {s' : DS} {r : Nat}, Wf0 s → a < s.nodes.length → b < s.nodes.length → c < s.nodes.length → chooseF f s a b c = some (s', r) →
    Wf0 s' ∧ Ext s s' ∧ r < s'.nodes.length := by
  intro f
  induction f with
  | zero => intro s a b c s' r _ _ _ _ h; cases h
  | succ f ih =>
    intro s a b c s' r h ha hb hc hq
    simp only [chooseF] at hq
    split at hq
    · cases hq; exact ⟨h, Ext.refl s, hb⟩
    split at hq
    · cases hq; exact ⟨h, Ext.refl s, hc⟩
    split at hq
    · cases hq; exact ⟨h, Ext.refl s, ha⟩
    split at hq
    · rename_i r' hr; cases hq; exact ⟨h, Ext.refl s, h.done _ _ hr⟩
    · rename_i hd
      generalize hv : topV s a b c = v at hq
      cases h1 : chooseF f s (sideF s a v false) (sideF s b v false) (sideF s c v false) with
      | none => rw [h1] at hq; cases hq
      | some q1 =>
        obtain ⟨s1, r1⟩ := q1
        rw [h1] at hq
        simp only [Option.bind_some] at hq
        obtain ⟨w1, e1, l1⟩ := ih h (sideF_lt h ha _) (sideF_lt h hb _) (sideF_lt h hc _) h1
        have ha1 : a < s1.nodes.length := by have := e1.len; omega
        have hb1 : b < s1.nodes.length := by have := e1.len; omega
        have hc1 : c < s1.nodes.length := by have := e1.len; omega
        cases h2 : chooseF f s1 (sideF s1 a v true) (sideF s1 b v true) (sideF s1 c v true) with
        | none => rw [h2] at hq; cases hq
        | some q2 =>
          obtain ⟨s2, r2⟩ := q2
          rw [h2] at hq
          simp only [Option.bind_some, Option.some.injEq, Prod.mk.injEq] at hq
          obtain ⟨rfl, rfl⟩ := hq
          obtain ⟨w2, e2, l2⟩ := ih w1 (sideF_lt w1 ha1 _) (sideF_lt w1 hb1 _) (sideF_lt w1 hc1 _) h2
          obtain ⟨w3, e3, l3⟩ := node_ok w2 (t := (v, r1, r2)) (by rw [e2.vars, e1.vars, ← hv]; exact topV_le h ha) (by have := e2.len; show r1 < _; omega) l2
          exact ⟨done_ok w3 l3, (e1.trans e2).trans ⟨e3.vars, e3.nodes⟩, l3⟩

theorem stB_rot {W0 w : World} {M : MB} {s : DS} {os : OS} {q : Nat × MObj} {R : List (Nat × MObj)} (h : St W0 w (q :: stB M s os R)) : St W0 w (stB M s os (q :: R)) := by
  refine h.perm ?_
  refine (List.Perm.swap _ _ _).trans (List.Perm.cons _ ?_)
  refine List.perm_middle.symm.trans (List.Perm.append_left _ ?_)
  exact (List.Perm.swap _ _ _).trans (List.Perm.cons _ (List.Perm.swap _ _ _))
theorem stB_drop {W0 w : World} {M : MB} {s : DS} {os : OS} {q : Nat × MObj} {R : List (Nat × MObj)} (h : St W0 w (stB M s os (q :: R))) : St W0 w (stB M s os R) :=
  h.sub (.cons_cons _ (.append_left (.cons_cons _ (.cons_cons _ (List.sublist_cons_self _ _))) _))
theorem stB_dropN {W0 w : World} {M : MB} {s : DS} {os : OS} {Q R : List (Nat × MObj)} (hs : R.Sublist Q) (h : St W0 w (stB M s os Q)) : St W0 w (stB M s os R) :=
  h.sub (.cons_cons _ (.append_left (.cons_cons _ (.cons_cons _ hs)) _))


theorem choose_c : ∀ (f : Nat) {W0 w : World} {R : List (Nat × MObj)} {M : MB} {s : DS} {os : OS} {a b c : Nat} {s' : DS} {r : Nat}, Wf0 s → a < s.nodes.length → b < s.nodes.length → c < s.nodes.length → chooseF f s a b c = some (s', r) →
    s'.nodes.length ≤ 60000 → os.ok (flatN s.nodes) s.nodes.length 3 → St W0 w (stB M s os R) →
    FnC Try.prog 36 [M.p, I64 a, I64 b, I64 c] w (fun u w' => u = I64 (r : Nat) ∧ ∃ os', os'.ok (flatN s'.nodes) s'.nodes.length 3 ∧ St W0 w' (stB M s' os' R)) := by
  intro f
  induction f with
  | zero => intro W0 w R M s os a b c s' r _ _ _ _ h; cases h
  | succ f ih =>
    intro W0 w R M s os a b c s' r h ha hb hc hq hn' hok hs
    have hext := (choose_ok (f + 1) h ha hb hc hq).2.1.len
    have W : Wf s := ⟨h, by omega⟩
    obtain ⟨g, hg, had⟩ := own_nd hok W
    have hn := W.n6
    haveI := inl_blk hg (flatN s.nodes) 39
    simp only [chooseF] at hq
    refine FnC.enter Try.func36 rfl Try.ntmps36 rfl fun ρ => ?_
    by_cases c1 : a = 1
    · rw [if_pos (.inl c1)] at hq
      cases hq
      refine s_seq ?_
      refine s_reg ?_
      refine l_q (by exact y_as_int rfl) ?_
      refine l_end ?_
      refine e_then ?_
      refine s_seq ?_
      refine s_block ?_
      refine s_seq ?_
      refine s_reg ?_
      refine l_q (by exact y_mv_int rfl) ?_
      refine l_q (by first | exact y_eql rfl rfl (decide_eq_true (by omega)) | exact y_eql rfl rfl (decide_eq_false (by omega)) | exact y_eql rfl rfl rfl) ?_
      refine l_q (by exact y_mv_bool rfl) ?_
      first | refine l_gskip rfl rfl ?_ | refine l_gskip_u rfl rfl ?_ | refine l_gdo rfl rfl (by exact y_mv_int rfl) ?_
      first | refine l_gskip rfl rfl ?_ | refine l_gskip_u rfl rfl ?_ | refine l_gdo rfl rfl (by exact y_mv_int rfl) ?_
      first | refine l_gskip rfl rfl ?_ | refine l_gskip_u rfl rfl ?_ | refine l_gdo rfl rfl (by first | exact y_eql rfl rfl (decide_eq_true (by omega)) | exact y_eql rfl rfl (decide_eq_false (by omega)) | exact y_eql rfl rfl rfl) ?_
      refine l_q (by first | exact y_pk_bt rfl rfl | exact y_pk_bf rfl rfl) ?_
      refine l_q (by exact y_as_bool rfl) ?_
      refine l_end ?_
      refine e_then ?_
      refine cond_t rfl ?_
      refine s_seq ?_
      refine s_reg ?_
      refine l_q (by exact y_mv_int rfl) ?_
      refine l_q (by exact y_as_int rfl) ?_
      refine l_end ?_
      refine e_then ?_
      refine s_ret ?_
      refine e_blk_r ?_
      refine e_then_r ?_
      exact ret_ [.int .i64 _] rfl ⟨rfl, trivial⟩ ⟨rfl, os, hok, hs⟩
    by_cases c2 : b = c
    · rw [if_pos (.inr c2)] at hq
      cases hq
      refine s_seq ?_
      refine s_reg ?_
      refine l_q (by exact y_as_int rfl) ?_
      refine l_end ?_
      refine e_then ?_
      refine s_seq ?_
      refine s_block ?_
      refine s_seq ?_
      refine s_reg ?_
      refine l_q (by exact y_mv_int rfl) ?_
      refine l_q (by first | exact y_eql rfl rfl (decide_eq_true (by omega)) | exact y_eql rfl rfl (decide_eq_false (by omega)) | exact y_eql rfl rfl rfl) ?_
      refine l_q (by exact y_mv_bool rfl) ?_
      first | refine l_gskip rfl rfl ?_ | refine l_gskip_u rfl rfl ?_ | refine l_gdo rfl rfl (by exact y_mv_int rfl) ?_
      first | refine l_gskip rfl rfl ?_ | refine l_gskip_u rfl rfl ?_ | refine l_gdo rfl rfl (by exact y_mv_int rfl) ?_
      first | refine l_gskip rfl rfl ?_ | refine l_gskip_u rfl rfl ?_ | refine l_gdo rfl rfl (by first | exact y_eql rfl rfl (decide_eq_true (by omega)) | exact y_eql rfl rfl (decide_eq_false (by omega)) | exact y_eql rfl rfl rfl) ?_
      refine l_q (by first | exact y_pk_bt rfl rfl | exact y_pk_bf rfl rfl) ?_
      refine l_q (by exact y_as_bool rfl) ?_
      refine l_end ?_
      refine e_then ?_
      refine cond_t rfl ?_
      refine s_seq ?_
      refine s_reg ?_
      refine l_q (by exact y_mv_int rfl) ?_
      refine l_q (by exact y_as_int rfl) ?_
      refine l_end ?_
      refine e_then ?_
      refine s_ret ?_
      refine e_blk_r ?_
      refine e_then_r ?_
      exact ret_ [.int .i64 _] rfl ⟨rfl, trivial⟩ ⟨rfl, os, hok, hs⟩
    rw [if_neg (by omega)] at hq
    by_cases c3 : a = 0
    · rw [if_pos c3] at hq
      cases hq
      refine s_seq ?_
      refine s_reg ?_
      refine l_q (by exact y_as_int rfl) ?_
      refine l_end ?_
      refine e_then ?_
      refine s_seq ?_
      refine s_block ?_
      refine s_seq ?_
      refine s_reg ?_
      refine l_q (by exact y_mv_int rfl) ?_
      refine l_q (by first | exact y_eql rfl rfl (decide_eq_true (by omega)) | exact y_eql rfl rfl (decide_eq_false (by omega)) | exact y_eql rfl rfl rfl) ?_
      refine l_q (by exact y_mv_bool rfl) ?_
      first | refine l_gskip rfl rfl ?_ | refine l_gskip_u rfl rfl ?_ | refine l_gdo rfl rfl (by exact y_mv_int rfl) ?_
      first | refine l_gskip rfl rfl ?_ | refine l_gskip_u rfl rfl ?_ | refine l_gdo rfl rfl (by exact y_mv_int rfl) ?_
      first | refine l_gskip rfl rfl ?_ | refine l_gskip_u rfl rfl ?_ | refine l_gdo rfl rfl (by first | exact y_eql rfl rfl (decide_eq_true (by omega)) | exact y_eql rfl rfl (decide_eq_false (by omega)) | exact y_eql rfl rfl rfl) ?_
      refine l_q (by first | exact y_pk_bt rfl rfl | exact y_pk_bf rfl rfl) ?_
      refine l_q (by exact y_as_bool rfl) ?_
      refine l_end ?_
      refine e_then ?_
      refine cond_f rfl ?_
      refine s_seq ?_
      refine s_reg ?_
      refine l_q (by exact y_mv_int rfl) ?_
      refine l_q (by first | exact y_eql rfl rfl (decide_eq_true (by omega)) | exact y_eql rfl rfl (decide_eq_false (by omega)) | exact y_eql rfl rfl rfl) ?_
      refine l_q (by exact y_as_bool rfl) ?_
      refine l_end ?_
      refine e_then ?_
      refine cond_t rfl ?_
      refine s_seq ?_
      refine s_reg ?_
      refine l_q (by exact y_mv_int rfl) ?_
      refine l_q (by exact y_as_int rfl) ?_
      refine l_end ?_
      refine e_then ?_
      refine s_ret ?_
      refine e_blk_r ?_
      refine e_then_r ?_
      exact ret_ [.int .i64 _] rfl ⟨rfl, trivial⟩ ⟨rfl, os, hok, hs⟩
    rw [if_neg c3] at hq
    by_cases c4 : b = 1 ∧ c = 0
    · rw [if_pos c4] at hq
      cases hq
      obtain ⟨c5, c6⟩ := c4
      refine s_seq ?_
      refine s_reg ?_
      refine l_q (by exact y_as_int rfl) ?_
      refine l_end ?_
      refine e_then ?_
      refine s_seq ?_
      refine s_block ?_
      refine s_seq ?_
      refine s_reg ?_
      refine l_q (by exact y_mv_int rfl) ?_
      refine l_q (by first | exact y_eql rfl rfl (decide_eq_true (by omega)) | exact y_eql rfl rfl (decide_eq_false (by omega)) | exact y_eql rfl rfl rfl) ?_
      refine l_q (by exact y_mv_bool rfl) ?_
      first | refine l_gskip rfl rfl ?_ | refine l_gskip_u rfl rfl ?_ | refine l_gdo rfl rfl (by exact y_mv_int rfl) ?_
      first | refine l_gskip rfl rfl ?_ | refine l_gskip_u rfl rfl ?_ | refine l_gdo rfl rfl (by exact y_mv_int rfl) ?_
      first | refine l_gskip rfl rfl ?_ | refine l_gskip_u rfl rfl ?_ | refine l_gdo rfl rfl (by first | exact y_eql rfl rfl (decide_eq_true (by omega)) | exact y_eql rfl rfl (decide_eq_false (by omega)) | exact y_eql rfl rfl rfl) ?_
      refine l_q (by first | exact y_pk_bt rfl rfl | exact y_pk_bf rfl rfl) ?_
      refine l_q (by exact y_as_bool rfl) ?_
      refine l_end ?_
      refine e_then ?_
      refine cond_f rfl ?_
      refine s_seq ?_
      refine s_reg ?_
      refine l_q (by exact y_mv_int rfl) ?_
      refine l_q (by first | exact y_eql rfl rfl (decide_eq_true (by omega)) | exact y_eql rfl rfl (decide_eq_false (by omega)) | exact y_eql rfl rfl rfl) ?_
      refine l_q (by exact y_as_bool rfl) ?_
      refine l_end ?_
      refine e_then ?_
      refine cond_f rfl ?_
      refine s_seq ?_
      refine s_reg ?_
      refine l_q (by exact y_mv_int rfl) ?_
      refine l_q (by first | exact y_eql rfl rfl (decide_eq_true (by omega)) | exact y_eql rfl rfl (decide_eq_false (by omega)) | exact y_eql rfl rfl rfl) ?_
      refine l_q (by exact y_mv_bool rfl) ?_
      first | refine l_gskip rfl rfl ?_ | refine l_gskip_u rfl rfl ?_ | refine l_gdo rfl rfl (by exact y_mv_int rfl) ?_
      first | refine l_gskip rfl rfl ?_ | refine l_gskip_u rfl rfl ?_ | refine l_gdo rfl rfl (by first | exact y_eql rfl rfl (decide_eq_true (by omega)) | exact y_eql rfl rfl (decide_eq_false (by omega)) | exact y_eql rfl rfl rfl) ?_
      refine l_q (by first | exact y_pk_bt rfl rfl | exact y_pk_bf rfl rfl) ?_
      refine l_q (by exact y_as_bool rfl) ?_
      refine l_end ?_
      refine e_then ?_
      refine cond_t rfl ?_
      refine s_seq ?_
      refine s_reg ?_
      refine l_q (by exact y_mv_int rfl) ?_
      refine l_q (by exact y_as_int rfl) ?_
      refine l_end ?_
      refine e_then ?_
      refine s_ret ?_
      refine e_blk_r ?_
      refine e_then_r ?_
      exact ret_ [.int .i64 _] rfl ⟨rfl, trivial⟩ ⟨rfl, os, hok, hs⟩
    rw [if_neg c4] at hq
    cases hl : lookN s.done (a, b, c) with
    | some r' =>
      rw [hl] at hq
      cases hq
      have hlk : Value.tuple #[I64 r, .bool true] = .tuple #[I64 ((lookF (mp s.done) (kN (a, b, c))).getD 0), .bool (lookF (mp s.done) (kN (a, b, c))).isSome] := by rw [look_mp, hl]; rfl
      by_cases c5 : b = 1
      · have c6 : c ≠ 0 := fun e => c4 ⟨c5, e⟩
        refine s_seq ?_
        refine s_reg ?_
        refine l_q (by exact y_as_int rfl) ?_
        refine l_end ?_
        refine e_then ?_
        refine s_seq ?_
        refine s_block ?_
        refine s_seq ?_
        refine s_reg ?_
        refine l_q (by exact y_mv_int rfl) ?_
        refine l_q (by first | exact y_eql rfl rfl (decide_eq_true (by omega)) | exact y_eql rfl rfl (decide_eq_false (by omega)) | exact y_eql rfl rfl rfl) ?_
        refine l_q (by exact y_mv_bool rfl) ?_
        first | refine l_gskip rfl rfl ?_ | refine l_gskip_u rfl rfl ?_ | refine l_gdo rfl rfl (by exact y_mv_int rfl) ?_
        first | refine l_gskip rfl rfl ?_ | refine l_gskip_u rfl rfl ?_ | refine l_gdo rfl rfl (by exact y_mv_int rfl) ?_
        first | refine l_gskip rfl rfl ?_ | refine l_gskip_u rfl rfl ?_ | refine l_gdo rfl rfl (by first | exact y_eql rfl rfl (decide_eq_true (by omega)) | exact y_eql rfl rfl (decide_eq_false (by omega)) | exact y_eql rfl rfl rfl) ?_
        refine l_q (by first | exact y_pk_bt rfl rfl | exact y_pk_bf rfl rfl) ?_
        refine l_q (by exact y_as_bool rfl) ?_
        refine l_end ?_
        refine e_then ?_
        refine cond_f rfl ?_
        refine s_seq ?_
        refine s_reg ?_
        refine l_q (by exact y_mv_int rfl) ?_
        refine l_q (by first | exact y_eql rfl rfl (decide_eq_true (by omega)) | exact y_eql rfl rfl (decide_eq_false (by omega)) | exact y_eql rfl rfl rfl) ?_
        refine l_q (by exact y_as_bool rfl) ?_
        refine l_end ?_
        refine e_then ?_
        refine cond_f rfl ?_
        refine s_seq ?_
        refine s_reg ?_
        refine l_q (by exact y_mv_int rfl) ?_
        refine l_q (by first | exact y_eql rfl rfl (decide_eq_true (by omega)) | exact y_eql rfl rfl (decide_eq_false (by omega)) | exact y_eql rfl rfl rfl) ?_
        refine l_q (by exact y_mv_bool rfl) ?_
        first | refine l_gskip rfl rfl ?_ | refine l_gskip_u rfl rfl ?_ | refine l_gdo rfl rfl (by exact y_mv_int rfl) ?_
        first | refine l_gskip rfl rfl ?_ | refine l_gskip_u rfl rfl ?_ | refine l_gdo rfl rfl (by first | exact y_eql rfl rfl (decide_eq_true (by omega)) | exact y_eql rfl rfl (decide_eq_false (by omega)) | exact y_eql rfl rfl rfl) ?_
        refine l_q (by first | exact y_pk_bt rfl rfl | exact y_pk_bf rfl rfl) ?_
        refine l_q (by exact y_as_bool rfl) ?_
        refine l_end ?_
        refine e_then ?_
        refine cond_f rfl ?_
        refine s_skip ?_
        refine e_blk ?_
        refine e_then ?_
        refine s_seq ?_
        refine s_reg ?_
        refine l_q (by exact y_mv_int rfl) ?_
        refine l_q (by exact y_mv_int rfl) ?_
        refine l_q (by exact y_mv_int rfl) ?_
        refine l_q (by exact y_buildArr (pv := [(0, .int .i64 _), (1, .int .i64 _), (2, .int .i64 _)]) (vs := [_, _, _]) rfl rfl) ?_
        refine l_w (w_alloc (cs := [_, _, _]) hs rfl (fun b9 w hs hb9 => ?_))
        refine l_w (w_storeA (vs := [I64 a, I64 b, I64 c]) hs rfl rfl rfl rfl rfl (fun w hs => ?_))
        replace hs := stB_rot (show St W0 w ((b9, .cells [I64 a, I64 b, I64 c] 100) :: stB M s os R) from hs)
        refine l_end ?_
        refine e_then ?_
        refine s_seq ?_
        refine s_seq ?_
        refine r_dr (.q 0 (.q 1 (.q 2 (.q 3 (.q 4 (.q 5 (.q 6 (.q 7 (.q 8 (.q 9 (.q 10 (.nil)))))))))))) 10 hs mixed (by kernel_rfl) (fun hs => ?_)
        refine c_q rfl (by first | exact hs | exact hs.subl | exact hs.cellAt rfl | trivial) (fun _ _ _ h => h) (fun w hs => by exact y_mv_ptr rfl) ?_
        refine c_q rfl (by first | exact hs | exact hs.subl | exact hs.cellAt rfl | trivial) (fun _ _ _ h => h) (fun w hs => by first | exact y_nil rfl | exact y_nilf rfl) ?_
        refine c_q rfl (by first | exact hs | exact hs.subl | exact hs.cellAt rfl | trivial) (fun _ _ _ h => h) (fun w hs => by exact y_field rfl) ?_
        refine c_q rfl (by first | exact hs | exact hs.subl | exact hs.cellAt rfl | trivial) (fun _ _ _ h => h) (fun w hs => by exact y_ld hs rfl rfl) ?_
        refine c_q rfl (by first | exact hs | exact hs.subl | exact hs.cellAt rfl | trivial) (fun _ _ _ h => h) (fun w hs => by exact y_ldA (vs := [_, _, _]) hs rfl rfl rfl) ?_
        refine c_q rfl (by first | exact hs | exact hs.subl | exact hs.cellAt rfl | trivial) (fun _ _ _ h => h) (fun w hs => by exact y_lookup3 (a := kN (a, b, c)) (l := mp s.done) hs rfl rfl hlk) ?_
        refine c_q rfl (by first | exact hs | exact hs.subl | exact hs.cellAt rfl | trivial) (fun _ _ _ h => h) (fun w hs => by exact y_mv_tuple rfl) ?_
        refine c_q rfl (by first | exact hs | exact hs.subl | exact hs.cellAt rfl | trivial) (fun _ _ _ h => h) (fun w hs => by exact y_extract rfl rfl) ?_
        refine c_q rfl (by first | exact hs | exact hs.subl | exact hs.cellAt rfl | trivial) (fun _ _ _ h => h) (fun w hs => by exact y_extract rfl rfl) ?_
        refine c_q rfl (by first | exact hs | exact hs.subl | exact hs.cellAt rfl | trivial) (fun _ _ _ h => h) (fun w hs => by exact y_as_int rfl) ?_
        refine c_q rfl (by first | exact hs | exact hs.subl | exact hs.cellAt rfl | trivial) (fun _ _ _ h => h) (fun w hs => by exact y_as_bool rfl) ?_
        refine c_end ?_
        refine e_then ?_
        refine s_seq ?_
        refine s_reg ?_
        refine l_q (by exact y_mv_bool rfl) ?_
        refine l_end ?_
        refine e_then ?_
        refine cond_t rfl ?_
        refine s_seq ?_
        refine s_reg ?_
        refine l_q (by exact y_mv_int rfl) ?_
        refine l_q (by exact y_as_int rfl) ?_
        refine l_end ?_
        refine e_then ?_
        refine s_ret ?_
        refine e_then_r ?_
        exact ret_ [.int .i64 _] rfl ⟨rfl, trivial⟩ ⟨rfl, os, hok, stB_drop hs⟩
      · refine s_seq ?_
        refine s_reg ?_
        refine l_q (by exact y_as_int rfl) ?_
        refine l_end ?_
        refine e_then ?_
        refine s_seq ?_
        refine s_block ?_
        refine s_seq ?_
        refine s_reg ?_
        refine l_q (by exact y_mv_int rfl) ?_
        refine l_q (by first | exact y_eql rfl rfl (decide_eq_true (by omega)) | exact y_eql rfl rfl (decide_eq_false (by omega)) | exact y_eql rfl rfl rfl) ?_
        refine l_q (by exact y_mv_bool rfl) ?_
        first | refine l_gskip rfl rfl ?_ | refine l_gskip_u rfl rfl ?_ | refine l_gdo rfl rfl (by exact y_mv_int rfl) ?_
        first | refine l_gskip rfl rfl ?_ | refine l_gskip_u rfl rfl ?_ | refine l_gdo rfl rfl (by exact y_mv_int rfl) ?_
        first | refine l_gskip rfl rfl ?_ | refine l_gskip_u rfl rfl ?_ | refine l_gdo rfl rfl (by first | exact y_eql rfl rfl (decide_eq_true (by omega)) | exact y_eql rfl rfl (decide_eq_false (by omega)) | exact y_eql rfl rfl rfl) ?_
        refine l_q (by first | exact y_pk_bt rfl rfl | exact y_pk_bf rfl rfl) ?_
        refine l_q (by exact y_as_bool rfl) ?_
        refine l_end ?_
        refine e_then ?_
        refine cond_f rfl ?_
        refine s_seq ?_
        refine s_reg ?_
        refine l_q (by exact y_mv_int rfl) ?_
        refine l_q (by first | exact y_eql rfl rfl (decide_eq_true (by omega)) | exact y_eql rfl rfl (decide_eq_false (by omega)) | exact y_eql rfl rfl rfl) ?_
        refine l_q (by exact y_as_bool rfl) ?_
        refine l_end ?_
        refine e_then ?_
        refine cond_f rfl ?_
        refine s_seq ?_
        refine s_reg ?_
        refine l_q (by exact y_mv_int rfl) ?_
        refine l_q (by first | exact y_eql rfl rfl (decide_eq_true (by omega)) | exact y_eql rfl rfl (decide_eq_false (by omega)) | exact y_eql rfl rfl rfl) ?_
        refine l_q (by exact y_mv_bool rfl) ?_
        first | refine l_gskip rfl rfl ?_ | refine l_gskip_u rfl rfl ?_ | refine l_gdo rfl rfl (by exact y_mv_int rfl) ?_
        first | refine l_gskip rfl rfl ?_ | refine l_gskip_u rfl rfl ?_ | refine l_gdo rfl rfl (by first | exact y_eql rfl rfl (decide_eq_true (by omega)) | exact y_eql rfl rfl (decide_eq_false (by omega)) | exact y_eql rfl rfl rfl) ?_
        refine l_q (by first | exact y_pk_bt rfl rfl | exact y_pk_bf rfl rfl) ?_
        refine l_q (by exact y_as_bool rfl) ?_
        refine l_end ?_
        refine e_then ?_
        refine cond_f rfl ?_
        refine s_skip ?_
        refine e_blk ?_
        refine e_then ?_
        refine s_seq ?_
        refine s_reg ?_
        refine l_q (by exact y_mv_int rfl) ?_
        refine l_q (by exact y_mv_int rfl) ?_
        refine l_q (by exact y_mv_int rfl) ?_
        refine l_q (by exact y_buildArr (pv := [(0, .int .i64 _), (1, .int .i64 _), (2, .int .i64 _)]) (vs := [_, _, _]) rfl rfl) ?_
        refine l_w (w_alloc (cs := [_, _, _]) hs rfl (fun b9 w hs hb9 => ?_))
        refine l_w (w_storeA (vs := [I64 a, I64 b, I64 c]) hs rfl rfl rfl rfl rfl (fun w hs => ?_))
        replace hs := stB_rot (show St W0 w ((b9, .cells [I64 a, I64 b, I64 c] 100) :: stB M s os R) from hs)
        refine l_end ?_
        refine e_then ?_
        refine s_seq ?_
        refine s_seq ?_
        refine r_dr (.q 0 (.q 1 (.q 2 (.q 3 (.q 4 (.q 5 (.q 6 (.q 7 (.q 8 (.q 9 (.q 10 (.nil)))))))))))) 10 hs mixed (by kernel_rfl) (fun hs => ?_)
        refine c_q rfl (by first | exact hs | exact hs.subl | exact hs.cellAt rfl | trivial) (fun _ _ _ h => h) (fun w hs => by exact y_mv_ptr rfl) ?_
        refine c_q rfl (by first | exact hs | exact hs.subl | exact hs.cellAt rfl | trivial) (fun _ _ _ h => h) (fun w hs => by first | exact y_nil rfl | exact y_nilf rfl) ?_
        refine c_q rfl (by first | exact hs | exact hs.subl | exact hs.cellAt rfl | trivial) (fun _ _ _ h => h) (fun w hs => by exact y_field rfl) ?_
        refine c_q rfl (by first | exact hs | exact hs.subl | exact hs.cellAt rfl | trivial) (fun _ _ _ h => h) (fun w hs => by exact y_ld hs rfl rfl) ?_
        refine c_q rfl (by first | exact hs | exact hs.subl | exact hs.cellAt rfl | trivial) (fun _ _ _ h => h) (fun w hs => by exact y_ldA (vs := [_, _, _]) hs rfl rfl rfl) ?_
        refine c_q rfl (by first | exact hs | exact hs.subl | exact hs.cellAt rfl | trivial) (fun _ _ _ h => h) (fun w hs => by exact y_lookup3 (a := kN (a, b, c)) (l := mp s.done) hs rfl rfl hlk) ?_
        refine c_q rfl (by first | exact hs | exact hs.subl | exact hs.cellAt rfl | trivial) (fun _ _ _ h => h) (fun w hs => by exact y_mv_tuple rfl) ?_
        refine c_q rfl (by first | exact hs | exact hs.subl | exact hs.cellAt rfl | trivial) (fun _ _ _ h => h) (fun w hs => by exact y_extract rfl rfl) ?_
        refine c_q rfl (by first | exact hs | exact hs.subl | exact hs.cellAt rfl | trivial) (fun _ _ _ h => h) (fun w hs => by exact y_extract rfl rfl) ?_
        refine c_q rfl (by first | exact hs | exact hs.subl | exact hs.cellAt rfl | trivial) (fun _ _ _ h => h) (fun w hs => by exact y_as_int rfl) ?_
        refine c_q rfl (by first | exact hs | exact hs.subl | exact hs.cellAt rfl | trivial) (fun _ _ _ h => h) (fun w hs => by exact y_as_bool rfl) ?_
        refine c_end ?_
        refine e_then ?_
        refine s_seq ?_
        refine s_reg ?_
        refine l_q (by exact y_mv_bool rfl) ?_
        refine l_end ?_
        refine e_then ?_
        refine cond_t rfl ?_
        refine s_seq ?_
        refine s_reg ?_
        refine l_q (by exact y_mv_int rfl) ?_
        refine l_q (by exact y_as_int rfl) ?_
        refine l_end ?_
        refine e_then ?_
        refine s_ret ?_
        refine e_then_r ?_
        exact ret_ [.int .i64 _] rfl ⟨rfl, trivial⟩ ⟨rfl, os, hok, stB_drop hs⟩
    | none =>
      rw [hl] at hq
      have hlk : Value.tuple #[I64 0, .bool false] = .tuple #[I64 ((lookF (mp s.done) (kN (a, b, c))).getD 0), .bool (lookF (mp s.done) (kN (a, b, c))).isSome] := by rw [look_mp, hl]; rfl
      have hmin : I64 ((topV s a b c : Nat) : Int) = I64 (if ((s.nd c).1 : Int) < (if ((s.nd b).1 : Int) < ((s.nd a).1 : Nat) then ((s.nd b).1 : Int) else ((s.nd a).1 : Nat)) then ((s.nd c).1 : Int) else (if ((s.nd b).1 : Int) < ((s.nd a).1 : Nat) then ((s.nd b).1 : Int) else ((s.nd a).1 : Nat))) := by
        have : ((topV s a b c : Nat) : Int) = (if ((s.nd c).1 : Int) < (if ((s.nd b).1 : Int) < ((s.nd a).1 : Nat) then ((s.nd b).1 : Int) else ((s.nd a).1 : Nat)) then ((s.nd c).1 : Int) else (if ((s.nd b).1 : Int) < ((s.nd a).1 : Nat) then ((s.nd b).1 : Int) else ((s.nd a).1 : Nat))) := by
          unfold topV; split <;> split <;> omega
        exact congrArg _ this
      have hvle := topV_le h (b := b) (c := c) ha
      generalize hv : topV s a b c = v at *
      simp only at hq
      cases h1 : chooseF f s (sideF s a v false) (sideF s b v false) (sideF s c v false) with
      | none => rw [h1] at hq; cases hq
      | some q1 =>
        obtain ⟨s1, r1⟩ := q1
        rw [h1] at hq
        simp only [Option.bind_some] at hq
        obtain ⟨w1, e1, l1⟩ := choose_ok f h (sideF_lt h ha _) (sideF_lt h hb _) (sideF_lt h hc _) h1
        have ha1 : a < s1.nodes.length := by have := e1.len; omega
        have hb1 : b < s1.nodes.length := by have := e1.len; omega
        have hc1 : c < s1.nodes.length := by have := e1.len; omega
        cases h2 : chooseF f s1 (sideF s1 a v true) (sideF s1 b v true) (sideF s1 c v true) with
        | none => rw [h2] at hq; cases hq
        | some q2 =>
          obtain ⟨s2, r2⟩ := q2
          rw [h2] at hq
          simp only [Option.bind_some, Option.some.injEq, Prod.mk.injEq] at hq
          obtain ⟨rfl, rfl⟩ := hq
          obtain ⟨w2, e2, l2⟩ := choose_ok f w1 (sideF_lt w1 ha1 _) (sideF_lt w1 hb1 _) (sideF_lt w1 hc1 _) h2
          obtain ⟨w3, e3, l3⟩ := node_ok w2 (t := (v, r1, r2)) (by rw [e2.vars, e1.vars]; exact hvle) (by have := e2.len; show r1 < _; omega) l2
          have hn3 : (nodeF s2 (v, r1, r2)).1.nodes.length ≤ 60000 := hn'
          have hn2 : s2.nodes.length ≤ 60000 := by have := e3.len; omega
          have hn1 : s1.nodes.length ≤ 60000 := by have := e2.len; omega
          have W1 : Wf s1 := ⟨w1, hn1⟩
          have W2 : Wf s2 := ⟨w2, hn2⟩
          by_cases c5 : b = 1
          · have c6 : c ≠ 0 := fun e => c4 ⟨c5, e⟩
            refine s_seq ?_
            refine s_reg ?_
            refine l_q (by exact y_as_int rfl) ?_
            refine l_end ?_
            refine e_then ?_
            refine s_seq ?_
            refine s_block ?_
            refine s_seq ?_
            refine s_reg ?_
            refine l_q (by exact y_mv_int rfl) ?_
            refine l_q (by first | exact y_eql rfl rfl (decide_eq_true (by omega)) | exact y_eql rfl rfl (decide_eq_false (by omega)) | exact y_eql rfl rfl rfl) ?_
            refine l_q (by exact y_mv_bool rfl) ?_
            first | refine l_gskip rfl rfl ?_ | refine l_gskip_u rfl rfl ?_ | refine l_gdo rfl rfl (by exact y_mv_int rfl) ?_
            first | refine l_gskip rfl rfl ?_ | refine l_gskip_u rfl rfl ?_ | refine l_gdo rfl rfl (by exact y_mv_int rfl) ?_
            first | refine l_gskip rfl rfl ?_ | refine l_gskip_u rfl rfl ?_ | refine l_gdo rfl rfl (by first | exact y_eql rfl rfl (decide_eq_true (by omega)) | exact y_eql rfl rfl (decide_eq_false (by omega)) | exact y_eql rfl rfl rfl) ?_
            refine l_q (by first | exact y_pk_bt rfl rfl | exact y_pk_bf rfl rfl) ?_
            refine l_q (by exact y_as_bool rfl) ?_
            refine l_end ?_
            refine e_then ?_
            refine cond_f rfl ?_
            refine s_seq ?_
            refine s_reg ?_
            refine l_q (by exact y_mv_int rfl) ?_
            refine l_q (by first | exact y_eql rfl rfl (decide_eq_true (by omega)) | exact y_eql rfl rfl (decide_eq_false (by omega)) | exact y_eql rfl rfl rfl) ?_
            refine l_q (by exact y_as_bool rfl) ?_
            refine l_end ?_
            refine e_then ?_
            refine cond_f rfl ?_
            refine s_seq ?_
            refine s_reg ?_
            refine l_q (by exact y_mv_int rfl) ?_
            refine l_q (by first | exact y_eql rfl rfl (decide_eq_true (by omega)) | exact y_eql rfl rfl (decide_eq_false (by omega)) | exact y_eql rfl rfl rfl) ?_
            refine l_q (by exact y_mv_bool rfl) ?_
            first | refine l_gskip rfl rfl ?_ | refine l_gskip_u rfl rfl ?_ | refine l_gdo rfl rfl (by exact y_mv_int rfl) ?_
            first | refine l_gskip rfl rfl ?_ | refine l_gskip_u rfl rfl ?_ | refine l_gdo rfl rfl (by first | exact y_eql rfl rfl (decide_eq_true (by omega)) | exact y_eql rfl rfl (decide_eq_false (by omega)) | exact y_eql rfl rfl rfl) ?_
            refine l_q (by first | exact y_pk_bt rfl rfl | exact y_pk_bf rfl rfl) ?_
            refine l_q (by exact y_as_bool rfl) ?_
            refine l_end ?_
            refine e_then ?_
            refine cond_f rfl ?_
            refine s_skip ?_
            refine e_blk ?_
            refine e_then ?_
            refine s_seq ?_
            refine s_reg ?_
            refine l_q (by exact y_mv_int rfl) ?_
            refine l_q (by exact y_mv_int rfl) ?_
            refine l_q (by exact y_mv_int rfl) ?_
            refine l_q (by exact y_buildArr (pv := [(0, .int .i64 _), (1, .int .i64 _), (2, .int .i64 _)]) (vs := [_, _, _]) rfl rfl) ?_
            refine l_w (w_alloc (cs := [_, _, _]) hs rfl (fun b9 w hs hb9 => ?_))
            refine l_w (w_storeA (vs := [I64 a, I64 b, I64 c]) hs rfl rfl rfl rfl rfl (fun w hs => ?_))
            replace hs := stB_rot (show St W0 w ((b9, .cells [I64 a, I64 b, I64 c] 100) :: stB M s os R) from hs)
            refine l_end ?_
            refine e_then ?_
            refine s_seq ?_
            refine s_seq ?_
            refine r_dr (.q 0 (.q 1 (.q 2 (.q 3 (.q 4 (.q 5 (.q 6 (.q 7 (.q 8 (.q 9 (.q 10 (.nil)))))))))))) 10 hs mixed (by kernel_rfl) (fun hs => ?_)
            refine c_q rfl (by first | exact hs | exact hs.subl | exact hs.cellAt rfl | trivial) (fun _ _ _ h => h) (fun w hs => by exact y_mv_ptr rfl) ?_
            refine c_q rfl (by first | exact hs | exact hs.subl | exact hs.cellAt rfl | trivial) (fun _ _ _ h => h) (fun w hs => by first | exact y_nil rfl | exact y_nilf rfl) ?_
            refine c_q rfl (by first | exact hs | exact hs.subl | exact hs.cellAt rfl | trivial) (fun _ _ _ h => h) (fun w hs => by exact y_field rfl) ?_
            refine c_q rfl (by first | exact hs | exact hs.subl | exact hs.cellAt rfl | trivial) (fun _ _ _ h => h) (fun w hs => by exact y_ld hs rfl rfl) ?_
            refine c_q rfl (by first | exact hs | exact hs.subl | exact hs.cellAt rfl | trivial) (fun _ _ _ h => h) (fun w hs => by exact y_ldA (vs := [_, _, _]) hs rfl rfl rfl) ?_
            refine c_q rfl (by first | exact hs | exact hs.subl | exact hs.cellAt rfl | trivial) (fun _ _ _ h => h) (fun w hs => by exact y_lookup3 (a := kN (a, b, c)) (l := mp s.done) hs rfl rfl hlk) ?_
            refine c_q rfl (by first | exact hs | exact hs.subl | exact hs.cellAt rfl | trivial) (fun _ _ _ h => h) (fun w hs => by exact y_mv_tuple rfl) ?_
            refine c_q rfl (by first | exact hs | exact hs.subl | exact hs.cellAt rfl | trivial) (fun _ _ _ h => h) (fun w hs => by exact y_extract rfl rfl) ?_
            refine c_q rfl (by first | exact hs | exact hs.subl | exact hs.cellAt rfl | trivial) (fun _ _ _ h => h) (fun w hs => by exact y_extract rfl rfl) ?_
            refine c_q rfl (by first | exact hs | exact hs.subl | exact hs.cellAt rfl | trivial) (fun _ _ _ h => h) (fun w hs => by exact y_as_int rfl) ?_
            refine c_q rfl (by first | exact hs | exact hs.subl | exact hs.cellAt rfl | trivial) (fun _ _ _ h => h) (fun w hs => by exact y_as_bool rfl) ?_
            refine c_end ?_
            refine e_then ?_
            refine s_seq ?_
            refine s_reg ?_
            refine l_q (by exact y_mv_bool rfl) ?_
            refine l_end ?_
            refine e_then ?_
            refine cond_f rfl ?_
            refine s_skip ?_
            refine e_then ?_
            refine s_seq ?_
            refine r_dr (.q 0 (.q 1 (.q 2 (.q 3 (.q 4 (.q 5 (.q 6 (.q 7 (.q 8 (.q 9 (.q 10 (.q 11 (.q 12 (.q 13 (.q 14 (.q 15 (.q 16 (.q 17 (.q 18 (.q 19 (.q 20 (.q 21 (.q 22 (.q 23 (.q 24 (.q 25 (.nil))))))))))))))))))))))))))) 25 hs mixed (by kernel_rfl) (fun hs => ?_)
            refine c_q rfl (by first | exact hs | exact hs.subl | exact hs.cellAt rfl | trivial) (fun _ _ _ h => h) (fun w hs => by exact y_mv_ptr rfl) ?_
            refine c_q rfl (by first | exact hs | exact hs.subl | exact hs.cellAt rfl | trivial) (fun _ _ _ h => h) (fun w hs => by first | exact y_nil rfl | exact y_nilf rfl) ?_
            refine c_q rfl (by first | exact hs | exact hs.subl | exact hs.cellAt rfl | trivial) (fun _ _ _ h => h) (fun w hs => by exact y_field rfl) ?_
            refine c_q rfl (by first | exact hs | exact hs.subl | exact hs.cellAt rfl | trivial) (fun _ _ _ h => h) (fun w hs => by exact y_ld hs rfl rfl) ?_
            refine c_q rfl (by first | exact hs | exact hs.subl | exact hs.cellAt rfl | trivial) (fun _ _ _ h => h) (fun w hs => by exact y_mv_int rfl) ?_
            refine c_q rfl (by first | exact hs | exact hs.subl | exact hs.cellAt rfl | trivial) (fun _ _ _ h => h) (fun w hs => by exact y_indexT (off := 3 * a) rfl rfl (by omega) (by omega) had (by omega)) ?_
            refine c_q rfl (by first | exact hs | exact hs.subl | exact hs.cellAt rfl | trivial) (fun _ _ _ h => h) (fun w hs => by exact y_field rfl) ?_
            refine c_q rfl (by first | exact hs | exact hs.subl | exact hs.cellAt rfl | trivial) (fun _ _ _ h => h) (fun w hs => by exact y_ld (v := I64 (s.nd a).1) hs rfl (flatN_get ha _)) ?_
            refine c_q rfl (by first | exact hs | exact hs.subl | exact hs.cellAt rfl | trivial) (fun _ _ _ h => h) (fun w hs => by exact y_mv_ptr rfl) ?_
            refine c_q rfl (by first | exact hs | exact hs.subl | exact hs.cellAt rfl | trivial) (fun _ _ _ h => h) (fun w hs => by first | exact y_nil rfl | exact y_nilf rfl) ?_
            refine c_q rfl (by first | exact hs | exact hs.subl | exact hs.cellAt rfl | trivial) (fun _ _ _ h => h) (fun w hs => by exact y_field rfl) ?_
            refine c_q rfl (by first | exact hs | exact hs.subl | exact hs.cellAt rfl | trivial) (fun _ _ _ h => h) (fun w hs => by exact y_ld hs rfl rfl) ?_
            refine c_q rfl (by first | exact hs | exact hs.subl | exact hs.cellAt rfl | trivial) (fun _ _ _ h => h) (fun w hs => by exact y_mv_int rfl) ?_
            refine c_q rfl (by first | exact hs | exact hs.subl | exact hs.cellAt rfl | trivial) (fun _ _ _ h => h) (fun w hs => by exact y_indexT (off := 3 * b) rfl rfl (by omega) (by omega) had (by omega)) ?_
            refine c_q rfl (by first | exact hs | exact hs.subl | exact hs.cellAt rfl | trivial) (fun _ _ _ h => h) (fun w hs => by exact y_field rfl) ?_
            refine c_q rfl (by first | exact hs | exact hs.subl | exact hs.cellAt rfl | trivial) (fun _ _ _ h => h) (fun w hs => by exact y_ld (v := I64 (s.nd b).1) hs rfl (flatN_get hb _)) ?_
            refine c_q rfl (by first | exact hs | exact hs.subl | exact hs.cellAt rfl | trivial) (fun _ _ _ h => h) (fun w hs => by exact y_mv_ptr rfl) ?_
            refine c_q rfl (by first | exact hs | exact hs.subl | exact hs.cellAt rfl | trivial) (fun _ _ _ h => h) (fun w hs => by first | exact y_nil rfl | exact y_nilf rfl) ?_
            refine c_q rfl (by first | exact hs | exact hs.subl | exact hs.cellAt rfl | trivial) (fun _ _ _ h => h) (fun w hs => by exact y_field rfl) ?_
            refine c_q rfl (by first | exact hs | exact hs.subl | exact hs.cellAt rfl | trivial) (fun _ _ _ h => h) (fun w hs => by exact y_ld hs rfl rfl) ?_
            refine c_q rfl (by first | exact hs | exact hs.subl | exact hs.cellAt rfl | trivial) (fun _ _ _ h => h) (fun w hs => by exact y_mv_int rfl) ?_
            refine c_q rfl (by first | exact hs | exact hs.subl | exact hs.cellAt rfl | trivial) (fun _ _ _ h => h) (fun w hs => by exact y_indexT (off := 3 * c) rfl rfl (by omega) (by omega) had (by omega)) ?_
            refine c_q rfl (by first | exact hs | exact hs.subl | exact hs.cellAt rfl | trivial) (fun _ _ _ h => h) (fun w hs => by exact y_field rfl) ?_
            refine c_q rfl (by first | exact hs | exact hs.subl | exact hs.cellAt rfl | trivial) (fun _ _ _ h => h) (fun w hs => by exact y_ld (v := I64 (s.nd c).1) hs rfl (flatN_get hc _)) ?_
            refine c_q rfl (by first | exact hs | exact hs.subl | exact hs.cellAt rfl | trivial) (fun _ _ _ h => h) (fun w hs => by exact y_min3 (v := I64 (v : Nat)) rfl rfl rfl hmin) ?_
            refine c_q rfl (by first | exact hs | exact hs.subl | exact hs.cellAt rfl | trivial) (fun _ _ _ h => h) (fun w hs => by exact y_as_int rfl) ?_
            refine c_end ?_
            refine e_then ?_
            refine s_seq ?_
            refine s_reg ?_
            refine l_q (by exact y_mv_ptr rfl) ?_
            refine l_q (by exact y_mv_ptr rfl) ?_
            refine l_q (by exact y_mv_int rfl) ?_
            refine l_q (by exact y_mv_int rfl) ?_
            refine l_w (w_call rfl (side_c W hok v false ha hs) rfl (fun _ w h => ?_))
            obtain ⟨rfl, hs⟩ := h
            refine l_q (by exact y_mv_ptr rfl) ?_
            refine l_q (by exact y_mv_int rfl) ?_
            refine l_q (by exact y_mv_int rfl) ?_
            refine l_w (w_call rfl (side_c W hok v false hb hs) rfl (fun _ w h => ?_))
            obtain ⟨rfl, hs⟩ := h
            refine l_q (by exact y_mv_ptr rfl) ?_
            refine l_q (by exact y_mv_int rfl) ?_
            refine l_q (by exact y_mv_int rfl) ?_
            refine l_w (w_call rfl (side_c W hok v false hc hs) rfl (fun _ w h => ?_))
            obtain ⟨rfl, hs⟩ := h
            refine l_w (w_call rfl (ih h (sideF_lt h ha _) (sideF_lt h hb _) (sideF_lt h hc _) h1 hn1 hok hs) rfl (fun _ w h => ?_))
            obtain ⟨rfl, os1, hok1, hs⟩ := h
            refine l_q (by exact y_as_int rfl) ?_
            refine l_end ?_
            refine e_then ?_
            refine s_seq ?_
            refine s_reg ?_
            refine l_q (by exact y_mv_ptr rfl) ?_
            refine l_q (by exact y_mv_ptr rfl) ?_
            refine l_q (by exact y_mv_int rfl) ?_
            refine l_q (by exact y_mv_int rfl) ?_
            refine l_w (w_call rfl (side_c W1 hok1 v true ha1 hs) rfl (fun _ w h => ?_))
            obtain ⟨rfl, hs⟩ := h
            refine l_q (by exact y_mv_ptr rfl) ?_
            refine l_q (by exact y_mv_int rfl) ?_
            refine l_q (by exact y_mv_int rfl) ?_
            refine l_w (w_call rfl (side_c W1 hok1 v true hb1 hs) rfl (fun _ w h => ?_))
            obtain ⟨rfl, hs⟩ := h
            refine l_q (by exact y_mv_ptr rfl) ?_
            refine l_q (by exact y_mv_int rfl) ?_
            refine l_q (by exact y_mv_int rfl) ?_
            refine l_w (w_call rfl (side_c W1 hok1 v true hc1 hs) rfl (fun _ w h => ?_))
            obtain ⟨rfl, hs⟩ := h
            refine l_w (w_call rfl (ih w1 (sideF_lt w1 ha1 _) (sideF_lt w1 hb1 _) (sideF_lt w1 hc1 _) h2 hn2 hok1 hs) rfl (fun _ w h => ?_))
            obtain ⟨rfl, os2, hok2, hs⟩ := h
            refine l_q (by exact y_as_int rfl) ?_
            refine l_end ?_
            refine e_then ?_
            refine s_seq ?_
            refine s_reg ?_
            refine l_q (by exact y_mv_ptr rfl) ?_
            refine l_q (by exact y_mv_int rfl) ?_
            refine l_q (by exact y_mv_int rfl) ?_
            refine l_q (by exact y_mv_int rfl) ?_
            refine l_w (w_call rfl (node_c W2 hok2 hn3 hs) rfl (fun _ w h => ?_))
            obtain ⟨rfl, os3, hok3, hs⟩ := h
            refine l_q (by exact y_as_int rfl) ?_
            refine l_end ?_
            refine e_then ?_
            refine s_seq ?_
            refine r_dr (.q 0 (.q 1 (.q 2 (.q 3 (.q 4 (.q 5 (.w 6 (.nil)))))))) 6 hs mixed (by kernel_rfl) (fun hs => ?_)
            refine c_q rfl (by first | exact hs | exact hs.subl | exact hs.cellAt rfl | trivial) (fun _ _ _ h => h) (fun w hs => by exact y_mv_ptr rfl) ?_
            refine c_q rfl (by first | exact hs | exact hs.subl | exact hs.cellAt rfl | trivial) (fun _ _ _ h => h) (fun w hs => by first | exact y_nil rfl | exact y_nilf rfl) ?_
            refine c_q rfl (by first | exact hs | exact hs.subl | exact hs.cellAt rfl | trivial) (fun _ _ _ h => h) (fun w hs => by exact y_field rfl) ?_
            refine c_q rfl (by first | exact hs | exact hs.subl | exact hs.cellAt rfl | trivial) (fun _ _ _ h => h) (fun w hs => by exact y_ld hs rfl rfl) ?_
            refine c_q rfl (by first | exact hs | exact hs.subl | exact hs.cellAt rfl | trivial) (fun _ _ _ h => h) (fun w hs => by exact y_ldA (vs := [_, _, _]) hs rfl rfl rfl) ?_
            refine c_q rfl (by first | exact hs | exact hs.subl | exact hs.cellAt rfl | trivial) (fun _ _ _ h => h) (fun w hs => by exact y_mv_int rfl) ?_
            refine c_w rfl (w_mapUpdate3 (a := kN (a, b, c)) (l := mp (nodeF s2 (v, r1, r2)).1.done) (u := ((nodeF s2 (v, r1, r2)).2 : Nat)) hs rfl rfl rfl (fun w hs => ?_))
            rw [put_mp] at hs
            refine ⟨fun h => absurd rfl h, ?_⟩
            refine c_end ?_
            refine e_then ?_
            refine s_seq ?_
            refine s_reg ?_
            refine l_q (by exact y_mv_int rfl) ?_
            refine l_q (by exact y_as_int rfl) ?_
            refine l_end ?_
            refine e_then ?_
            refine s_ret ?_
            exact ret_ [.int .i64 _] rfl ⟨rfl, trivial⟩ ⟨rfl, os3, hok3, stB_drop hs⟩
          · refine s_seq ?_
            refine s_reg ?_
            refine l_q (by exact y_as_int rfl) ?_
            refine l_end ?_
            refine e_then ?_
            refine s_seq ?_
            refine s_block ?_
            refine s_seq ?_
            refine s_reg ?_
            refine l_q (by exact y_mv_int rfl) ?_
            refine l_q (by first | exact y_eql rfl rfl (decide_eq_true (by omega)) | exact y_eql rfl rfl (decide_eq_false (by omega)) | exact y_eql rfl rfl rfl) ?_
            refine l_q (by exact y_mv_bool rfl) ?_
            first | refine l_gskip rfl rfl ?_ | refine l_gskip_u rfl rfl ?_ | refine l_gdo rfl rfl (by exact y_mv_int rfl) ?_
            first | refine l_gskip rfl rfl ?_ | refine l_gskip_u rfl rfl ?_ | refine l_gdo rfl rfl (by exact y_mv_int rfl) ?_
            first | refine l_gskip rfl rfl ?_ | refine l_gskip_u rfl rfl ?_ | refine l_gdo rfl rfl (by first | exact y_eql rfl rfl (decide_eq_true (by omega)) | exact y_eql rfl rfl (decide_eq_false (by omega)) | exact y_eql rfl rfl rfl) ?_
            refine l_q (by first | exact y_pk_bt rfl rfl | exact y_pk_bf rfl rfl) ?_
            refine l_q (by exact y_as_bool rfl) ?_
            refine l_end ?_
            refine e_then ?_
            refine cond_f rfl ?_
            refine s_seq ?_
            refine s_reg ?_
            refine l_q (by exact y_mv_int rfl) ?_
            refine l_q (by first | exact y_eql rfl rfl (decide_eq_true (by omega)) | exact y_eql rfl rfl (decide_eq_false (by omega)) | exact y_eql rfl rfl rfl) ?_
            refine l_q (by exact y_as_bool rfl) ?_
            refine l_end ?_
            refine e_then ?_
            refine cond_f rfl ?_
            refine s_seq ?_
            refine s_reg ?_
            refine l_q (by exact y_mv_int rfl) ?_
            refine l_q (by first | exact y_eql rfl rfl (decide_eq_true (by omega)) | exact y_eql rfl rfl (decide_eq_false (by omega)) | exact y_eql rfl rfl rfl) ?_
            refine l_q (by exact y_mv_bool rfl) ?_
            first | refine l_gskip rfl rfl ?_ | refine l_gskip_u rfl rfl ?_ | refine l_gdo rfl rfl (by exact y_mv_int rfl) ?_
            first | refine l_gskip rfl rfl ?_ | refine l_gskip_u rfl rfl ?_ | refine l_gdo rfl rfl (by first | exact y_eql rfl rfl (decide_eq_true (by omega)) | exact y_eql rfl rfl (decide_eq_false (by omega)) | exact y_eql rfl rfl rfl) ?_
            refine l_q (by first | exact y_pk_bt rfl rfl | exact y_pk_bf rfl rfl) ?_
            refine l_q (by exact y_as_bool rfl) ?_
            refine l_end ?_
            refine e_then ?_
            refine cond_f rfl ?_
            refine s_skip ?_
            refine e_blk ?_
            refine e_then ?_
            refine s_seq ?_
            refine s_reg ?_
            refine l_q (by exact y_mv_int rfl) ?_
            refine l_q (by exact y_mv_int rfl) ?_
            refine l_q (by exact y_mv_int rfl) ?_
            refine l_q (by exact y_buildArr (pv := [(0, .int .i64 _), (1, .int .i64 _), (2, .int .i64 _)]) (vs := [_, _, _]) rfl rfl) ?_
            refine l_w (w_alloc (cs := [_, _, _]) hs rfl (fun b9 w hs hb9 => ?_))
            refine l_w (w_storeA (vs := [I64 a, I64 b, I64 c]) hs rfl rfl rfl rfl rfl (fun w hs => ?_))
            replace hs := stB_rot (show St W0 w ((b9, .cells [I64 a, I64 b, I64 c] 100) :: stB M s os R) from hs)
            refine l_end ?_
            refine e_then ?_
            refine s_seq ?_
            refine s_seq ?_
            refine r_dr (.q 0 (.q 1 (.q 2 (.q 3 (.q 4 (.q 5 (.q 6 (.q 7 (.q 8 (.q 9 (.q 10 (.nil)))))))))))) 10 hs mixed (by kernel_rfl) (fun hs => ?_)
            refine c_q rfl (by first | exact hs | exact hs.subl | exact hs.cellAt rfl | trivial) (fun _ _ _ h => h) (fun w hs => by exact y_mv_ptr rfl) ?_
            refine c_q rfl (by first | exact hs | exact hs.subl | exact hs.cellAt rfl | trivial) (fun _ _ _ h => h) (fun w hs => by first | exact y_nil rfl | exact y_nilf rfl) ?_
            refine c_q rfl (by first | exact hs | exact hs.subl | exact hs.cellAt rfl | trivial) (fun _ _ _ h => h) (fun w hs => by exact y_field rfl) ?_
            refine c_q rfl (by first | exact hs | exact hs.subl | exact hs.cellAt rfl | trivial) (fun _ _ _ h => h) (fun w hs => by exact y_ld hs rfl rfl) ?_
            refine c_q rfl (by first | exact hs | exact hs.subl | exact hs.cellAt rfl | trivial) (fun _ _ _ h => h) (fun w hs => by exact y_ldA (vs := [_, _, _]) hs rfl rfl rfl) ?_
            refine c_q rfl (by first | exact hs | exact hs.subl | exact hs.cellAt rfl | trivial) (fun _ _ _ h => h) (fun w hs => by exact y_lookup3 (a := kN (a, b, c)) (l := mp s.done) hs rfl rfl hlk) ?_
            refine c_q rfl (by first | exact hs | exact hs.subl | exact hs.cellAt rfl | trivial) (fun _ _ _ h => h) (fun w hs => by exact y_mv_tuple rfl) ?_
            refine c_q rfl (by first | exact hs | exact hs.subl | exact hs.cellAt rfl | trivial) (fun _ _ _ h => h) (fun w hs => by exact y_extract rfl rfl) ?_
            refine c_q rfl (by first | exact hs | exact hs.subl | exact hs.cellAt rfl | trivial) (fun _ _ _ h => h) (fun w hs => by exact y_extract rfl rfl) ?_
            refine c_q rfl (by first | exact hs | exact hs.subl | exact hs.cellAt rfl | trivial) (fun _ _ _ h => h) (fun w hs => by exact y_as_int rfl) ?_
            refine c_q rfl (by first | exact hs | exact hs.subl | exact hs.cellAt rfl | trivial) (fun _ _ _ h => h) (fun w hs => by exact y_as_bool rfl) ?_
            refine c_end ?_
            refine e_then ?_
            refine s_seq ?_
            refine s_reg ?_
            refine l_q (by exact y_mv_bool rfl) ?_
            refine l_end ?_
            refine e_then ?_
            refine cond_f rfl ?_
            refine s_skip ?_
            refine e_then ?_
            refine s_seq ?_
            refine r_dr (.q 0 (.q 1 (.q 2 (.q 3 (.q 4 (.q 5 (.q 6 (.q 7 (.q 8 (.q 9 (.q 10 (.q 11 (.q 12 (.q 13 (.q 14 (.q 15 (.q 16 (.q 17 (.q 18 (.q 19 (.q 20 (.q 21 (.q 22 (.q 23 (.q 24 (.q 25 (.nil))))))))))))))))))))))))))) 25 hs mixed (by kernel_rfl) (fun hs => ?_)
            refine c_q rfl (by first | exact hs | exact hs.subl | exact hs.cellAt rfl | trivial) (fun _ _ _ h => h) (fun w hs => by exact y_mv_ptr rfl) ?_
            refine c_q rfl (by first | exact hs | exact hs.subl | exact hs.cellAt rfl | trivial) (fun _ _ _ h => h) (fun w hs => by first | exact y_nil rfl | exact y_nilf rfl) ?_
            refine c_q rfl (by first | exact hs | exact hs.subl | exact hs.cellAt rfl | trivial) (fun _ _ _ h => h) (fun w hs => by exact y_field rfl) ?_
            refine c_q rfl (by first | exact hs | exact hs.subl | exact hs.cellAt rfl | trivial) (fun _ _ _ h => h) (fun w hs => by exact y_ld hs rfl rfl) ?_
            refine c_q rfl (by first | exact hs | exact hs.subl | exact hs.cellAt rfl | trivial) (fun _ _ _ h => h) (fun w hs => by exact y_mv_int rfl) ?_
            refine c_q rfl (by first | exact hs | exact hs.subl | exact hs.cellAt rfl | trivial) (fun _ _ _ h => h) (fun w hs => by exact y_indexT (off := 3 * a) rfl rfl (by omega) (by omega) had (by omega)) ?_
            refine c_q rfl (by first | exact hs | exact hs.subl | exact hs.cellAt rfl | trivial) (fun _ _ _ h => h) (fun w hs => by exact y_field rfl) ?_
            refine c_q rfl (by first | exact hs | exact hs.subl | exact hs.cellAt rfl | trivial) (fun _ _ _ h => h) (fun w hs => by exact y_ld (v := I64 (s.nd a).1) hs rfl (flatN_get ha _)) ?_
            refine c_q rfl (by first | exact hs | exact hs.subl | exact hs.cellAt rfl | trivial) (fun _ _ _ h => h) (fun w hs => by exact y_mv_ptr rfl) ?_
            refine c_q rfl (by first | exact hs | exact hs.subl | exact hs.cellAt rfl | trivial) (fun _ _ _ h => h) (fun w hs => by first | exact y_nil rfl | exact y_nilf rfl) ?_
            refine c_q rfl (by first | exact hs | exact hs.subl | exact hs.cellAt rfl | trivial) (fun _ _ _ h => h) (fun w hs => by exact y_field rfl) ?_
            refine c_q rfl (by first | exact hs | exact hs.subl | exact hs.cellAt rfl | trivial) (fun _ _ _ h => h) (fun w hs => by exact y_ld hs rfl rfl) ?_
            refine c_q rfl (by first | exact hs | exact hs.subl | exact hs.cellAt rfl | trivial) (fun _ _ _ h => h) (fun w hs => by exact y_mv_int rfl) ?_
            refine c_q rfl (by first | exact hs | exact hs.subl | exact hs.cellAt rfl | trivial) (fun _ _ _ h => h) (fun w hs => by exact y_indexT (off := 3 * b) rfl rfl (by omega) (by omega) had (by omega)) ?_
            refine c_q rfl (by first | exact hs | exact hs.subl | exact hs.cellAt rfl | trivial) (fun _ _ _ h => h) (fun w hs => by exact y_field rfl) ?_
            refine c_q rfl (by first | exact hs | exact hs.subl | exact hs.cellAt rfl | trivial) (fun _ _ _ h => h) (fun w hs => by exact y_ld (v := I64 (s.nd b).1) hs rfl (flatN_get hb _)) ?_
            refine c_q rfl (by first | exact hs | exact hs.subl | exact hs.cellAt rfl | trivial) (fun _ _ _ h => h) (fun w hs => by exact y_mv_ptr rfl) ?_
            refine c_q rfl (by first | exact hs | exact hs.subl | exact hs.cellAt rfl | trivial) (fun _ _ _ h => h) (fun w hs => by first | exact y_nil rfl | exact y_nilf rfl) ?_
            refine c_q rfl (by first | exact hs | exact hs.subl | exact hs.cellAt rfl | trivial) (fun _ _ _ h => h) (fun w hs => by exact y_field rfl) ?_
            refine c_q rfl (by first | exact hs | exact hs.subl | exact hs.cellAt rfl | trivial) (fun _ _ _ h => h) (fun w hs => by exact y_ld hs rfl rfl) ?_
            refine c_q rfl (by first | exact hs | exact hs.subl | exact hs.cellAt rfl | trivial) (fun _ _ _ h => h) (fun w hs => by exact y_mv_int rfl) ?_
            refine c_q rfl (by first | exact hs | exact hs.subl | exact hs.cellAt rfl | trivial) (fun _ _ _ h => h) (fun w hs => by exact y_indexT (off := 3 * c) rfl rfl (by omega) (by omega) had (by omega)) ?_
            refine c_q rfl (by first | exact hs | exact hs.subl | exact hs.cellAt rfl | trivial) (fun _ _ _ h => h) (fun w hs => by exact y_field rfl) ?_
            refine c_q rfl (by first | exact hs | exact hs.subl | exact hs.cellAt rfl | trivial) (fun _ _ _ h => h) (fun w hs => by exact y_ld (v := I64 (s.nd c).1) hs rfl (flatN_get hc _)) ?_
            refine c_q rfl (by first | exact hs | exact hs.subl | exact hs.cellAt rfl | trivial) (fun _ _ _ h => h) (fun w hs => by exact y_min3 (v := I64 (v : Nat)) rfl rfl rfl hmin) ?_
            refine c_q rfl (by first | exact hs | exact hs.subl | exact hs.cellAt rfl | trivial) (fun _ _ _ h => h) (fun w hs => by exact y_as_int rfl) ?_
            refine c_end ?_
            refine e_then ?_
            refine s_seq ?_
            refine s_reg ?_
            refine l_q (by exact y_mv_ptr rfl) ?_
            refine l_q (by exact y_mv_ptr rfl) ?_
            refine l_q (by exact y_mv_int rfl) ?_
            refine l_q (by exact y_mv_int rfl) ?_
            refine l_w (w_call rfl (side_c W hok v false ha hs) rfl (fun _ w h => ?_))
            obtain ⟨rfl, hs⟩ := h
            refine l_q (by exact y_mv_ptr rfl) ?_
            refine l_q (by exact y_mv_int rfl) ?_
            refine l_q (by exact y_mv_int rfl) ?_
            refine l_w (w_call rfl (side_c W hok v false hb hs) rfl (fun _ w h => ?_))
            obtain ⟨rfl, hs⟩ := h
            refine l_q (by exact y_mv_ptr rfl) ?_
            refine l_q (by exact y_mv_int rfl) ?_
            refine l_q (by exact y_mv_int rfl) ?_
            refine l_w (w_call rfl (side_c W hok v false hc hs) rfl (fun _ w h => ?_))
            obtain ⟨rfl, hs⟩ := h
            refine l_w (w_call rfl (ih h (sideF_lt h ha _) (sideF_lt h hb _) (sideF_lt h hc _) h1 hn1 hok hs) rfl (fun _ w h => ?_))
            obtain ⟨rfl, os1, hok1, hs⟩ := h
            refine l_q (by exact y_as_int rfl) ?_
            refine l_end ?_
            refine e_then ?_
            refine s_seq ?_
            refine s_reg ?_
            refine l_q (by exact y_mv_ptr rfl) ?_
            refine l_q (by exact y_mv_ptr rfl) ?_
            refine l_q (by exact y_mv_int rfl) ?_
            refine l_q (by exact y_mv_int rfl) ?_
            refine l_w (w_call rfl (side_c W1 hok1 v true ha1 hs) rfl (fun _ w h => ?_))
            obtain ⟨rfl, hs⟩ := h
            refine l_q (by exact y_mv_ptr rfl) ?_
            refine l_q (by exact y_mv_int rfl) ?_
            refine l_q (by exact y_mv_int rfl) ?_
            refine l_w (w_call rfl (side_c W1 hok1 v true hb1 hs) rfl (fun _ w h => ?_))
            obtain ⟨rfl, hs⟩ := h
            refine l_q (by exact y_mv_ptr rfl) ?_
            refine l_q (by exact y_mv_int rfl) ?_
            refine l_q (by exact y_mv_int rfl) ?_
            refine l_w (w_call rfl (side_c W1 hok1 v true hc1 hs) rfl (fun _ w h => ?_))
            obtain ⟨rfl, hs⟩ := h
            refine l_w (w_call rfl (ih w1 (sideF_lt w1 ha1 _) (sideF_lt w1 hb1 _) (sideF_lt w1 hc1 _) h2 hn2 hok1 hs) rfl (fun _ w h => ?_))
            obtain ⟨rfl, os2, hok2, hs⟩ := h
            refine l_q (by exact y_as_int rfl) ?_
            refine l_end ?_
            refine e_then ?_
            refine s_seq ?_
            refine s_reg ?_
            refine l_q (by exact y_mv_ptr rfl) ?_
            refine l_q (by exact y_mv_int rfl) ?_
            refine l_q (by exact y_mv_int rfl) ?_
            refine l_q (by exact y_mv_int rfl) ?_
            refine l_w (w_call rfl (node_c W2 hok2 hn3 hs) rfl (fun _ w h => ?_))
            obtain ⟨rfl, os3, hok3, hs⟩ := h
            refine l_q (by exact y_as_int rfl) ?_
            refine l_end ?_
            refine e_then ?_
            refine s_seq ?_
            refine r_dr (.q 0 (.q 1 (.q 2 (.q 3 (.q 4 (.q 5 (.w 6 (.nil)))))))) 6 hs mixed (by kernel_rfl) (fun hs => ?_)
            refine c_q rfl (by first | exact hs | exact hs.subl | exact hs.cellAt rfl | trivial) (fun _ _ _ h => h) (fun w hs => by exact y_mv_ptr rfl) ?_
            refine c_q rfl (by first | exact hs | exact hs.subl | exact hs.cellAt rfl | trivial) (fun _ _ _ h => h) (fun w hs => by first | exact y_nil rfl | exact y_nilf rfl) ?_
            refine c_q rfl (by first | exact hs | exact hs.subl | exact hs.cellAt rfl | trivial) (fun _ _ _ h => h) (fun w hs => by exact y_field rfl) ?_
            refine c_q rfl (by first | exact hs | exact hs.subl | exact hs.cellAt rfl | trivial) (fun _ _ _ h => h) (fun w hs => by exact y_ld hs rfl rfl) ?_
            refine c_q rfl (by first | exact hs | exact hs.subl | exact hs.cellAt rfl | trivial) (fun _ _ _ h => h) (fun w hs => by exact y_ldA (vs := [_, _, _]) hs rfl rfl rfl) ?_
            refine c_q rfl (by first | exact hs | exact hs.subl | exact hs.cellAt rfl | trivial) (fun _ _ _ h => h) (fun w hs => by exact y_mv_int rfl) ?_
            refine c_w rfl (w_mapUpdate3 (a := kN (a, b, c)) (l := mp (nodeF s2 (v, r1, r2)).1.done) (u := ((nodeF s2 (v, r1, r2)).2 : Nat)) hs rfl rfl rfl (fun w hs => ?_))
            rw [put_mp] at hs
            refine ⟨fun h => absurd rfl h, ?_⟩
            refine c_end ?_
            refine e_then ?_
            refine s_seq ?_
            refine s_reg ?_
            refine l_q (by exact y_mv_int rfl) ?_
            refine l_q (by exact y_as_int rfl) ?_
            refine l_end ?_
            refine e_then ?_
            refine s_ret ?_
            exact ret_ [.int .i64 _] rfl ⟨rfl, trivial⟩ ⟨rfl, os3, hok3, stB_drop hs⟩
end Go.Proofs.Ytfjniocobcoepaa
