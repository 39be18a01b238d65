/- Facts on the functions and types of this seat that its laws are proved from: contracts under the premises that each theorem names. -/
import Derived.Test.YtjjokonehoipbaaUtk
set_option linter.unusedSimpArgs false
set_option linter.unusedVariables false
set_option linter.unnecessarySimpa false
namespace Go.Proofs.Ytjjokonehoipbaa
open Go Go.RowKit PB
set_option linter.unusedVariables false

def pF (z : List Int) (k : Nat) : List Int := (List.range k).map fun i => within (z.getD i 0) 50
theorem pF_succ (z : List Int) (k : Nat) : pF z (k + 1) = pF z k ++ [within (z.getD k 0) 50] := by simp [pF, List.range_succ]
theorem pF_len (z : List Int) (k : Nat) : (pF z k).length = k := by simp [pF]
theorem pF_bd (z : List Int) (k : Nat) : ∀ x ∈ pF z k, 0 ≤ x ∧ x < 50 := by
  intro x hx
  simp only [pF, List.mem_map] at hx
  obtain ⟨i, _, rfl⟩ := hx
  exact within_bd _ (by decide)

def talksF (sl : List Int) (slot long : Int) : Nat → List Talk
  | 0 => []
  | k + 1 => if 0 ≤ sl.getD k 0 ∧ sl.getD k 0 * slot ≤ 1000000 then talksF sl slot long k ++ [⟨k, sl.getD k 0 * slot, long⟩] else talksF sl slot long k
theorem talks_len (sl : List Int) (slot long : Int) : ∀ k, (talksF sl slot long k).length ≤ k
  | 0 => Nat.le_refl _
  | k + 1 => by
    have := talks_len sl slot long k
    simp only [talksF]
    split
    · simp; exact this
    · omega
structure TIn (sl : List Int) (slot long : Int) (k : Nat) (t : Talk) : Prop where
  f : t.from_ < k
  s0 : 0 ≤ sl.getD t.from_ 0
  at_ : t.at_ = sl.getD t.from_ 0 * slot
  le : t.at_ ≤ 1000000
  long_ : t.long = long
theorem talks_in (sl : List Int) (slot long : Int) : ∀ k, ∀ t ∈ talksF sl slot long k, TIn sl slot long k t
  | 0, t, h => by simp [talksF] at h
  | k + 1, t, h => by
    have ih := talks_in sl slot long k
    simp only [talksF] at h
    split at h
    · rename_i hc
      rw [List.mem_append] at h
      rcases h with h | h
      · have := ih t h; exact ⟨by have := this.f; omega, this.s0, this.at_, this.le, this.long_⟩
      · simp at h; subst h; exact ⟨by dsimp only; omega, hc.1, rfl, hc.2, rfl⟩
    · have := ih t h; exact ⟨by have := this.f; omega, this.s0, this.at_, this.le, this.long_⟩
theorem talks_pw (sl : List Int) (slot long : Int) : ∀ k, (talksF sl slot long k).Pairwise fun x y => x.from_ ≠ y.from_
  | 0 => by simp [talksF]
  | k + 1 => by
    have ih := talks_pw sl slot long k
    simp only [talksF]
    split
    · rw [List.pairwise_append]
      refine ⟨ih, by simp, ?_⟩
      intro x hx y hy
      simp at hy; subst hy
      have := (talks_in sl slot long k x hx).f
      dsimp only; omega
    · exact ih

theorem pw_get {l : List Talk} (h : l.Pairwise fun x y => x.from_ ≠ y.from_) {i k : Nat} {x y : Talk} (hi : l[i]? = some x) (hk : l[k]? = some y) (hne : i ≠ k) : x.from_ ≠ y.from_ := by
  rw [List.pairwise_iff_getElem] at h
  obtain ⟨h1, rfl⟩ := List.getElem?_eq_some_iff.1 hi
  obtain ⟨h2, rfl⟩ := List.getElem?_eq_some_iff.1 hk
  rcases Nat.lt_or_ge i k with c | c
  · exact h i k h1 h2 c
  · exact fun e => h k i h2 h1 (by omega) e.symm

theorem begF_in {ps : List Int} {mn mx : Int} (h1 : ∀ x ∈ ps, mn ≤ x) (h2 : ∀ x ∈ ps, x ≤ mx) (t : Talk) {a : Nat} (hf : t.from_ < ps.length) (ha : a < ps.length) : t.at_ ≤ begF ps t a ∧ begF ps t a ≤ t.at_ + (mx - mn) := by
  have a1 := h1 _ (mem_getD hf)
  have a2 := h2 _ (mem_getD hf)
  have b1 := h1 _ (mem_getD ha)
  have b2 := h2 _ (mem_getD ha)
  unfold begF
  split <;> omega

theorem noMeet_of {ps sl : List Int} {mn mx long slot : Int} (h1 : ∀ x ∈ ps, mn ≤ x) (h2 : ∀ x ∈ ps, x ≤ mx) (hm : mn ≤ mx) (hl : 1 ≤ long) (hsl : slot = long + mx - mn) {x y : Talk}
    (hx : TIn sl slot long ps.length x) (hy : TIn sl slot long ps.length y) (hne : sl.getD x.from_ 0 ≠ sl.getD y.from_ 0) : NoMeet ps x y := by
  intro a ha ⟨c1, c2⟩
  have bx := begF_in h1 h2 x hx.f ha
  have bby := begF_in h1 h2 y hy.f ha
  rw [hx.at_] at bx
  rw [hy.at_] at bby
  rw [hy.long_] at c1
  rw [hx.long_] at c2
  rcases Int.lt_or_le (sl.getD x.from_ 0) (sl.getD y.from_ 0) with c | c
  · have := Int.mul_le_mul_of_nonneg_right (show sl.getD x.from_ 0 + 1 ≤ sl.getD y.from_ 0 by omega) (show 0 ≤ slot by omega)
    rw [Int.add_mul] at this
    omega
  · have := Int.mul_le_mul_of_nonneg_right (show sl.getD y.from_ 0 + 1 ≤ sl.getD x.from_ 0 by omega) (show 0 ≤ slot by omega)
    rw [Int.add_mul] at this
    omega

theorem rd_blk {W0 : World} {L : List (Nat × MObj)} {b : Nat} {ns : List Int} {e : TypeId} : Rd W0 ((b, .cells (ns.map I64) e) :: L) (some ⟨b, 0, none⟩) ns.length ns :=
  ⟨fun i hi => ⟨_, rfl, fun w hs => by rw [addr_add, hs.cell (List.mem_cons_self ..)]; simp [hi]⟩⟩
theorem rd_ints {W0 : World} {L : List (Nat × MObj)} {a : Option Addr} {len m : Nat} {z : List Int} (h : Ints W0 a len z) (hm : m ≤ len) : Rd W0 L a m z :=
  ⟨fun i hi => by
    obtain ⟨x, h1, h2⟩ := h.at_ i (by omega)
    exact ⟨x, h1, fun w hs => by rw [hs.old (lt_of_cell h2)]; exact h2⟩⟩
theorem ok_two (g : Nat) : (⟨some g, 2, []⟩ : OS).ok ([1, 2].map I64) 2 1 := ⟨rfl, rfl, Nat.le_refl _, fun h => by cases h⟩


theorem share_walk (W : World) (a0 : Option Addr) (len0 cap0 : Nat) (z0 : List Int) (h0 : Ints W a0 len0 z0) (l0 : len0 ≤ 9223372036854775807) (c0 : len0 ≤ cap0) (a1 : Option Addr) (len1 cap1 : Nat) (z1 : List Int) (h1 : Ints W a1 len1 z1) (l1 : len1 ≤ 9223372036854775807) (c1 : len1 ≤ cap1) (a2 : Int) :
    FnC Try.prog 3 [.slice a0 len0 cap0, .slice a1 len1 cap1, I64 a2] W (fun v w' => v = .bool true ∧ St W w' []) := by
  have hs := St.start W
  obtain ⟨lf0, hc1, hl0⟩ := cont_ex
  obtain ⟨n0, hn0⟩ : ∃ n, min len0 8 = n := ⟨_, rfl⟩
  obtain ⟨n1, hn1⟩ : ∃ n, min len1 50 = n := ⟨_, rfl⟩
  refine FnC.enter Try.func3 rfl Try.ntmps3 rfl fun ρ => ?_
  refine s_seq ?_
  refine s_reg ?_
  refine l_q (by exact y_as_bool rfl) ?_
  refine l_end ?_
  refine e_then ?_
  refine s_seq ?_
  refine s_seq ?_
  refine s_reg ?_
  refine l_w (w_buildSlice (pv := [(0, .int .i64 _), (1, .int .i64 _)]) (vs := [_, _]) hs rfl rfl rfl rfl (fun b20 w hs hb20 => ?_))
  refine l_w (w_call rfl (contend_c (n := 2) (by omega) (rd_blk (ns := [0, 1])) (by decide) hc1 hs) rfl (fun _ w h => ?_))
  obtain ⟨b21, rfl, hs⟩ := h; rw [hl0] at hs
  refine l_q (by exact y_mv_tuple rfl) ?_
  refine l_q (by exact y_extract rfl rfl) ?_
  refine l_q (by exact y_extract rfl rfl) ?_
  refine l_q (by exact y_as_slice rfl) ?_
  refine l_q (by exact y_as_int rfl) ?_
  refine l_end ?_
  refine e_then ?_
  refine s_seq ?_
  refine s_reg ?_
  refine l_q (by exact y_mv_int rfl) ?_
  refine l_q (by first | exact y_neq rfl rfl (decide_eq_true (by omega)) | exact y_neq rfl rfl (decide_eq_false (by omega)) | exact y_neq rfl rfl rfl) ?_
  refine l_q (by exact y_mv_bool rfl) ?_
  first | refine l_gskip rfl rfl ?_ | refine l_gskip_u rfl rfl ?_ | refine l_gdo rfl rfl (by exact y_mv_slice rfl) ?_
  first | refine l_gskip rfl rfl ?_ | refine l_gskip_u rfl rfl ?_ | (refine l_gw rfl rfl (w_buildSlice (pv := [(0, .int .i64 _), (1, .int .i64 _)]) (vs := [_, _]) hs rfl rfl rfl rfl (fun b28 w hs hb28 => ?_)))
  first | refine l_gskip rfl rfl ?_ | refine l_gskip_u rfl rfl ?_ | (refine l_gw rfl rfl (w_call rfl (equal_c (s1 := ⟨some b21, 2, []⟩) (s2 := ⟨some b28, 2, []⟩) (ns := [1, 2]) (ok_two _) (ok_two _) (by decide) (hs.perm (List.Perm.swap _ _ _))) rfl (fun _ w h => ?_)); obtain ⟨rfl, hs⟩ := h)
  first | refine l_gskip rfl rfl ?_ | refine l_gskip_u rfl rfl ?_ | refine l_gdo rfl rfl (by first | exact y_not_t rfl | exact y_not_f rfl | exact y_notd rfl) ?_
  refine l_q (by first | exact y_pk_bt rfl rfl | exact y_pk_bf rfl rfl) ?_
  refine l_end ?_
  refine e_then ?_
  refine cond_f rfl ?_
  refine s_skip ?_
  refine e_then ?_
  refine s_seq ?_
  refine s_reg ?_
  refine l_q (by exact y_as_slice rfl) ?_
  refine l_end ?_
  refine e_then ?_
  refine s_seq ?_
  refine s_seq ?_
  refine s_reg ?_
  refine l_q (by exact y_mv_slice rfl) ?_
  refine l_q (by exact y_mv_slice rfl) ?_
  refine l_q (by exact y_len_slice rfl) ?_
  refine l_q (by exact y_min (v := .int .i64 ((n0 : Nat) : Int)) rfl rfl (by congr 1; split <;> omega)) ?_
  refine l_q (by exact y_slice_hi rfl rfl (by omega) (by omega)) ?_
  refine l_q (by exact y_len_slice rfl) ?_
  refine l_q (by exact y_mv_int rfl) ?_
  refine l_end ?_
  refine e_then ?_
  refine s_block ?_
  replace hs := hs.nil
  refine loop_st (X := Nat × OS) (fun u => [(1, .slice a1 len1 cap1), (2, I64 a2), (9, .slice u.2.ad u.1 u.2.cap), (36, .slice a0 n0 cap0), (37, I64 n0), (38, I64 u.1)])
    (fun u w => St W w (u.2.blk ((pF z0 u.1).map I64) 3 ++ []) ∧ u.1 ≤ n0 ∧ u.2.ok ((pF z0 u.1).map I64) u.1 1) (fun u => n0 - u.1) (0, OS.nl) ⟨rfl, rfl, rfl, rfl, rfl, rfl, trivial⟩ ⟨hs, by dsimp only; omega, OS.ok_nl 1⟩ ?_
  clear hs
  rintro ⟨i, s⟩ ρ w ⟨hs, i1, ok⟩
  dsimp only at hs i1 ok ⊢
  by_cases ci : i < n0
  · obtain ⟨x0, hx0, hxc⟩ := h0.at_ i (by omega)
    refine s_seq ?_
    refine s_reg ?_
    refine l_q (by first | exact y_lss rfl rfl (decide_eq_true (by omega)) | exact y_lss rfl rfl (decide_eq_false (by omega)) | exact y_lss rfl rfl rfl) ?_
    refine l_end ?_
    refine e_then ?_
    refine s_seq ?_
    refine cond_t rfl ?_
    refine s_skip ?_
    refine e_then ?_
    refine s_seq ?_
    refine s_block ?_
    refine s_seq ?_
    refine s_reg ?_
    refine l_q (by exact y_indexA1 rfl rfl (by omega) (by omega) hx0) ?_
    refine l_q (by exact y_ldOld hs rfl hxc) ?_
    refine l_q (by exact y_as_int rfl) ?_
    refine l_end ?_
    refine e_then ?_
    refine s_reg ?_
    refine l_q (by exact y_mv_slice rfl) ?_
    refine l_q (by exact y_mv_int rfl) ?_
    refine l_w (w_call rfl (within_c _ _ _ (by omega) (by omega)) rfl (fun _ w h => ?_))
    obtain ⟨rfl, rfl⟩ := h
    refine l_w (w_buildSlice (pv := [(0, .int .i64 _)]) (vs := [_]) hs rfl rfl rfl rfl (fun b45 w hs hb45 => ?_))
    refine l_w (w_append (ys := [_]) [(b45, _)] hs ok rfl rfl rfl rfl rfl rfl (.inl (by decide)) (by decide) (by omega) (fun s' w ok' hg' hs => ?_))
    refine l_q (by exact y_as_slice rfl) ?_
    refine l_end ?_
    refine e_blk ?_
    refine e_then ?_
    refine s_reg ?_
    refine l_q (by first | exact y_addn rfl rfl (by omega) | exact y_add rfl rfl rfl) ?_
    refine l_q (by exact y_mv_int rfl) ?_
    refine l_end ?_
    refine e_then ?_
    refine ⟨(i + 1, s'), _, nx ⟨rfl, rfl, rfl, rfl, rfl, rfl, trivial⟩, ⟨?_, by dsimp only; omega, ?_⟩, by dsimp only; omega⟩ <;> dsimp only <;> rw [pF_succ, List.map_append]
    · exact hs.tail
    · exact ok'
  · have hi : i = n0 := by omega
    rw [hi] at hs ok ⊢
    clear hi ci i1
    have hpb := pF_bd z0 n0
    have hpl := pF_len z0 n0
    generalize pF z0 n0 = ps at *
    subst hpl
    by_cases cz : ps.length = 0
    · refine s_seq ?_
      refine s_reg ?_
      refine l_q (by first | exact y_lss rfl rfl (decide_eq_true (by omega)) | exact y_lss rfl rfl (decide_eq_false (by omega)) | exact y_lss rfl rfl rfl) ?_
      refine l_end ?_
      refine e_then ?_
      refine s_seq ?_
      refine cond_f rfl ?_
      refine s_exit ?_
      refine e_then_x ?_
      refine e_then_x ?_
      refine e_blk_x ?_
      refine e_then ?_
      refine s_seq ?_
      refine s_seq ?_
      refine s_reg ?_
      refine l_q (by exact y_mv_slice rfl) ?_
      refine l_q (by exact y_len_slice rfl) ?_
      refine l_q (by first | exact y_eql rfl rfl (decide_eq_true (by omega)) | exact y_eql rfl rfl (decide_eq_false (by omega)) | exact y_eql rfl rfl rfl) ?_
      refine l_end ?_
      refine e_then ?_
      refine cond_t rfl ?_
      refine s_seq ?_
      refine s_reg ?_
      refine l_q (by exact y_as_bool rfl) ?_
      refine l_end ?_
      refine e_then ?_
      refine s_ret ?_
      refine e_then_r ?_
      exact ret_ [.bool _] rfl ⟨rfl, trivial⟩ ⟨rfl, hs.nil⟩
    · obtain ⟨LG, hLG⟩ : ∃ x, 1 + within a2 30 = x := ⟨_, rfl⟩
      have hwb := within_bd a2 (n := 30) (by decide)
      obtain ⟨K, lf, hc2, hSl⟩ := cont_all ps.length n1 z1
      refine s_seq ?_
      refine s_reg ?_
      refine l_q (by first | exact y_lss rfl rfl (decide_eq_true (by omega)) | exact y_lss rfl rfl (decide_eq_false (by omega)) | exact y_lss rfl rfl rfl) ?_
      refine l_end ?_
      refine e_then ?_
      refine s_seq ?_
      refine cond_f rfl ?_
      refine s_exit ?_
      refine e_then_x ?_
      refine e_then_x ?_
      refine e_blk_x ?_
      refine e_then ?_
      refine s_seq ?_
      refine s_seq ?_
      refine s_reg ?_
      refine l_q (by exact y_mv_slice rfl) ?_
      refine l_q (by exact y_len_slice rfl) ?_
      refine l_q (by first | exact y_eql rfl rfl (decide_eq_true (by omega)) | exact y_eql rfl rfl (decide_eq_false (by omega)) | exact y_eql rfl rfl rfl) ?_
      refine l_end ?_
      refine e_then ?_
      refine cond_f rfl ?_
      refine s_skip ?_
      refine e_then ?_
      refine s_seq ?_
      refine s_reg ?_
      refine l_q (by exact y_mv_int rfl) ?_
      refine l_w (w_call rfl (within_c _ _ _ (by omega) (by omega)) rfl (fun _ w h => ?_))
      obtain ⟨rfl, rfl⟩ := h
      refine l_q (by exact y_toInt (b := LG) (y_addn rfl rfl (by omega)) hLG) ?_
      refine l_q (by exact y_as_int rfl) ?_
      refine l_end ?_
      refine e_then ?_
      refine s_seq ?_
      refine s_reg ?_
      refine l_q (by exact y_mv_slice rfl) ?_
      refine l_q (by exact y_len_slice rfl) ?_
      refine l_q (by exact y_mv_slice rfl) ?_
      refine l_q (by exact y_mv_slice rfl) ?_
      refine l_q (by exact y_len_slice rfl) ?_
      refine l_q (by exact y_min (v := .int .i64 ((n1 : Nat) : Int)) rfl rfl (by congr 1; split <;> omega)) ?_
      refine l_q (by exact y_slice_hi rfl rfl (by omega) (by omega)) ?_
      refine l_w (w_call rfl (contend_c (n := ps.length) (by omega) (rd_ints h1 (m := n1) (by omega)) (by omega) hc2 hs) rfl (fun _ w h => ?_))
      obtain ⟨b62, rfl, hs⟩ := h; replace hs := hs.perm List.perm_middle.symm
      refine l_q (by exact y_mv_tuple rfl) ?_
      refine l_q (by exact y_extract rfl rfl) ?_
      refine l_q (by exact y_extract rfl rfl) ?_
      refine l_q (by exact y_as_slice rfl) ?_
      refine l_q (by exact y_as_int rfl) ?_
      refine l_end ?_
      refine e_then ?_
      refine s_seq ?_
      refine s_seq ?_
      refine s_reg ?_
      refine l_q (by exact y_mv_int rfl) ?_
      refine l_q (by first | exact y_neq rfl rfl (decide_eq_true (by omega)) | exact y_neq rfl rfl (decide_eq_false (by omega)) | exact y_neq rfl rfl rfl) ?_
      refine l_q (by exact y_mv_bool rfl) ?_
      first | refine l_gskip rfl rfl ?_ | refine l_gskip_u rfl rfl ?_ | refine l_gdo rfl rfl (by exact y_mv_slice rfl) ?_
      first | refine l_gskip rfl rfl ?_ | refine l_gskip_u rfl rfl ?_ | refine l_gdo rfl rfl (by exact y_len_slice rfl) ?_
      first | refine l_gskip rfl rfl ?_ | refine l_gskip_u rfl rfl ?_ | refine l_gdo rfl rfl (by exact y_mv_slice rfl) ?_
      first | refine l_gskip rfl rfl ?_ | refine l_gskip_u rfl rfl ?_ | refine l_gdo rfl rfl (by exact y_len_slice rfl) ?_
      first | refine l_gskip rfl rfl ?_ | refine l_gskip_u rfl rfl ?_ | refine l_gdo rfl rfl (by first | exact y_neq rfl rfl (decide_eq_true (by omega)) | exact y_neq rfl rfl (decide_eq_false (by omega)) | exact y_neq rfl rfl rfl) ?_
      refine l_q (by first | exact y_pk_bt rfl rfl | exact y_pk_bf rfl rfl) ?_
      refine l_end ?_
      refine e_then ?_
      refine cond_f rfl ?_
      refine s_skip ?_
      refine e_then ?_
      refine s_seq ?_
      refine s_reg ?_
      refine l_q (by exact y_mv_int rfl) ?_
      refine l_q (by exact y_mv_slice rfl) ?_
      refine l_w (w_call rfl (max_c ok (by omega) (by omega) hs) rfl (fun _ w h => ?_))
      obtain ⟨⟨mx, rfl, hmx1, hmx2⟩, hs⟩ := h; have hmxb := hpb _ hmx1
      refine l_q (by first | exact y_addn rfl rfl (by omega) | exact y_add rfl rfl rfl) ?_
      refine l_q (by exact y_mv_slice rfl) ?_
      refine l_w (w_call rfl (min_c ok (by omega) (by omega) hs) rfl (fun _ w h => ?_))
      obtain ⟨⟨mn, rfl, hmn1, hmn2⟩, hs⟩ := h; have hmnb := hpb _ hmn1; have hmm := hmn2 _ hmx1
      refine l_q (by first | exact y_subn rfl rfl (by omega) | exact y_sub rfl rfl rfl) ?_
      refine l_q (by exact y_as_int rfl) ?_
      refine l_end ?_
      refine e_then ?_
      refine s_seq ?_
      refine s_reg ?_
      refine l_q (by exact y_as_slice rfl) ?_
      refine l_end ?_
      refine e_then ?_
      refine s_seq ?_
      refine s_seq ?_
      refine s_reg ?_
      refine l_q (by exact y_mv_slice rfl) ?_
      refine l_q (by exact y_len_slice rfl) ?_
      refine l_q (by exact y_mv_int rfl) ?_
      refine l_end ?_
      refine e_then ?_
      refine s_block ?_
      have hsll : (lf.map Stn.sent).length = ps.length := by rw [List.length_map]; exact hSl.len
      have hsg : ∀ i, i < ps.length → (lf.map Stn.sent).getD i 0 = (gS lf i).sent := fun i hi => by
        have : i < lf.length := by rw [hSl.len]; exact hi
        simp [gS, this]
      have hsb : ∀ i, i < ps.length → -1 ≤ (lf.map Stn.sent).getD i 0 ∧ (lf.map Stn.sent).getD i 0 ≤ 16384 := fun i hi => by rw [hsg i hi]; exact hSl.bd i hi
      have hsd : ∀ i j, i < ps.length → j < ps.length → i ≠ j → 0 ≤ (lf.map Stn.sent).getD i 0 → (lf.map Stn.sent).getD i 0 ≠ (lf.map Stn.sent).getD j 0 := fun i j hi hj hij h => by rw [hsg i hi] at h ⊢; rw [hsg j hj]; exact hSl.dist i j hi hj hij h
      generalize lf.map Stn.sent = sl at *
      clear hSl hc2 hsg
      obtain ⟨slot, hslot⟩ : ∃ x, LG + mx - mn = x := ⟨_, rfl⟩
      refine loop_st (X := Nat × OS) (fun u => [(2, I64 LG), (9, .slice s.ad ps.length s.cap), (12, .slice (some ⟨b62, 0, none⟩) ps.length ps.length), (14, I64 slot), (15, .slice u.2.ad (talksF sl slot LG u.1).length u.2.cap), (81, .slice (some ⟨b62, 0, none⟩) ps.length ps.length), (82, I64 ps.length), (83, I64 u.1)])
        (fun u w => St W w (u.2.blk (tflat (talksF sl slot LG u.1)) 31 ++ (s.blk (ps.map I64) 3 ++ [(b62, .cells (sl.map I64) 3)])) ∧ u.1 ≤ ps.length ∧ u.2.ok (tflat (talksF sl slot LG u.1)) (talksF sl slot LG u.1).length 3) (fun u => ps.length - u.1) (0, OS.nl) ⟨rfl, rfl, rfl, by rw [← hslot]; rfl, rfl, rfl, rfl, rfl, trivial⟩ ⟨hs, by dsimp only; omega, OS.ok_nl 3⟩ ?_
      clear hs
      rintro ⟨i, so⟩ ρ w ⟨hs, i1, okso⟩
      dsimp only at hs i1 okso ⊢
      have htl := talks_len sl slot LG i
      by_cases ci : i < ps.length
      · have hisl : i < sl.length := by omega
        have hb := hsb i ci
        have hm0 : 0 ≤ sl.getD i 0 → 0 ≤ sl.getD i 0 * slot ∧ sl.getD i 0 * slot ≤ 16384 * slot := fun h => ⟨Int.mul_nonneg h (by omega), Int.mul_le_mul_of_nonneg_right hb.2 (by omega)⟩
        by_cases s0 : 0 ≤ sl.getD i 0
        · have hm1 := hm0 s0
          by_cases s1 : sl.getD i 0 * slot ≤ 1000000
          · have e : talksF sl slot LG (i + 1) = talksF sl slot LG i ++ [⟨i, sl.getD i 0 * slot, LG⟩] := by simp only [talksF]; rw [if_pos ⟨s0, s1⟩]
            refine s_seq ?_
            refine s_reg ?_
            refine l_q (by first | exact y_lss rfl rfl (decide_eq_true (by omega)) | exact y_lss rfl rfl (decide_eq_false (by omega)) | exact y_lss rfl rfl rfl) ?_
            refine l_end ?_
            refine e_then ?_
            refine s_seq ?_
            refine cond_t rfl ?_
            refine s_skip ?_
            refine e_then ?_
            refine s_seq ?_
            refine s_block ?_
            refine s_seq ?_
            refine s_reg ?_
            refine l_q (by exact y_mv_int rfl) ?_
            refine l_q (by exact y_indexT (off := i) rfl rfl (by omega) (by omega) rfl (by omega)) ?_
            refine l_q (by exact y_ld (v := .int .i64 (sl.getD i 0)) hs rfl (by simp [hisl])) ?_
            refine l_q (by exact y_as_int rfl) ?_
            refine l_q (by exact y_as_int rfl) ?_
            refine l_end ?_
            refine e_then ?_
            refine s_seq ?_
            refine s_reg ?_
            refine l_q (by exact y_mv_int rfl) ?_
            refine l_q (by first | exact y_geq rfl rfl (decide_eq_true (by omega)) | exact y_geq rfl rfl (decide_eq_false (by omega)) | exact y_geq rfl rfl rfl) ?_
            refine l_q (by exact y_mv_bool rfl) ?_
            first | refine l_gskip rfl rfl ?_ | refine l_gskip_u rfl rfl ?_ | refine l_gdo rfl rfl (by exact y_mv_int rfl) ?_
            first | refine l_gskip rfl rfl ?_ | refine l_gskip_u rfl rfl ?_ | refine l_gdo rfl rfl (by exact y_mv_int rfl) ?_
            first | refine l_gskip rfl rfl ?_ | refine l_gskip_u rfl rfl ?_ | refine l_gdo rfl rfl (by first | exact y_muln rfl rfl (by omega) | exact y_mul rfl rfl rfl) ?_
            first | refine l_gskip rfl rfl ?_ | refine l_gskip_u rfl rfl ?_ | refine l_gdo rfl rfl (by first | exact y_leq rfl rfl (decide_eq_true (by omega)) | exact y_leq rfl rfl (decide_eq_false (by omega)) | exact y_leq rfl rfl rfl) ?_
            refine l_q (by first | exact y_pk_bt rfl rfl | exact y_pk_bf rfl rfl) ?_
            refine l_end ?_
            refine e_then ?_
            refine cond_t rfl ?_
            refine s_reg ?_
            refine l_q (by exact y_mv_slice rfl) ?_
            refine l_q (by exact y_mv_int rfl) ?_
            refine l_q (by exact y_mv_int rfl) ?_
            refine l_q (by exact y_mv_int rfl) ?_
            refine l_q (by first | exact y_muln rfl rfl (by omega) | exact y_mul rfl rfl rfl) ?_
            refine l_q (by exact y_mv_int rfl) ?_
            refine l_q (by exact y_build (pv := [(0, .int .i64 _), (1, .int .i64 _), (2, .int .i64 _)]) (vs := [_, _, _]) rfl rfl) ?_
            refine l_w (w_buildSlice (pv := [(0, .agg (List.toArray [_, _, _]))]) (vs := [_, _, _]) hs rfl rfl rfl rfl (fun b103 w hs hb103 => ?_))
            refine l_w (w_append (ys := [_, _, _]) [(b103, _)] hs okso rfl rfl rfl rfl rfl rfl (.inl (by decide)) (by decide) (by omega) (fun so' w okso' hg' hs => ?_))
            refine l_q (by exact y_as_slice rfl) ?_
            refine l_end ?_
            refine e_blk ?_
            refine e_then ?_
            refine s_reg ?_
            refine l_q (by first | exact y_addn rfl rfl (by omega) | exact y_add rfl rfl rfl) ?_
            refine l_q (by exact y_mv_int rfl) ?_
            refine l_end ?_
            refine e_then ?_
            refine ⟨(i + 1, so'), _, nx ⟨rfl, rfl, rfl, rfl, ?_, rfl, rfl, rfl, trivial⟩, ⟨?_, by dsimp only; omega, ?_⟩, by dsimp only; omega⟩ <;> dsimp only <;> rw [e]
            · rw [List.length_append]; rfl
            · rw [tflat_append]; exact hs.tail
            · rw [tflat_append, List.length_append]; exact okso'
          · have e : talksF sl slot LG (i + 1) = talksF sl slot LG i := by simp only [talksF]; rw [if_neg (fun h => s1 h.2)]
            refine s_seq ?_
            refine s_reg ?_
            refine l_q (by first | exact y_lss rfl rfl (decide_eq_true (by omega)) | exact y_lss rfl rfl (decide_eq_false (by omega)) | exact y_lss rfl rfl rfl) ?_
            refine l_end ?_
            refine e_then ?_
            refine s_seq ?_
            refine cond_t rfl ?_
            refine s_skip ?_
            refine e_then ?_
            refine s_seq ?_
            refine s_block ?_
            refine s_seq ?_
            refine s_reg ?_
            refine l_q (by exact y_mv_int rfl) ?_
            refine l_q (by exact y_indexT (off := i) rfl rfl (by omega) (by omega) rfl (by omega)) ?_
            refine l_q (by exact y_ld (v := .int .i64 (sl.getD i 0)) hs rfl (by simp [hisl])) ?_
            refine l_q (by exact y_as_int rfl) ?_
            refine l_q (by exact y_as_int rfl) ?_
            refine l_end ?_
            refine e_then ?_
            refine s_seq ?_
            refine s_reg ?_
            refine l_q (by exact y_mv_int rfl) ?_
            refine l_q (by first | exact y_geq rfl rfl (decide_eq_true (by omega)) | exact y_geq rfl rfl (decide_eq_false (by omega)) | exact y_geq rfl rfl rfl) ?_
            refine l_q (by exact y_mv_bool rfl) ?_
            first | refine l_gskip rfl rfl ?_ | refine l_gskip_u rfl rfl ?_ | refine l_gdo rfl rfl (by exact y_mv_int rfl) ?_
            first | refine l_gskip rfl rfl ?_ | refine l_gskip_u rfl rfl ?_ | refine l_gdo rfl rfl (by exact y_mv_int rfl) ?_
            first | refine l_gskip rfl rfl ?_ | refine l_gskip_u rfl rfl ?_ | refine l_gdo rfl rfl (by first | exact y_muln rfl rfl (by omega) | exact y_mul rfl rfl rfl) ?_
            first | refine l_gskip rfl rfl ?_ | refine l_gskip_u rfl rfl ?_ | refine l_gdo rfl rfl (by first | exact y_leq rfl rfl (decide_eq_true (by omega)) | exact y_leq rfl rfl (decide_eq_false (by omega)) | exact y_leq rfl rfl rfl) ?_
            refine l_q (by first | exact y_pk_bt rfl rfl | exact y_pk_bf rfl rfl) ?_
            refine l_end ?_
            refine e_then ?_
            refine cond_f rfl ?_
            refine s_skip ?_
            refine e_blk ?_
            refine e_then ?_
            refine s_reg ?_
            refine l_q (by first | exact y_addn rfl rfl (by omega) | exact y_add rfl rfl rfl) ?_
            refine l_q (by exact y_mv_int rfl) ?_
            refine l_end ?_
            refine e_then ?_
            refine ⟨(i + 1, so), _, nx ⟨rfl, rfl, rfl, rfl, ?_, rfl, rfl, rfl, trivial⟩, ⟨?_, by dsimp only; omega, ?_⟩, by dsimp only; omega⟩ <;> dsimp only <;> rw [e]
            · rfl
            · exact hs
            · exact okso
        · have e : talksF sl slot LG (i + 1) = talksF sl slot LG i := by simp only [talksF]; rw [if_neg (fun h => s0 h.1)]
          refine s_seq ?_
          refine s_reg ?_
          refine l_q (by first | exact y_lss rfl rfl (decide_eq_true (by omega)) | exact y_lss rfl rfl (decide_eq_false (by omega)) | exact y_lss rfl rfl rfl) ?_
          refine l_end ?_
          refine e_then ?_
          refine s_seq ?_
          refine cond_t rfl ?_
          refine s_skip ?_
          refine e_then ?_
          refine s_seq ?_
          refine s_block ?_
          refine s_seq ?_
          refine s_reg ?_
          refine l_q (by exact y_mv_int rfl) ?_
          refine l_q (by exact y_indexT (off := i) rfl rfl (by omega) (by omega) rfl (by omega)) ?_
          refine l_q (by exact y_ld (v := .int .i64 (sl.getD i 0)) hs rfl (by simp [hisl])) ?_
          refine l_q (by exact y_as_int rfl) ?_
          refine l_q (by exact y_as_int rfl) ?_
          refine l_end ?_
          refine e_then ?_
          refine s_seq ?_
          refine s_reg ?_
          refine l_q (by exact y_mv_int rfl) ?_
          refine l_q (by first | exact y_geq rfl rfl (decide_eq_true (by omega)) | exact y_geq rfl rfl (decide_eq_false (by omega)) | exact y_geq rfl rfl rfl) ?_
          refine l_q (by exact y_mv_bool rfl) ?_
          first | refine l_gskip rfl rfl ?_ | refine l_gskip_u rfl rfl ?_ | refine l_gdo rfl rfl (by exact y_mv_int rfl) ?_
          first | refine l_gskip rfl rfl ?_ | refine l_gskip_u rfl rfl ?_ | refine l_gdo rfl rfl (by exact y_mv_int rfl) ?_
          first | refine l_gskip rfl rfl ?_ | refine l_gskip_u rfl rfl ?_ | refine l_gdo rfl rfl (by first | exact y_muln rfl rfl (by omega) | exact y_mul rfl rfl rfl) ?_
          first | refine l_gskip rfl rfl ?_ | refine l_gskip_u rfl rfl ?_ | refine l_gdo rfl rfl (by first | exact y_leq rfl rfl (decide_eq_true (by omega)) | exact y_leq rfl rfl (decide_eq_false (by omega)) | exact y_leq rfl rfl rfl) ?_
          refine l_q (by first | exact y_pk_bt rfl rfl | exact y_pk_bf rfl rfl) ?_
          refine l_end ?_
          refine e_then ?_
          refine cond_f rfl ?_
          refine s_skip ?_
          refine e_blk ?_
          refine e_then ?_
          refine s_reg ?_
          refine l_q (by first | exact y_addn rfl rfl (by omega) | exact y_add rfl rfl rfl) ?_
          refine l_q (by exact y_mv_int rfl) ?_
          refine l_end ?_
          refine e_then ?_
          refine ⟨(i + 1, so), _, nx ⟨rfl, rfl, rfl, rfl, ?_, rfl, rfl, rfl, trivial⟩, ⟨?_, by dsimp only; omega, ?_⟩, by dsimp only; omega⟩ <;> dsimp only <;> rw [e]
          · rfl
          · exact hs
          · exact okso
      · have hi : i = ps.length := by omega
        rw [hi] at hs okso htl ⊢
        have hti := talks_in sl slot LG ps.length
        have hpw := talks_pw sl slot LG ps.length
        have hsm : Small ps := ⟨fun i hi => by have := hpb _ (mem_getD hi); omega, by omega⟩
        have htv : ∀ t ∈ talksF sl slot LG ps.length, TV ps t := fun t ht => by
          have T := hti t ht
          exact ⟨T.f, by rw [T.at_]; exact Int.mul_nonneg T.s0 (by omega), T.le, by rw [T.long_]; omega, by rw [T.long_]; omega⟩
        have hno : ∀ (i k : Nat) (x y : Talk), (talksF sl slot LG ps.length)[i]? = some x → (talksF sl slot LG ps.length)[k]? = some y → i ≠ k → NoMeet ps x y := fun i k x y hx hy hne => by
          have Tx := hti x (List.mem_of_getElem? hx)
          have Ty := hti y (List.mem_of_getElem? hy)
          exact noMeet_of hmn2 hmx2 hmm (by omega) hslot.symm Tx Ty (hsd _ _ Tx.f Ty.f (pw_get hpw hx hy hne) Tx.s0)
        generalize talksF sl slot LG ps.length = tl at *
        have hin : ∀ g, s.a = some g → InL g (.cells (ps.map I64 ++ s.sp) 3) (so.blk (tflat tl) 31 ++ (s.blk (ps.map I64) 3 ++ [(b62, .cells (sl.map I64) 3)])) := fun g hg => ⟨by simp [OS.blk, hg]⟩
        have hinT : ∀ g, so.a = some g → InL g (.cells (tflat tl ++ so.sp) 31) (so.blk (tflat tl) 31 ++ (s.blk (ps.map I64) 3 ++ [(b62, .cells (sl.map I64) 3)])) := fun g hg => ⟨by simp [OS.blk, hg]⟩
        have hot := okso
        replace htl : tl.length ≤ 8 := by omega
        refine s_seq ?_
        refine s_reg ?_
        refine l_q (by first | exact y_lss rfl rfl (decide_eq_true (by omega)) | exact y_lss rfl rfl (decide_eq_false (by omega)) | exact y_lss rfl rfl rfl) ?_
        refine l_end ?_
        refine e_then ?_
        refine s_seq ?_
        refine cond_f rfl ?_
        refine s_exit ?_
        refine e_then_x ?_
        refine e_then_x ?_
        refine e_blk_x ?_
        refine e_then ?_
        refine s_seq ?_
        refine s_reg ?_
        refine l_q (by exact y_mv_slice rfl) ?_
        refine l_q (by exact y_mv_slice rfl) ?_
        refine l_w (w_call rfl (clear_c ok hsm hot htl htv hno hin hinT hs) rfl (fun _ w h => ?_))
        obtain ⟨b109, rfl, hs⟩ := h
        refine l_q (by exact y_mv_tuple rfl) ?_
        refine l_q (by exact y_extract rfl rfl) ?_
        refine l_q (by exact y_extract rfl rfl) ?_
        refine l_q (by exact y_as_slice rfl) ?_
        refine l_q (by exact y_as_int rfl) ?_
        refine l_end ?_
        refine e_then ?_
        refine s_seq ?_
        refine s_reg ?_
        refine l_q (by exact y_mv_int rfl) ?_
        refine l_q (by first | exact y_eql rfl rfl (decide_eq_true (by omega)) | exact y_eql rfl rfl (decide_eq_false (by omega)) | exact y_eql rfl rfl rfl) ?_
        refine l_q (by exact y_mv_bool rfl) ?_
        first | refine l_gskip rfl rfl ?_ | refine l_gskip_u rfl rfl ?_ | refine l_gdo rfl rfl (by exact y_mv_slice rfl) ?_
        first | refine l_gskip rfl rfl ?_ | refine l_gskip_u rfl rfl ?_ | refine l_gdo rfl rfl (by exact y_len_slice rfl) ?_
        first | refine l_gskip rfl rfl ?_ | refine l_gskip_u rfl rfl ?_ | refine l_gdo rfl rfl (by exact y_mv_slice rfl) ?_
        first | refine l_gskip rfl rfl ?_ | refine l_gskip_u rfl rfl ?_ | refine l_gdo rfl rfl (by exact y_len_slice rfl) ?_
        first | refine l_gskip rfl rfl ?_ | refine l_gskip_u rfl rfl ?_ | refine l_gdo rfl rfl (by first | exact y_eql rfl rfl (decide_eq_true (by omega)) | exact y_eql rfl rfl (decide_eq_false (by omega)) | exact y_eql rfl rfl rfl) ?_
        refine l_q (by first | exact y_pk_bt rfl rfl | exact y_pk_bf rfl rfl) ?_
        refine l_q (by exact y_mv_bool rfl) ?_
        first | refine l_gskip rfl rfl ?_ | refine l_gskip_u rfl rfl ?_ | refine l_gdo rfl rfl (by exact y_mv_slice rfl) ?_
        first | refine l_gskip rfl rfl ?_ | refine l_gskip_u rfl rfl ?_ | (refine l_gw rfl rfl (w_call rfl (contains_c (by omega) hs) rfl (fun _ w h => ?_)); obtain ⟨rfl, hs⟩ := h)
        first | refine l_gskip rfl rfl ?_ | refine l_gskip_u rfl rfl ?_ | refine l_gdo rfl rfl (by first | exact y_not_t rfl | exact y_not_f rfl | exact y_notd rfl) ?_
        refine l_q (by first | exact y_pk_bt rfl rfl | exact y_pk_bf rfl rfl) ?_
        refine l_q (by exact y_as_bool rfl) ?_
        refine l_end ?_
        refine e_then ?_
        refine s_ret ?_
        exact ret_ [.bool _] rfl ⟨rfl, trivial⟩ ⟨rfl, hs.nil⟩
end Go.Proofs.Ytjjokonehoipbaa
