/- Facts on the functions and types of this seat that its laws are proved from: contracts under the premises that each theorem names. -/
import Derived.Test.YtfjobjbbncclbaaCte
namespace Go.Proofs.Ytfjobjbbncclbaa
open Go Go.RowKit PB
set_option linter.unusedVariables false

def waitF (r B l t n now : Int) : Int := if 1000 * n ≤ lev r B l t now then 0 else (1000 * n - lev r B l t now + r - 1) / r

theorem waitF_spec {r B l t n now : Int} (V : Vld r B l t) (m0 : t ≤ now) (m1 : now ≤ 1000000000) (n0 : 0 ≤ n) (hn : n ≤ B) (hr : 1 ≤ r) :
    0 ≤ waitF r B l t n now ∧ waitF r B l t n now ≤ 1000 * n ∧ 1000 * n ≤ lev r B l t (now + waitF r B l t n now) := by
  have hl := lev_bd V m0 m1
  unfold waitF
  split
  · refine ⟨by omega, by omega, by rw [Int.add_zero]; assumption⟩
  · rename_i h
    obtain ⟨a, b, c, d⟩ := wait_spec V m0 hn (by omega) (by omega) rfl
    exact ⟨by omega, by omega, c⟩

theorem wait_ok {W0 w : World} {L : List (Nat × MObj)} (hs : St W0 w L) {r B l t n now : Int} (V : Vld r B l t) (n0 : 0 ≤ n) (hn : n ≤ B) (m0 : t ≤ now) (m1 : now ≤ 1000000000) (hr : 1 ≤ r) :
    FnC Try.prog 12 [.agg #[.int .i64 r, .int .i64 B, .int .i64 l, .int .i64 t], .int .i64 n, .int .i64 now] w (fun v w' => v = .tuple #[.int .i64 (waitF r B l t n now), .int .i64 0] ∧ St W0 w' L) := by
  have b1 := V.b1
  unfold waitF
  split
  · exact wait_1 hs V n0 (by omega) m0 m1 (by assumption)
  · exact wait_4 hs V n0 (by omega) m0 m1 (by omega) hn (by omega) rfl

theorem wait_ok' {W0 w : World} {L : List (Nat × MObj)} (hs : St W0 w L) {r B l t n now wt : Int} (V : Vld r B l t) (hw : waitF r B l t n now = wt) (n0 : 0 ≤ n) (hn : n ≤ B) (m0 : t ≤ now) (m1 : now ≤ 1000000000) (hr : 1 ≤ r) :
    FnC Try.prog 12 [.agg #[.int .i64 r, .int .i64 B, .int .i64 l, .int .i64 t], .int .i64 n, .int .i64 now] w (fun v w' => v = .tuple #[.int .i64 wt, .int .i64 0] ∧ St W0 w' L) := by
  subst hw
  exact wait_ok hs V n0 hn m0 m1 hr

/-- The bucket's level and time behind the first i packets. -/
def stF (r B l : Int) (ns ts : List Int) : Nat → Int × Int
  | 0 => (l, 0)
  | i + 1 =>
    let s := stF r B l ns ts i
    let now := if ts.getD i 0 < s.2 then s.2 else ts.getD i 0
    let t' := now + waitF r B s.1 s.2 (ns.getD i 0) now
    (lev r B s.1 s.2 t' - 1000 * ns.getD i 0, t')

structure Ins (r B l : Int) (k : Nat) (ns ts : List Int) : Prop where
  r1 : 1 ≤ r
  r2 : r ≤ 5000
  b1 : 1 ≤ B
  b2 : B ≤ 50
  l0 : 0 ≤ l
  l1 : l ≤ 1000 * B
  k1 : k ≤ 40
  n_ : ∀ i, i < k → 0 ≤ ns.getD i 0 ∧ ns.getD i 0 ≤ B
  t_ : ∀ i, i < k → 0 ≤ ts.getD i 0 ∧ ts.getD i 0 ≤ 12000
  s_ : ∀ i, i + 1 < k → ts.getD i 0 ≤ ts.getD (i + 1) 0

theorem stF_vld {r B l : Int} {k : Nat} {ns ts : List Int} (H : Ins r B l k ns ts) : ∀ i, i ≤ k → Vld r B (stF r B l ns ts i).1 (stF r B l ns ts i).2 ∧ (stF r B l ns ts i).2 ≤ 12000 + 50000 * i := by
  intro i
  induction i with
  | zero =>
    intro _
    obtain ⟨r1, r2, b1, b2, l0, l1, _⟩ := H
    exact ⟨by constructor <;> (try simp only [stF]) <;> omega, by simp only [stF]; omega⟩
  | succ i ih =>
    intro hi
    obtain ⟨V, hb⟩ := ih (by omega)
    have hn := H.n_ i (by omega)
    have ht := H.t_ i (by omega)
    have hk := H.k1
    have hB := H.b2
    simp only [stF]
    generalize stF r B l ns ts i = s at *
    obtain ⟨li, ti⟩ := s
    dsimp only at *
    have t0 := V.t0
    generalize hnow : (if ts.getD i 0 < ti then ti else ts.getD i 0) = now
    have hnow1 : ti ≤ now ∧ now ≤ 12000 + 50000 * i := by rw [← hnow]; split <;> omega
    have hw := waitF_spec V hnow1.1 (by omega) hn.1 hn.2 H.r1
    have hl := lev_bd V (now := now + waitF r B li ti (ns.getD i 0) now) (by omega) (by omega)
    exact ⟨⟨V.r0, V.r1, V.b0, V.b1, by omega, by omega, by omega, by omega⟩, by omega⟩

/-- The i-th packet: all that the walk wants to know. -/
theorem stF_step {r B l : Int} {k : Nat} {ns ts : List Int} (H : Ins r B l k ns ts) {i : Nat} (hi : i < k) {li ti now wt : Int} (hl : (stF r B l ns ts i).1 = li) (ht : (stF r B l ns ts i).2 = ti)
    (hnow : (if ts.getD i 0 < ti then ti else ts.getD i 0) = now) (hw : waitF r B li ti (ns.getD i 0) now = wt) :
    Vld r B li ti ∧ 0 ≤ ti ∧ ti ≤ now ∧ ts.getD i 0 ≤ now ∧ now ≤ 2012000 ∧ 0 ≤ wt ∧ wt ≤ 50000 ∧ 1000 * ns.getD i 0 ≤ lev r B li ti (now + wt) ∧ (stF r B l ns ts (i + 1)).1 = lev r B li ti (now + wt) - 1000 * ns.getD i 0 ∧ (stF r B l ns ts (i + 1)).2 = now + wt := by
  obtain ⟨V, hb⟩ := stF_vld H i (by omega)
  have hn := H.n_ i (by omega)
  have htt := H.t_ i (by omega)
  have hk := H.k1
  have hB := H.b2
  have t0 := V.t0
  subst hl ht
  have hnow1 : (stF r B l ns ts i).2 ≤ now ∧ now ≤ 12000 + 50000 * i ∧ ts.getD i 0 ≤ now := by rw [← hnow]; split <;> omega
  have hws := waitF_spec V hnow1.1 (by omega) hn.1 hn.2 H.r1
  rw [hw] at hws
  refine ⟨V, t0, hnow1.1, hnow1.2.2, by omega, hws.1, by omega, hws.2.2, ?_, ?_⟩
  · simp only [stF, hnow, hw]
  · simp only [stF, hnow, hw]

def outs (r B l : Int) (ns ts : List Int) (k : Nat) : List Int := (List.range k).map fun i => (stF r B l ns ts (i + 1)).2

theorem outs_succ (r B l : Int) (ns ts : List Int) (k : Nat) : outs r B l ns ts (k + 1) = outs r B l ns ts k ++ [(stF r B l ns ts (k + 1)).2] := by
  simp [outs, List.range_succ]
theorem outs_length (r B l : Int) (ns ts : List Int) (k : Nat) : (outs r B l ns ts k).length = k := by simp [outs]
theorem outs_get (r B l : Int) (ns ts : List Int) {k i : Nat} (h : i < k) : (outs r B l ns ts k).getD i 0 = (stF r B l ns ts (i + 1)).2 := by
  simp [outs, List.getD, h]


theorem shape_c {W0 w : World} {R : List (Nat × MObj)} {s1 s2 : OS} {ns ts : List Int} {k : Nat} {r B l : Int} (hs : St W0 w (s1.blk (ns.map I64) 3 ++ (s2.blk (ts.map I64) 3 ++ R))) (ok1 : s1.ok (ns.map I64) k 1) (ok2 : s2.ok (ts.map I64) k 1) (H : Ins r B l k ns ts) :
    FnC Try.prog 13 [.agg #[.int .i64 r, .int .i64 B, .int .i64 l, .int .i64 0], .slice s1.ad k s1.cap, .slice s2.ad k s2.cap] w
      (fun v w' => ∃ so : OS, v = .tuple #[.slice so.ad k so.cap, .int .i64 0] ∧ so.ok ((outs r B l ns ts k).map I64) k 1 ∧ St W0 w' (so.blk ((outs r B l ns ts k).map I64) 3 ++ (s1.blk (ns.map I64) 3 ++ (s2.blk (ts.map I64) 3 ++ R)))) := by
  obtain ⟨V0, _⟩ := stF_vld H 0 (by omega)
  simp only [stF] at V0
  have k1 := H.k1
  have r1 := H.r1
  have b2 := H.b2
  refine FnC.enter Try.func13 rfl Try.ntmps13 rfl fun ρ => ?_
  refine s_seq ?_
  refine s_reg ?_
  refine l_w (w_boxA (vs := [_, _, _, _]) hs rfl (fun b3 w hs hb3 => ?_))
  refine l_q (by exact y_as_slice rfl) ?_
  refine l_q (by exact y_as_int rfl) ?_
  refine l_end ?_
  refine e_then ?_
  refine s_seq ?_
  refine s_seq ?_
  refine s_reg ?_
  refine l_q (by exact y_ldA (vs := [_, _, _, _]) hs rfl rfl rfl) ?_
  refine l_w (w_call rfl (check_c hs V0) rfl (fun _ w h => ?_))
  obtain ⟨rfl, hs⟩ := h
  refine l_q (by exact y_as_int rfl) ?_
  refine l_end ?_
  refine e_then ?_
  refine s_seq ?_
  refine s_reg ?_
  refine l_q (by exact y_mv_int rfl) ?_
  refine l_q (by first | exact y_neq rfl rfl (decide_eq_true (by omega)) | exact y_neq rfl rfl (decide_eq_false (by omega)) | exact y_neq rfl rfl rfl) ?_
  refine l_end ?_
  refine e_then ?_
  refine cond_f rfl ?_
  refine s_skip ?_
  refine e_then ?_
  refine s_seq ?_
  refine s_block ?_
  refine s_seq ?_
  refine s_reg ?_
  refine l_q (by exact y_mv_slice rfl) ?_
  refine l_q (by exact y_len_slice rfl) ?_
  refine l_q (by first | exact y_gtr rfl rfl (decide_eq_true (by omega)) | exact y_gtr rfl rfl (decide_eq_false (by omega)) | exact y_gtr rfl rfl rfl) ?_
  refine l_q (by exact y_as_bool rfl) ?_
  refine l_end ?_
  refine e_then ?_
  refine cond_f rfl ?_
  refine s_seq ?_
  refine s_reg ?_
  refine l_q (by exact y_mv_slice rfl) ?_
  refine l_q (by exact y_len_slice rfl) ?_
  refine l_q (by exact y_mv_slice rfl) ?_
  refine l_q (by exact y_len_slice rfl) ?_
  refine l_q (by first | exact y_neq rfl rfl (decide_eq_true (by omega)) | exact y_neq rfl rfl (decide_eq_false (by omega)) | exact y_neq rfl rfl rfl) ?_
  refine l_q (by exact y_as_bool rfl) ?_
  refine l_end ?_
  refine e_then ?_
  refine cond_f rfl ?_
  refine s_skip ?_
  refine e_blk ?_
  refine e_then ?_
  refine s_seq ?_
  refine s_reg ?_
  refine l_q (by exact y_field rfl) ?_
  refine l_q (by exact y_ld hs rfl rfl) ?_
  refine l_q (by exact y_as_int rfl) ?_
  refine l_end ?_
  refine e_then ?_
  refine s_seq ?_
  refine s_seq ?_
  refine s_reg ?_
  refine l_q (by exact y_mv_slice rfl) ?_
  refine l_q (by exact y_len_slice rfl) ?_
  refine l_q (by exact y_mv_int rfl) ?_
  refine l_end ?_
  refine e_then ?_
  refine s_block ?_
  refine loop_st (X := Nat × Int) (fun x => [(1, .slice s1.ad k s1.cap), (2, .slice s2.ad k s2.cap), (3, .pointer (some ⟨b3, 0, none⟩)), (9, .int .i64 x.2), (35, .int .i64 k), (36, .int .i64 x.1)])
    (fun x w => St W0 w ((b3, .cells [.int .i64 r, .int .i64 B, .int .i64 l, .int .i64 0] 25) :: (s1.blk (ns.map I64) 3 ++ (s2.blk (ts.map I64) 3 ++ R))) ∧ x.1 ≤ k ∧ 0 ≤ x.2 ∧ (x.1 < k → x.2 ≤ ts.getD x.1 0)) (fun x => k - x.1) (0, 0) ⟨rfl, rfl, rfl, rfl, rfl, rfl, trivial⟩ ⟨hs, by dsimp only; omega, by dsimp only; omega, fun h => (H.t_ 0 h).1⟩ ?_
  · rintro ⟨i, last⟩ ρ w ⟨hs, i1, l0, l1⟩
    dsimp only at *
    by_cases c : i < k
    · obtain ⟨g1, hg1, ha1, hc1⟩ := own_int ok1 c
      obtain ⟨g2, hg2, ha2, hc2⟩ := own_int ok2 c
      haveI := inl_blk hg1 (ns.map I64) 3
      haveI := inl_blk hg2 (ts.map I64) 3
      have hn := H.n_ i c
      have ht := H.t_ i c
      have hla := l1 c
      have hsn := H.s_ i
      refine s_seq ?_
      refine s_reg ?_
      refine l_q (by first | exact y_lss rfl rfl (decide_eq_true (by omega)) | exact y_lss rfl rfl (decide_eq_false (by omega)) | exact y_lss rfl rfl rfl) ?_
      refine l_end ?_
      refine e_then ?_
      refine s_seq ?_
      refine cond_t rfl ?_
      refine s_skip ?_
      refine e_then ?_
      refine s_seq ?_
      refine s_block ?_
      refine s_seq ?_
      refine s_reg ?_
      refine l_q (by exact y_mv_int rfl) ?_
      refine l_q (by exact y_as_int rfl) ?_
      refine l_end ?_
      refine e_then ?_
      refine s_seq ?_
      refine s_seq ?_
      refine s_reg ?_
      refine l_q (by exact y_mv_slice rfl) ?_
      refine l_q (by exact y_mv_int rfl) ?_
      refine l_q (by exact y_indexS rfl rfl (by omega) (by omega) ha1) ?_
      refine l_q (by exact y_ld hs rfl hc1) ?_
      refine l_w (w_call rfl (in_c _ _ _ _ (by omega) (by omega)) rfl (fun _ w h => ?_))
      obtain ⟨rfl, rfl⟩ := h
      refine l_q (by first | exact y_not_t rfl | exact y_not_f rfl | exact y_notd rfl) ?_
      refine l_q (by exact y_mv_bool rfl) ?_
      first | refine l_gskip rfl rfl ?_ | refine l_gskip_u rfl rfl ?_ | refine l_gdo rfl rfl (by exact y_mv_slice rfl) ?_
      first | refine l_gskip rfl rfl ?_ | refine l_gskip_u rfl rfl ?_ | refine l_gdo rfl rfl (by exact y_mv_int rfl) ?_
      first | refine l_gskip rfl rfl ?_ | refine l_gskip_u rfl rfl ?_ | refine l_gdo rfl rfl (by exact y_indexS rfl rfl (by omega) (by omega) ha2) ?_
      first | refine l_gskip rfl rfl ?_ | refine l_gskip_u rfl rfl ?_ | refine l_gdo rfl rfl (by exact y_ld hs rfl hc2) ?_
      first | refine l_gskip rfl rfl ?_ | refine l_gskip_u rfl rfl ?_ | (refine l_gw rfl rfl (w_call rfl (in_c _ _ _ _ (by omega) (by omega)) rfl (fun _ w h => ?_)); obtain ⟨rfl, rfl⟩ := h)
      first | refine l_gskip rfl rfl ?_ | refine l_gskip_u rfl rfl ?_ | refine l_gdo rfl rfl (by first | exact y_not_t rfl | exact y_not_f rfl | exact y_notd rfl) ?_
      refine l_q (by first | exact y_pk_bt rfl rfl | exact y_pk_bf rfl rfl) ?_
      refine l_end ?_
      refine e_then ?_
      refine cond_f rfl ?_
      refine s_skip ?_
      refine e_then ?_
      refine s_seq ?_
      refine s_seq ?_
      refine s_reg ?_
      refine l_q (by exact y_mv_slice rfl) ?_
      refine l_q (by exact y_mv_int rfl) ?_
      refine l_q (by exact y_indexS rfl rfl (by omega) (by omega) ha2) ?_
      refine l_q (by exact y_ld hs rfl hc2) ?_
      refine l_q (by exact y_mv_int rfl) ?_
      refine l_q (by first | exact y_lss rfl rfl (decide_eq_true (by omega)) | exact y_lss rfl rfl (decide_eq_false (by omega)) | exact y_lss rfl rfl rfl) ?_
      refine l_end ?_
      refine e_then ?_
      refine cond_f rfl ?_
      refine s_skip ?_
      refine e_then ?_
      refine s_reg ?_
      refine l_q (by exact y_mv_slice rfl) ?_
      refine l_q (by exact y_mv_int rfl) ?_
      refine l_q (by exact y_indexS rfl rfl (by omega) (by omega) ha2) ?_
      refine l_q (by exact y_ld hs rfl hc2) ?_
      refine l_q (by exact y_as_int rfl) ?_
      refine l_end ?_
      refine e_blk ?_
      refine e_then ?_
      refine s_reg ?_
      refine l_q (by first | exact y_addn rfl rfl (by omega) | exact y_add rfl rfl rfl) ?_
      refine l_q (by exact y_mv_int rfl) ?_
      refine l_end ?_
      refine e_then ?_
      exact ⟨(i + 1, ts.getD i 0), _, nx ⟨rfl, rfl, rfl, rfl, rfl, rfl, trivial⟩, ⟨hs, by dsimp only; omega, by dsimp only; omega, hsn⟩, by dsimp only; omega⟩
    · refine s_seq ?_
      refine s_reg ?_
      refine l_q (by first | exact y_lss rfl rfl (decide_eq_true (by omega)) | exact y_lss rfl rfl (decide_eq_false (by omega)) | exact y_lss rfl rfl rfl) ?_
      refine l_end ?_
      refine e_then ?_
      refine s_seq ?_
      refine cond_f rfl ?_
      refine s_exit ?_
      refine e_then_x ?_
      refine e_then_x ?_
      refine e_blk_x ?_
      refine e_then ?_
      refine s_seq ?_
      refine s_reg ?_
      refine l_q (by exact y_as_slice rfl) ?_
      refine l_end ?_
      refine e_then ?_
      refine s_seq ?_
      refine s_seq ?_
      refine s_reg ?_
      refine l_q (by exact y_mv_slice rfl) ?_
      refine l_q (by exact y_len_slice rfl) ?_
      refine l_q (by exact y_mv_int rfl) ?_
      refine l_end ?_
      refine e_then ?_
      refine s_block ?_
      refine loop_st (X := Nat × OS) (fun x => [(2, .slice s2.ad k s2.cap), (3, .pointer (some ⟨b3, 0, none⟩)), (11, .slice x.2.ad x.1 x.2.cap), (64, .slice s1.ad k s1.cap), (65, .int .i64 k), (66, .int .i64 x.1)])
        (fun x w => St W0 w (x.2.blk ((outs r B l ns ts x.1).map I64) 3 ++ ((b3, .cells [.int .i64 r, .int .i64 B, .int .i64 (stF r B l ns ts x.1).1, .int .i64 (stF r B l ns ts x.1).2] 25) :: (s1.blk (ns.map I64) 3 ++ (s2.blk (ts.map I64) 3 ++ R)))) ∧ x.1 ≤ k ∧ x.2.ok ((outs r B l ns ts x.1).map I64) x.1 1) (fun x => k - x.1) (0, OS.nl) ⟨rfl, rfl, rfl, rfl, rfl, rfl, trivial⟩ ⟨hs, by dsimp only; omega, OS.ok_nl 1⟩ ?_
      rintro ⟨i, so⟩ ρ w ⟨hs, i1, okso⟩
      dsimp only at *
      by_cases c : i < k
      · obtain ⟨g1, hg1, ha1, hc1⟩ := own_int ok1 c
        obtain ⟨g2, hg2, ha2, hc2⟩ := own_int ok2 c
        haveI := inl_blk hg1 (ns.map I64) 3
        haveI := inl_blk hg2 (ts.map I64) 3
        have hn := H.n_ i c
        obtain ⟨li, hl⟩ : ∃ x, (stF r B l ns ts i).1 = x := ⟨_, rfl⟩
        obtain ⟨ti, ht⟩ : ∃ x, (stF r B l ns ts i).2 = x := ⟨_, rfl⟩
        obtain ⟨now, hnow⟩ : ∃ x, (if ts.getD i 0 < ti then ti else ts.getD i 0) = x := ⟨_, rfl⟩
        obtain ⟨wt, hw⟩ : ∃ x, waitF r B li ti (ns.getD i 0) now = x := ⟨_, rfl⟩
        obtain ⟨V, f1, f2, f3, f4, f5, f6, f7, f8, f9⟩ := stF_step H c hl ht hnow hw
        rw [hl, ht] at hs
        refine s_seq ?_
        refine s_reg ?_
        refine l_q (by first | exact y_lss rfl rfl (decide_eq_true (by omega)) | exact y_lss rfl rfl (decide_eq_false (by omega)) | exact y_lss rfl rfl rfl) ?_
        refine l_end ?_
        refine e_then ?_
        refine s_seq ?_
        refine cond_t rfl ?_
        refine s_skip ?_
        refine e_then ?_
        refine s_seq ?_
        refine s_block ?_
        refine s_seq ?_
        refine s_reg ?_
        refine l_q (by exact y_mv_int rfl) ?_
        refine l_q (by exact y_indexS rfl rfl (by omega) (by omega) ha1) ?_
        refine l_q (by exact y_ld hs rfl hc1) ?_
        refine l_q (by exact y_as_int rfl) ?_
        refine l_q (by exact y_as_int rfl) ?_
        refine l_end ?_
        refine e_then ?_
        refine s_seq ?_
        refine r_dr (.q 0 (.q 1 (.q 2 (.q 3 (.q 4 (.q 5 (.q 6 (.q 7 (.nil))))))))) 7 hs mixed (by kernel_rfl) (fun hs => ?_)
        refine c_q rfl (by first | exact hs | exact hs.subl) (fun _ _ _ h => h) (fun w hs => by exact y_mv_slice rfl) ?_
        refine c_q rfl (by first | exact hs | exact hs.subl) (fun _ _ _ h => h) (fun w hs => by exact y_mv_int rfl) ?_
        refine c_q rfl (by first | exact hs | exact hs.subl) (fun _ _ _ h => h) (fun w hs => by exact y_indexS rfl rfl (by omega) (by omega) ha2) ?_
        refine c_q rfl (by first | exact hs | exact hs.subl) (fun _ _ _ h => h) (fun w hs => by exact y_ld hs rfl hc2) ?_
        refine c_q rfl (by first | exact hs | exact hs.subl) (fun _ _ _ h => h) (fun w hs => by exact y_field rfl) ?_
        refine c_q rfl (by first | exact hs | exact hs.subl) (fun _ _ _ h => h) (fun w hs => by exact y_ld hs rfl rfl) ?_
        refine c_q rfl (by first | exact hs | exact hs.subl) (fun _ _ _ h => h) (fun w hs => by exact y_max (v := .int .i64 now) rfl rfl (by rw [hnow])) ?_
        refine c_q rfl (by first | exact hs | exact hs.subl) (fun _ _ _ h => h) (fun w hs => by exact y_as_int rfl) ?_
        refine c_end ?_
        refine e_then ?_
        refine s_seq ?_
        refine s_reg ?_
        refine l_q (by exact y_ldA (vs := [_, _, _, _]) hs rfl rfl rfl) ?_
        refine l_q (by exact y_mv_int rfl) ?_
        refine l_q (by exact y_mv_int rfl) ?_
        refine l_w (w_call rfl (wait_ok' hs V hw (by omega) (by omega) (by omega) (by omega) r1) rfl (fun _ w h => ?_))
        obtain ⟨rfl, hs⟩ := h
        refine l_q (by exact y_mv_tuple rfl) ?_
        refine l_q (by exact y_extract rfl rfl) ?_
        refine l_q (by exact y_extract rfl rfl) ?_
        refine l_q (by exact y_as_int rfl) ?_
        refine l_q (by exact y_as_int rfl) ?_
        refine l_end ?_
        refine e_then ?_
        refine s_seq ?_
        refine s_seq ?_
        refine s_reg ?_
        refine l_q (by exact y_mv_int rfl) ?_
        refine l_q (by first | exact y_neq rfl rfl (decide_eq_true (by omega)) | exact y_neq rfl rfl (decide_eq_false (by omega)) | exact y_neq rfl rfl rfl) ?_
        refine l_end ?_
        refine e_then ?_
        refine cond_f rfl ?_
        refine s_skip ?_
        refine e_then ?_
        refine s_seq ?_
        refine s_seq ?_
        refine s_reg ?_
        refine l_q (by exact y_mv_int rfl) ?_
        refine l_q (by exact y_mv_int rfl) ?_
        refine l_q (by first | exact y_addn rfl rfl (by omega) | exact y_add rfl rfl rfl) ?_
        refine l_q (by first | exact y_gtr rfl rfl (decide_eq_true (by omega)) | exact y_gtr rfl rfl (decide_eq_false (by omega)) | exact y_gtr rfl rfl rfl) ?_
        refine l_end ?_
        refine e_then ?_
        refine cond_f rfl ?_
        refine s_skip ?_
        refine e_then ?_
        refine s_seq ?_
        refine s_reg ?_
        refine l_q (by exact y_ldA (vs := [_, _, _, _]) hs rfl rfl rfl) ?_
        refine l_q (by exact y_mv_int rfl) ?_
        refine l_q (by exact y_mv_int rfl) ?_
        refine l_q (by exact y_mv_int rfl) ?_
        refine l_q (by first | exact y_addn rfl rfl (by omega) | exact y_add rfl rfl rfl) ?_
        refine l_w (w_call rfl (take_yes hs V (by omega) (by omega) (by omega) (by omega) (by omega)) rfl (fun _ w h => ?_))
        obtain ⟨rfl, hs⟩ := h
        refine l_q (by exact y_mv_tuple rfl) ?_
        refine l_q (by exact y_extract rfl rfl) ?_
        refine l_q (by exact y_extract rfl rfl) ?_
        refine l_q (by exact y_extract rfl rfl) ?_
        refine l_w (w_storeA (vs := [_, _, _, _]) hs rfl rfl rfl rfl rfl (fun w hs => ?_))
        refine l_end ?_
        refine e_then ?_
        refine s_reg ?_
        refine l_q (by exact y_mv_slice rfl) ?_
        refine l_q (by exact y_field rfl) ?_
        refine l_q (by exact y_ld hs rfl rfl) ?_
        refine l_w (w_buildSlice (pv := [(0, .int .i64 _)]) (vs := [_]) hs rfl rfl rfl rfl (fun b105 w hs hb105 => ?_))
        refine l_w (w_append (ys := [_]) [(b105, _)] hs okso rfl rfl rfl rfl rfl rfl (by decide) (by decide) (by omega) (fun so' w okso' hg' hs => ?_))
        refine l_q (by exact y_as_slice rfl) ?_
        refine l_end ?_
        refine e_blk ?_
        refine e_then ?_
        refine s_reg ?_
        refine l_q (by first | exact y_addn rfl rfl (by omega) | exact y_add rfl rfl rfl) ?_
        refine l_q (by exact y_mv_int rfl) ?_
        refine l_end ?_
        refine e_then ?_
        refine ⟨(i + 1, so'), _, nx ⟨rfl, rfl, rfl, rfl, rfl, rfl, trivial⟩, ⟨?_, by dsimp only; omega, ?_⟩, by dsimp only; omega⟩ <;> dsimp only <;> rw [outs_succ, List.map_append]
        · rw [f8, f9]
          exact hs.tail
        · rw [f9]
          exact okso'
      · have hik : i = k := by omega
        subst hik
        refine s_seq ?_
        refine s_reg ?_
        refine l_q (by first | exact y_lss rfl rfl (decide_eq_true (by omega)) | exact y_lss rfl rfl (decide_eq_false (by omega)) | exact y_lss rfl rfl rfl) ?_
        refine l_end ?_
        refine e_then ?_
        refine s_seq ?_
        refine cond_f rfl ?_
        refine s_exit ?_
        refine e_then_x ?_
        refine e_then_x ?_
        refine e_blk_x ?_
        refine e_then ?_
        refine s_seq ?_
        refine s_reg ?_
        refine l_q (by exact y_mv_slice rfl) ?_
        refine l_q (by exact y_as_slice rfl) ?_
        refine l_q (by exact y_as_int rfl) ?_
        refine l_end ?_
        refine e_then ?_
        refine s_ret ?_
        exact ret_ [.slice _ _ _, .int .i64 _] rfl ⟨rfl, rfl, trivial⟩ ⟨so, rfl, okso, hs.sub (List.Sublist.append_left (List.sublist_cons_self ..) _)⟩
end Go.Proofs.Ytfjobjbbncclbaa
