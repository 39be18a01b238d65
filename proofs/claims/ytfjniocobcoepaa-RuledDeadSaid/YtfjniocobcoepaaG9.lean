/- Facts on the functions and types of this seat that its laws are proved from: contracts under the premises that each theorem names. -/
import Derived.Test.YtfjniocobcoepaaG8
set_option linter.unusedSimpArgs false
set_option linter.unusedVariables false
set_option linter.unnecessarySimpa false
namespace Go.Proofs.Ytfjniocobcoepaa
open Go Go.RowKit PB
set_option linter.unusedVariables false
set_option linter.unusedSimpArgs false

/-! ### What is known of a diagram -/
structure Kn (s : DS) (a : Nat) (f : (Nat → Bool) → Bool) : Prop where
  lt : a < s.nodes.length
  sem : ∀ e, ev s a e = f e
structure Nx (s s' : DS) (k : Nat) : Prop where
  inv : Inv s'
  ext : Ext s s'
  cnt : s'.nodes.length ≤ s.nodes.length + k
theorem Kn.up {s s' : DS} {a k : Nat} {f : (Nat → Bool) → Bool} (h : Kn s a f) (W : Inv s) (n : Nx s s' k) : Kn s' a f :=
  ⟨Nat.lt_of_lt_of_le h.lt n.ext.len, fun e => by rw [ev_ext W.toWf0 n.ext e h.lt]; exact h.sem e⟩
theorem Kn.mk' {s : DS} {a : Nat} (h : a < s.nodes.length) : Kn s a (ev s a) := ⟨h, fun _ => rfl⟩
theorem Kn.eq {s : DS} (h : Inv s) {a b : Nat} {f g : (Nat → Bool) → Bool} (A : Kn s a f) (B : Kn s b g) (hfg : ∀ e, f e = g e) : a = b :=
  canon' h A.lt B.lt fun e => by rw [A.sem, B.sem]; exact hfg e
theorem kn0 {s : DS} (h : Inv s) : Kn s 0 fun _ => false := ⟨by have := h.n2; omega, ev_0 s⟩
theorem kn1 {s : DS} (h : Inv s) : Kn s 1 fun _ => true := ⟨by have := h.n2; omega, ev_1 s⟩

section
variable {W0 w : World} {M : MB} {s : DS} {R : List (Nat × MObj)} {a b c : Nat} {f g k : (Nat → Bool) → Bool}
theorem pow7 {n : Nat} (h : n ≤ 7) : 2 ^ n ≤ 128 := (Nat.pow_le_pow_right (by decide) h : 2 ^ n ≤ 2 ^ 7)
theorem if_kn (h : Inv s) (h7 : s.vars = 7) (A : Kn s a f) (B : Kn s b g) (C : Kn s c k) : Nx s (ifF s a b c).1 127 ∧ Kn (ifF s a b c).1 (ifF s a b c).2 (fun e => if f e then g e else k e) := by
  have S := if_spec h A.lt B.lt C.lt
  have hp := pow7 (n := s.vars - topV s a b c) (by omega)
  have := S.cnt
  exact ⟨⟨S.inv, S.ext, by omega⟩, ⟨S.lt, fun e => by rw [S.sem, A.sem, B.sem, C.sem]⟩⟩
theorem if_k (h : Inv s) (h7 : s.vars = 7) (A : Kn s a f) (B : Kn s b g) (C : Kn s c k) (hn : s.nodes.length ≤ 50000) (hd : Dg W0 w M s R) :
    FnC Try.prog 19 [M.p, I64 a, I64 b, I64 c] w (fun v w' => ∃ s' r, v = .tuple #[I64 (r : Nat), I64 0] ∧ Nx s s' 254 ∧ Kn s' r (fun e => if f e then g e else k e) ∧ Dg W0 w' M s' R) := by
  obtain ⟨N, K⟩ := if_kn h h7 A B C
  have := N.cnt
  exact (if_c h A.lt B.lt C.lt (by omega) hd).mono fun v w' ⟨h1, h2⟩ => ⟨_, _, h1, ⟨N.inv, N.ext, by omega⟩, K, h2⟩
theorem not_k (h : Inv s) (h7 : s.vars = 7) (A : Kn s a f) (hn : s.nodes.length ≤ 50000) (hd : Dg W0 w M s R) :
    FnC Try.prog 15 [M.p, I64 a] w (fun v w' => ∃ s' r, v = .tuple #[I64 (r : Nat), I64 0] ∧ Nx s s' 254 ∧ Kn s' r (fun e => !f e) ∧ Dg W0 w' M s' R) := by
  obtain ⟨N, K⟩ := if_kn h h7 A (kn0 h) (kn1 h)
  have := N.cnt
  exact (not_c h A.lt (by omega) hd).mono fun v w' ⟨h1, h2⟩ => ⟨_, _, h1, ⟨N.inv, N.ext, by omega⟩, ⟨K.lt, fun e => by rw [K.sem]; cases f e <;> rfl⟩, h2⟩
theorem and_k (h : Inv s) (h7 : s.vars = 7) (A : Kn s a f) (B : Kn s b g) (hn : s.nodes.length ≤ 50000) (hd : Dg W0 w M s R) :
    FnC Try.prog 16 [M.p, I64 a, I64 b] w (fun v w' => ∃ s' r, v = .tuple #[I64 (r : Nat), I64 0] ∧ Nx s s' 254 ∧ Kn s' r (fun e => f e && g e) ∧ Dg W0 w' M s' R) := by
  obtain ⟨N, K⟩ := if_kn h h7 A B (kn0 h)
  have := N.cnt
  exact (and_c h A.lt B.lt (by omega) hd).mono fun v w' ⟨h1, h2⟩ => ⟨_, _, h1, ⟨N.inv, N.ext, by omega⟩, ⟨K.lt, fun e => by rw [K.sem]; cases f e <;> rfl⟩, h2⟩
theorem or_k (h : Inv s) (h7 : s.vars = 7) (A : Kn s a f) (B : Kn s b g) (hn : s.nodes.length ≤ 50000) (hd : Dg W0 w M s R) :
    FnC Try.prog 17 [M.p, I64 a, I64 b] w (fun v w' => ∃ s' r, v = .tuple #[I64 (r : Nat), I64 0] ∧ Nx s s' 254 ∧ Kn s' r (fun e => f e || g e) ∧ Dg W0 w' M s' R) := by
  obtain ⟨N, K⟩ := if_kn h h7 A (kn1 h) B
  have := N.cnt
  exact (or_c h A.lt B.lt (by omega) hd).mono fun v w' ⟨h1, h2⟩ => ⟨_, _, h1, ⟨N.inv, N.ext, by omega⟩, ⟨K.lt, fun e => by rw [K.sem]; cases f e <;> rfl⟩, h2⟩
theorem xor_k (h : Inv s) (h7 : s.vars = 7) (A : Kn s a f) (B : Kn s b g) (hn : s.nodes.length ≤ 50000) (hd : Dg W0 w M s R) :
    FnC Try.prog 18 [M.p, I64 a, I64 b] w (fun v w' => ∃ s' r, v = .tuple #[I64 (r : Nat), I64 0] ∧ Nx s s' 254 ∧ Kn s' r (fun e => xor (f e) (g e)) ∧ Dg W0 w' M s' R) := by
  obtain ⟨N, K⟩ := if_kn h h7 B (kn0 h) (kn1 h)
  obtain ⟨N2, K2⟩ := if_kn N.inv (N.ext.vars.trans h7) (A.up h N) K (B.up h N)
  have := N.cnt
  have := N2.cnt
  exact (xor_c h A.lt B.lt (show (ifF (ifF s b 0 1).1 a (ifF s b 0 1).2 b).1.nodes.length ≤ 60000 by omega) hd).mono fun v w' ⟨h1, h2⟩ => ⟨_, _, h1, ⟨N2.inv, N.ext.trans N2.ext, by omega⟩, ⟨K2.lt, fun e => (K2.sem e).trans (by cases f e <;> cases g e <;> rfl)⟩, h2⟩
theorem var_k (h : Inv s) (h7 : s.vars = 7) {i : Nat} (hi : i < 7) (hn : s.nodes.length ≤ 50000) (hd : Dg W0 w M s R) :
    FnC Try.prog 20 [M.p, I64 i] w (fun v w' => ∃ s' r, v = .tuple #[I64 (r : Nat), I64 0] ∧ Nx s s' 1 ∧ Kn s' r (fun e => e i) ∧ Dg W0 w' M s' R) := by
  have N := var_spec h (i := i) (by omega)
  have := N.cnt
  exact (var_c h (by omega) (by omega) hd).mono fun v w' ⟨h1, h2⟩ => ⟨_, _, h1, ⟨N.inv, N.ext, N.cnt⟩, ⟨N.lt, fun e => by rw [N.sem, ev_0, ev_1]; cases e i <;> rfl⟩, h2⟩
end
theorem stB_outN {W0 w : World} {M : MB} {s : DS} {os : OS} : ∀ {Q R : List (Nat × MObj)}, St W0 w (stB M s os (Q ++ R)) → St W0 w (Q ++ stB M s os R) := by
  intro Q R h
  refine h.perm (List.Perm.symm ?_)
  refine List.perm_middle.trans (List.Perm.cons _ ?_)
  generalize os.blk (flatN s.nodes) 39 = B
  refine (List.perm_append_comm_assoc Q B _).trans (List.Perm.append_left _ ?_)
  exact List.perm_middle.trans (List.Perm.cons _ List.perm_middle)

/-! ### drawn -/
abbrev nI (l : List Nat) : List Int := l.map fun (k : Nat) => (k : Int)
abbrev nV (l : List Nat) : List Value := (nI l).map I64
theorem own_now {s : OS} {l : List Nat} (hok : s.ok (nV l) l.length 1) {j : Nat} (hj : j < l.length) :
    ∃ g, s.a = some g ∧ s.ad = some ⟨g, 0, none⟩ ∧ (nV l ++ s.sp)[j]? = some (I64 ((l.getD j 0 : Nat) : Int)) := by
  obtain ⟨g, h1, h2, h3⟩ := own_int hok hj
  refine ⟨g, h1, h2, ?_⟩
  have e : 0 + (j : Int).toNat * 1 = j := by omega
  rw [e] at h3
  rw [nV, h3]
  simp [nI, hj]
theorem rest_e {a b r : Int} (hr : a % b = r) (w : World) (hb : 0 < b) (hb2 : b ≤ 1000000000) : FnC Try.prog 14 [.int .i64 a, .int .i64 b] w (fun v w' => v = .int .i64 r ∧ w' = w) := by
  subst hr; exact rest_c a b w hb hb2
theorem nV_app (l : List Nat) (r : Nat) : nV (l ++ [r]) = nV l ++ [I64 (r : Nat)] := by simp [nV, nI]

structure DrI (s : DS) (l : List Nat) (ol : OS) (n k : Nat) : Prop where
  inv : Inv s
  v7 : s.vars = 7
  len : l.length = n
  lt : ∀ a ∈ l, a < s.nodes.length
  cnt : s.nodes.length ≤ k
  ok : ol.ok (nV l) l.length 1

theorem DrI.next {s s' : DS} {l : List Nat} {ol ol' : OS} {n k k' r j m : Nat} (h : DrI s l ol n k) (N : Nx s s' j) (hr : r < s'.nodes.length) (hk : k + j ≤ k') (hm : n + 1 = m) (hok : ol'.ok (nV l ++ [I64 (r : Nat)]) (l.length + 1) 1) : DrI s' (l ++ [r]) ol' m k' := by
  refine ⟨N.inv, N.ext.vars.trans h.v7, by simp [h.len]; omega, fun a ha => ?_, by have := N.cnt; have := h.cnt; omega, by rw [nV_app, List.length_append]; exact hok⟩
  have hl := N.ext.len
  rw [List.mem_append] at ha
  rcases ha with ha | ha
  · have := h.lt a ha; omega
  · simp at ha; omega


theorem drawn_c {W w : World} {M : MB} {R : List (Nat × MObj)} {a0 a1 a2 : Option Addr} {n0 n1 n2 c0 c1 c2 : Nat} {z0 z1 z2 : List Int} (h0 : Ints W a0 n0 z0) (h1 : Ints W a1 n1 z1) (h2 : Ints W a2 n2 z2)
    (l0 : n0 ≤ 9223372036854775807) (l1 : n1 ≤ 9223372036854775807) (l2 : n2 ≤ 9223372036854775807) (hd : Dg W w M (initS 7) R) :
    FnC Try.prog 13 [M.p, .slice a0 n0 c0, .slice a1 n1 c1, .slice a2 n2 c2] w (fun v w' => ∃ s l ol n, v = .slice ol.ad l.length ol.cap ∧ DrI s l ol n 7000 ∧ 9 ≤ n ∧ n ≤ 34 ∧ Dg W w' M s (ol.blk (nV l) 3 ++ R)) := by
  obtain ⟨os, hos, hs⟩ := hd.ex
  refine FnC.enter Try.func13 rfl Try.ntmps13 rfl fun ρ => ?_
  refine s_seq ?_
  refine s_reg ?_
  refine l_q (by exact y_as_slice rfl) ?_
  refine l_end ?_
  refine e_then ?_
  refine s_seq ?_
  refine s_reg ?_
  refine l_w (w_buildSlice (pv := [(0, .int .i64 _), (1, .int .i64 _)]) (vs := [_, _]) hs rfl rfl rfl rfl (fun b17 w hs hb17 => ?_))
  refine l_q (by exact y_as_slice rfl) ?_
  refine l_end ?_
  refine e_then ?_
  refine s_seq ?_
  refine s_seq ?_
  refine s_reg ?_
  refine l_q (by exact y_as_int rfl) ?_
  refine l_end ?_
  refine e_then ?_
  refine s_block ?_
  replace hs := stB_rotN (Q := [_]) hs
  refine loop_st (X := Nat × DS × OS × List Nat) (fun y => [(0, M.p), (1, .slice a0 n0 c0), (2, .slice a1 n1 c1), (3, .slice a2 n2 c2), (9, .slice y.2.2.1.ad y.2.2.2.length y.2.2.1.cap), (10, I64 y.1)])
    (fun y w => Dg W w M y.2.1 (y.2.2.1.blk (nV y.2.2.2) 3 ++ R) ∧ DrI y.2.1 y.2.2.2 y.2.2.1 (2 + y.1) (2 + y.1) ∧ y.1 ≤ 7) (fun y => 7 - y.1) (0, initS 7, ⟨some b17, 2, []⟩, [0, 1]) ⟨rfl, rfl, rfl, rfl, rfl, rfl, trivial⟩
    ⟨⟨os, hos, hs⟩, ⟨init_inv (by decide), rfl, rfl, (by show ∀ a ∈ [0, 1], a < 2; decide), Nat.le_refl _, ⟨rfl, rfl, Nat.le_refl _, fun h => by cases h⟩⟩, Nat.zero_le _⟩ ?_
  clear hs hd hos
  rintro ⟨i, s, ol, l⟩ ρ w ⟨hd, D, i1⟩
  dsimp only at hd D i1 ⊢
  have hlen := D.len
  have hcnt := D.cnt
  have hokl := D.ok
  by_cases c : i < 7
  · refine s_seq ?_
    refine s_seq ?_
    refine s_reg ?_
    refine l_q (by exact y_mv_int rfl) ?_
    refine l_q (by first | exact y_lss rfl rfl (decide_eq_true (by omega)) | exact y_lss rfl rfl (decide_eq_false (by omega)) | exact y_lss rfl rfl rfl) ?_
    refine l_end ?_
    refine e_then ?_
    refine cond_t rfl ?_
    refine s_skip ?_
    refine e_then ?_
    refine s_seq ?_
    refine s_block ?_
    refine s_seq ?_
    refine s_reg ?_
    refine l_q (by exact y_mv_ptr rfl) ?_
    refine l_q (by exact y_mv_int rfl) ?_
    refine l_w (w_call rfl (var_k D.inv D.v7 c (by omega) hd) rfl (fun _ w h => ?_))
    obtain ⟨s1, r1, rfl, N1, K1, hd⟩ := h; obtain ⟨os, hos, hs⟩ := hd.ex; replace hs := stB_outN hs
    refine l_q (by exact y_mv_tuple rfl) ?_
    refine l_q (by exact y_extract rfl rfl) ?_
    refine l_q (by exact y_extract rfl rfl) ?_
    refine l_q (by exact y_as_int rfl) ?_
    refine l_q (by exact y_as_int rfl) ?_
    refine l_end ?_
    refine e_then ?_
    refine s_reg ?_
    refine l_q (by exact y_mv_slice rfl) ?_
    refine l_q (by exact y_mv_int rfl) ?_
    refine l_w (w_buildSlice (pv := [(0, .int .i64 _)]) (vs := [_]) hs rfl rfl rfl rfl (fun b30 w hs hb30 => ?_))
    refine l_w (w_append (ys := [_]) [(b30, _)] hs hokl rfl rfl rfl rfl rfl rfl (.inl (by decide)) (by decide) (by omega) (fun ol' w okl' hgl' hs => ?_))
    replace hs := stB_rotN hs.tail
    refine l_q (by exact y_as_slice rfl) ?_
    refine l_end ?_
    refine e_blk ?_
    refine e_then ?_
    refine s_reg ?_
    refine l_q (by exact y_mv_int rfl) ?_
    refine l_q (by first | exact y_addn rfl rfl (by omega) | exact y_add rfl rfl rfl) ?_
    refine l_q (by exact y_as_int rfl) ?_
    refine l_end ?_
    refine e_then ?_
    refine ⟨(i + 1, s1, ol', l ++ [r1]), _, nx ⟨rfl, rfl, rfl, rfl, ?_, rfl, trivial⟩, ⟨?_, D.next N1 K1.lt (by omega) (by omega) okl', by dsimp only; omega⟩, by dsimp only; omega⟩
    · dsimp only; rw [List.length_append]; rfl
    · dsimp only; rw [nV_app]; exact ⟨os, hos, hs⟩
  · have hi : i = 7 := by omega
    subst hi
    refine s_seq ?_
    refine s_seq ?_
    refine s_reg ?_
    refine l_q (by exact y_mv_int rfl) ?_
    refine l_q (by first | exact y_lss rfl rfl (decide_eq_true (by omega)) | exact y_lss rfl rfl (decide_eq_false (by omega)) | exact y_lss rfl rfl rfl) ?_
    refine l_end ?_
    refine e_then ?_
    refine cond_f rfl ?_
    refine s_exit ?_
    refine e_then_x ?_
    refine e_then_x ?_
    refine e_blk_x ?_
    refine e_then ?_
    refine s_seq ?_
    refine s_seq ?_
    refine s_reg ?_
    refine l_q (by exact y_as_int rfl) ?_
    refine l_end ?_
    refine e_then ?_
    refine s_block ?_
    refine loop_st (X := Nat × DS × OS × List Nat) (fun y => [(0, M.p), (1, .slice a0 n0 c0), (2, .slice a1 n1 c1), (3, .slice a2 n2 c2), (9, .slice y.2.2.1.ad y.2.2.2.length y.2.2.1.cap), (13, I64 y.1)])
      (fun y w => Dg W w M y.2.1 (y.2.2.1.blk (nV y.2.2.2) 3 ++ R) ∧ DrI y.2.1 y.2.2.2 y.2.2.1 (9 + y.1) (9 + 254 * y.1) ∧ y.1 ≤ 25) (fun y => 25 - y.1) (0, s, ol, l) ⟨rfl, rfl, rfl, rfl, rfl, rfl, trivial⟩ ⟨hd, D, by dsimp only; omega⟩ ?_
    clear hd D hlen hcnt hokl c i1
    clear s ol l
    rintro ⟨i, s, ol, l⟩ ρ w ⟨hd, D, i1⟩
    dsimp only at hd D i1 ⊢
    have hlen := D.len
    have hcnt := D.cnt
    have hokl := D.ok
    have hfin : DrI s l ol (9 + i) 7000 := ⟨D.inv, D.v7, D.len, D.lt, by omega, D.ok⟩
    by_cases c1 : i < n0
    · by_cases c2 : i < n1
      · by_cases c3 : i < n2
        · by_cases c4 : i < 25
          · obtain ⟨x0, hx0, hc0⟩ := h0.at_ i c1
            obtain ⟨x1, hx1, hc1⟩ := h1.at_ i c2
            obtain ⟨x2, hx2, hc2⟩ := h2.at_ i c3
            have hq1 := Int.emod_nonneg (z1.getD i 0) (show (l.length : Int) ≠ 0 by omega)
            have hq2 := Int.emod_lt_of_pos (z1.getD i 0) (show (0 : Int) < l.length by omega)
            have hq3 := Int.emod_nonneg (z2.getD i 0) (show (l.length : Int) ≠ 0 by omega)
            have hq4 := Int.emod_lt_of_pos (z2.getD i 0) (show (0 : Int) < l.length by omega)
            obtain ⟨ia, hra⟩ : ∃ n : Nat, z1.getD i 0 % (l.length : Int) = n := ⟨_, (Int.toNat_of_nonneg hq1).symm⟩
            obtain ⟨ib, hrb⟩ : ∃ n : Nat, z2.getD i 0 % (l.length : Int) = n := ⟨_, (Int.toNat_of_nonneg hq3).symm⟩
            rw [hra] at hq2
            rw [hrb] at hq4
            clear hq1 hq3
            obtain ⟨g, hg, had, hca⟩ := own_now hokl (j := ia) (by omega)
            obtain ⟨g', hg', had', hcb⟩ := own_now hokl (j := ib) (by omega)
            have A : Kn s (l.getD ia 0) _ := Kn.mk' (D.lt _ (by have hh : ia < l.length := (by omega); simp [hh]))
            have B : Kn s (l.getD ib 0) _ := Kn.mk' (D.lt _ (by have hh : ib < l.length := (by omega); simp [hh]))
            have e : g' = g := by rw [hg] at hg'; exact (Option.some.inj hg').symm
            subst e
            haveI := inl_blk hg (nV l) 3
            obtain ⟨os, hos, hs⟩ := hd.ex
            obtain ⟨kk, hrk⟩ : ∃ r, z0.getD i 0 % 3 = r := ⟨_, rfl⟩
            have hk3 : 0 ≤ kk ∧ kk < 3 := by omega
            by_cases k0 : kk = 0
            · refine s_seq ?_
              refine s_seq ?_
              refine s_reg ?_
              refine l_q (by exact y_mv_int rfl) ?_
              refine l_q (by exact y_mv_slice rfl) ?_
              refine l_q (by exact y_len_slice rfl) ?_
              refine l_q (by first | exact y_lss rfl rfl (decide_eq_true (by omega)) | exact y_lss rfl rfl (decide_eq_false (by omega)) | exact y_lss rfl rfl rfl) ?_
              refine l_q (by exact y_mv_bool rfl) ?_
              first | refine l_gskip rfl rfl ?_ | refine l_gskip_u rfl rfl ?_ | refine l_gdo rfl rfl (by exact y_mv_int rfl) ?_
              first | refine l_gskip rfl rfl ?_ | refine l_gskip_u rfl rfl ?_ | refine l_gdo rfl rfl (by exact y_mv_slice rfl) ?_
              first | refine l_gskip rfl rfl ?_ | refine l_gskip_u rfl rfl ?_ | refine l_gdo rfl rfl (by exact y_len_slice rfl) ?_
              first | refine l_gskip rfl rfl ?_ | refine l_gskip_u rfl rfl ?_ | refine l_gdo rfl rfl (by first | exact y_lss rfl rfl (decide_eq_true (by omega)) | exact y_lss rfl rfl (decide_eq_false (by omega)) | exact y_lss rfl rfl rfl) ?_
              refine l_q (by first | exact y_pk_bt rfl rfl | exact y_pk_bf rfl rfl) ?_
              refine l_q (by exact y_mv_bool rfl) ?_
              first | refine l_gskip rfl rfl ?_ | refine l_gskip_u rfl rfl ?_ | refine l_gdo rfl rfl (by exact y_mv_int rfl) ?_
              first | refine l_gskip rfl rfl ?_ | refine l_gskip_u rfl rfl ?_ | refine l_gdo rfl rfl (by exact y_mv_slice rfl) ?_
              first | refine l_gskip rfl rfl ?_ | refine l_gskip_u rfl rfl ?_ | refine l_gdo rfl rfl (by exact y_len_slice rfl) ?_
              first | refine l_gskip rfl rfl ?_ | refine l_gskip_u rfl rfl ?_ | refine l_gdo rfl rfl (by first | exact y_lss rfl rfl (decide_eq_true (by omega)) | exact y_lss rfl rfl (decide_eq_false (by omega)) | exact y_lss rfl rfl rfl) ?_
              refine l_q (by first | exact y_pk_bt rfl rfl | exact y_pk_bf rfl rfl) ?_
              refine l_q (by exact y_mv_bool rfl) ?_
              first | refine l_gskip rfl rfl ?_ | refine l_gskip_u rfl rfl ?_ | refine l_gdo rfl rfl (by exact y_mv_int rfl) ?_
              first | refine l_gskip rfl rfl ?_ | refine l_gskip_u rfl rfl ?_ | refine l_gdo rfl rfl (by first | exact y_lss rfl rfl (decide_eq_true (by omega)) | exact y_lss rfl rfl (decide_eq_false (by omega)) | exact y_lss rfl rfl rfl) ?_
              refine l_q (by first | exact y_pk_bt rfl rfl | exact y_pk_bf rfl rfl) ?_
              refine l_end ?_
              refine e_then ?_
              refine cond_t rfl ?_
              refine s_skip ?_
              refine e_then ?_
              refine s_seq ?_
              refine s_block ?_
              refine s_seq ?_
              refine r_dr (.q 0 (.q 1 (.q 2 (.q 3 (.q 4 (.q 5 (.q 6 (.q 7 (.q 8 (.q 9 (.q 10 (.q 11 (.q 12 (.q 13 (.q 14 (.q 15 (.q 16 (.q 17 (.q 18 (.q 19 (.q 20 (.q 21 (.nil))))))))))))))))))))))) 21 hs mixed (by kernel_rfl) (fun hs => ?_)
              refine c_q rfl (by first | exact hs | exact hs.subl | exact hs.cellAt rfl | trivial) (fun _ _ _ h => h) (fun w hs => by exact y_mv_slice rfl) ?_
              refine c_q rfl (by first | exact hs | exact hs.subl | exact hs.cellAt rfl | trivial) (fun _ _ _ h => h) (fun w hs => by exact y_mv_slice rfl) ?_
              refine c_q rfl (by first | exact hs | exact hs.subl | exact hs.cellAt rfl | trivial) (fun _ _ _ h => h) (fun w hs => by exact y_mv_int rfl) ?_
              refine c_q rfl (by first | exact hs | exact hs.subl | exact hs.cellAt rfl | trivial) (fun _ _ _ h => h) (fun w hs => by exact y_indexA1 rfl rfl (by omega) (by omega) hx1) ?_
              refine c_q rfl (by first | exact hs | exact hs.subl | exact hs.cellAt rfl | trivial) (fun _ _ _ h => h) (fun w hs => by exact y_ldOld hs rfl hc1) ?_
              refine c_q rfl (by first | exact hs | exact hs.subl | exact hs.cellAt rfl | trivial) (fun _ _ _ h => h) (fun w hs => by exact y_mv_slice rfl) ?_
              refine c_q rfl (by first | exact hs | exact hs.subl | exact hs.cellAt rfl | trivial) (fun _ _ _ h => h) (fun w hs => by exact y_len_slice rfl) ?_
              refine c_qc rfl (by first | exact hs | exact hs.subl | exact hs.cellAt rfl | trivial) (fun _ _ _ h => h) rfl (fun w hs => by first | exact rest_e hra _ (by omega) (by omega) | exact rest_e hrb _ (by omega) (by omega)) rfl ?_
              refine c_q rfl (by first | exact hs | exact hs.subl | exact hs.cellAt rfl | trivial) (fun _ _ _ h => h) (fun w hs => by exact y_indexT (off := ia) rfl rfl (by omega) (by omega) had (by omega)) ?_
              refine c_q rfl (by first | exact hs | exact hs.subl | exact hs.cellAt rfl | trivial) (fun _ _ _ h => h) (fun w hs => by exact y_ld (v := I64 ((l.getD ia 0 : Nat) : Int)) hs rfl hca) ?_
              refine c_q rfl (by first | exact hs | exact hs.subl | exact hs.cellAt rfl | trivial) (fun _ _ _ h => h) (fun w hs => by exact y_mv_slice rfl) ?_
              refine c_q rfl (by first | exact hs | exact hs.subl | exact hs.cellAt rfl | trivial) (fun _ _ _ h => h) (fun w hs => by exact y_mv_slice rfl) ?_
              refine c_q rfl (by first | exact hs | exact hs.subl | exact hs.cellAt rfl | trivial) (fun _ _ _ h => h) (fun w hs => by exact y_mv_int rfl) ?_
              refine c_q rfl (by first | exact hs | exact hs.subl | exact hs.cellAt rfl | trivial) (fun _ _ _ h => h) (fun w hs => by exact y_indexA1 rfl rfl (by omega) (by omega) hx2) ?_
              refine c_q rfl (by first | exact hs | exact hs.subl | exact hs.cellAt rfl | trivial) (fun _ _ _ h => h) (fun w hs => by exact y_ldOld hs rfl hc2) ?_
              refine c_q rfl (by first | exact hs | exact hs.subl | exact hs.cellAt rfl | trivial) (fun _ _ _ h => h) (fun w hs => by exact y_mv_slice rfl) ?_
              refine c_q rfl (by first | exact hs | exact hs.subl | exact hs.cellAt rfl | trivial) (fun _ _ _ h => h) (fun w hs => by exact y_len_slice rfl) ?_
              refine c_qc rfl (by first | exact hs | exact hs.subl | exact hs.cellAt rfl | trivial) (fun _ _ _ h => h) rfl (fun w hs => by first | exact rest_e hra _ (by omega) (by omega) | exact rest_e hrb _ (by omega) (by omega)) rfl ?_
              refine c_q rfl (by first | exact hs | exact hs.subl | exact hs.cellAt rfl | trivial) (fun _ _ _ h => h) (fun w hs => by exact y_indexT (off := ib) rfl rfl (by omega) (by omega) had (by omega)) ?_
              refine c_q rfl (by first | exact hs | exact hs.subl | exact hs.cellAt rfl | trivial) (fun _ _ _ h => h) (fun w hs => by exact y_ld (v := I64 ((l.getD ib 0 : Nat) : Int)) hs rfl hcb) ?_
              refine c_q rfl (by first | exact hs | exact hs.subl | exact hs.cellAt rfl | trivial) (fun _ _ _ h => h) (fun w hs => by exact y_as_int rfl) ?_
              refine c_q rfl (by first | exact hs | exact hs.subl | exact hs.cellAt rfl | trivial) (fun _ _ _ h => h) (fun w hs => by exact y_as_int rfl) ?_
              refine c_end ?_
              refine e_then ?_
              refine s_seq ?_
              refine s_reg ?_
              refine l_q (by exact y_as_int rfl) ?_
              refine l_end ?_
              refine e_then ?_
              refine s_seq ?_
              refine s_seq ?_
              refine s_reg ?_
              refine l_q (by exact y_mv_slice rfl) ?_
              refine l_q (by exact y_mv_int rfl) ?_
              refine l_q (by exact y_indexA1 rfl rfl (by omega) (by omega) hx0) ?_
              refine l_q (by exact y_ldOld hs rfl hc0) ?_
              refine l_w (w_call rfl (rest_e hrk _ (by decide) (by decide)) rfl (fun _ w h => ?_))
              obtain ⟨rfl, rfl⟩ := h
              refine l_end ?_
              refine e_then ?_
              refine s_block ?_
              refine s_seq ?_
              refine s_reg ?_
              refine l_q (by first | exact y_eql rfl rfl (decide_eq_true (by omega)) | exact y_eql rfl rfl (decide_eq_false (by omega)) | exact y_eql rfl rfl rfl) ?_
              refine l_q (by exact y_as_bool rfl) ?_
              refine l_end ?_
              refine e_then ?_
              refine cond_t rfl ?_
              refine s_reg ?_
              refine l_q (by exact y_mv_ptr rfl) ?_
              refine l_q (by exact y_mv_int rfl) ?_
              refine l_q (by exact y_mv_int rfl) ?_
              refine l_w (w_call rfl (and_k D.inv D.v7 A B (by omega) ⟨os, hos, hs⟩) rfl (fun _ w h => ?_))
              obtain ⟨s1, r1, rfl, N1, K1, hd⟩ := h; obtain ⟨os, hos, hs⟩ := hd.ex; replace hs := stB_outN hs
              refine l_q (by exact y_mv_tuple rfl) ?_
              refine l_q (by exact y_extract rfl rfl) ?_
              refine l_q (by exact y_extract rfl rfl) ?_
              refine l_q (by exact y_as_int rfl) ?_
              refine l_end ?_
              refine e_blk ?_
              refine e_then ?_
              refine s_reg ?_
              refine l_q (by exact y_mv_slice rfl) ?_
              refine l_q (by exact y_mv_int rfl) ?_
              refine l_w (w_buildSlice (pv := [(0, .int .i64 _)]) (vs := [_]) hs rfl rfl rfl rfl (fun b105 w hs hb105 => ?_))
              refine l_w (w_append (ys := [_]) [(b105, _)] hs hokl rfl rfl rfl rfl rfl rfl (.inl (by decide)) (by decide) (by omega) (fun ol' w okl' hgl' hs => ?_))
              replace hs := stB_rotN hs.tail
              refine l_q (by exact y_as_slice rfl) ?_
              refine l_end ?_
              refine e_blk ?_
              refine e_then ?_
              refine s_reg ?_
              refine l_q (by exact y_mv_int rfl) ?_
              refine l_q (by first | exact y_addn rfl rfl (by omega) | exact y_add rfl rfl rfl) ?_
              refine l_q (by exact y_as_int rfl) ?_
              refine l_end ?_
              refine e_then ?_
              refine ⟨(i + 1, s1, ol', l ++ [r1]), _, nx ⟨rfl, rfl, rfl, rfl, ?_, rfl, trivial⟩, ⟨?_, D.next N1 K1.lt (by omega) (by omega) okl', by dsimp only; omega⟩, by dsimp only; omega⟩
              · dsimp only; rw [List.length_append]; rfl
              · dsimp only; rw [nV_app]; exact ⟨os, hos, hs⟩
            · by_cases k1 : kk = 1
              · refine s_seq ?_
                refine s_seq ?_
                refine s_reg ?_
                refine l_q (by exact y_mv_int rfl) ?_
                refine l_q (by exact y_mv_slice rfl) ?_
                refine l_q (by exact y_len_slice rfl) ?_
                refine l_q (by first | exact y_lss rfl rfl (decide_eq_true (by omega)) | exact y_lss rfl rfl (decide_eq_false (by omega)) | exact y_lss rfl rfl rfl) ?_
                refine l_q (by exact y_mv_bool rfl) ?_
                first | refine l_gskip rfl rfl ?_ | refine l_gskip_u rfl rfl ?_ | refine l_gdo rfl rfl (by exact y_mv_int rfl) ?_
                first | refine l_gskip rfl rfl ?_ | refine l_gskip_u rfl rfl ?_ | refine l_gdo rfl rfl (by exact y_mv_slice rfl) ?_
                first | refine l_gskip rfl rfl ?_ | refine l_gskip_u rfl rfl ?_ | refine l_gdo rfl rfl (by exact y_len_slice rfl) ?_
                first | refine l_gskip rfl rfl ?_ | refine l_gskip_u rfl rfl ?_ | refine l_gdo rfl rfl (by first | exact y_lss rfl rfl (decide_eq_true (by omega)) | exact y_lss rfl rfl (decide_eq_false (by omega)) | exact y_lss rfl rfl rfl) ?_
                refine l_q (by first | exact y_pk_bt rfl rfl | exact y_pk_bf rfl rfl) ?_
                refine l_q (by exact y_mv_bool rfl) ?_
                first | refine l_gskip rfl rfl ?_ | refine l_gskip_u rfl rfl ?_ | refine l_gdo rfl rfl (by exact y_mv_int rfl) ?_
                first | refine l_gskip rfl rfl ?_ | refine l_gskip_u rfl rfl ?_ | refine l_gdo rfl rfl (by exact y_mv_slice rfl) ?_
                first | refine l_gskip rfl rfl ?_ | refine l_gskip_u rfl rfl ?_ | refine l_gdo rfl rfl (by exact y_len_slice rfl) ?_
                first | refine l_gskip rfl rfl ?_ | refine l_gskip_u rfl rfl ?_ | refine l_gdo rfl rfl (by first | exact y_lss rfl rfl (decide_eq_true (by omega)) | exact y_lss rfl rfl (decide_eq_false (by omega)) | exact y_lss rfl rfl rfl) ?_
                refine l_q (by first | exact y_pk_bt rfl rfl | exact y_pk_bf rfl rfl) ?_
                refine l_q (by exact y_mv_bool rfl) ?_
                first | refine l_gskip rfl rfl ?_ | refine l_gskip_u rfl rfl ?_ | refine l_gdo rfl rfl (by exact y_mv_int rfl) ?_
                first | refine l_gskip rfl rfl ?_ | refine l_gskip_u rfl rfl ?_ | refine l_gdo rfl rfl (by first | exact y_lss rfl rfl (decide_eq_true (by omega)) | exact y_lss rfl rfl (decide_eq_false (by omega)) | exact y_lss rfl rfl rfl) ?_
                refine l_q (by first | exact y_pk_bt rfl rfl | exact y_pk_bf rfl rfl) ?_
                refine l_end ?_
                refine e_then ?_
                refine cond_t rfl ?_
                refine s_skip ?_
                refine e_then ?_
                refine s_seq ?_
                refine s_block ?_
                refine s_seq ?_
                refine r_dr (.q 0 (.q 1 (.q 2 (.q 3 (.q 4 (.q 5 (.q 6 (.q 7 (.q 8 (.q 9 (.q 10 (.q 11 (.q 12 (.q 13 (.q 14 (.q 15 (.q 16 (.q 17 (.q 18 (.q 19 (.q 20 (.q 21 (.nil))))))))))))))))))))))) 21 hs mixed (by kernel_rfl) (fun hs => ?_)
                refine c_q rfl (by first | exact hs | exact hs.subl | exact hs.cellAt rfl | trivial) (fun _ _ _ h => h) (fun w hs => by exact y_mv_slice rfl) ?_
                refine c_q rfl (by first | exact hs | exact hs.subl | exact hs.cellAt rfl | trivial) (fun _ _ _ h => h) (fun w hs => by exact y_mv_slice rfl) ?_
                refine c_q rfl (by first | exact hs | exact hs.subl | exact hs.cellAt rfl | trivial) (fun _ _ _ h => h) (fun w hs => by exact y_mv_int rfl) ?_
                refine c_q rfl (by first | exact hs | exact hs.subl | exact hs.cellAt rfl | trivial) (fun _ _ _ h => h) (fun w hs => by exact y_indexA1 rfl rfl (by omega) (by omega) hx1) ?_
                refine c_q rfl (by first | exact hs | exact hs.subl | exact hs.cellAt rfl | trivial) (fun _ _ _ h => h) (fun w hs => by exact y_ldOld hs rfl hc1) ?_
                refine c_q rfl (by first | exact hs | exact hs.subl | exact hs.cellAt rfl | trivial) (fun _ _ _ h => h) (fun w hs => by exact y_mv_slice rfl) ?_
                refine c_q rfl (by first | exact hs | exact hs.subl | exact hs.cellAt rfl | trivial) (fun _ _ _ h => h) (fun w hs => by exact y_len_slice rfl) ?_
                refine c_qc rfl (by first | exact hs | exact hs.subl | exact hs.cellAt rfl | trivial) (fun _ _ _ h => h) rfl (fun w hs => by first | exact rest_e hra _ (by omega) (by omega) | exact rest_e hrb _ (by omega) (by omega)) rfl ?_
                refine c_q rfl (by first | exact hs | exact hs.subl | exact hs.cellAt rfl | trivial) (fun _ _ _ h => h) (fun w hs => by exact y_indexT (off := ia) rfl rfl (by omega) (by omega) had (by omega)) ?_
                refine c_q rfl (by first | exact hs | exact hs.subl | exact hs.cellAt rfl | trivial) (fun _ _ _ h => h) (fun w hs => by exact y_ld (v := I64 ((l.getD ia 0 : Nat) : Int)) hs rfl hca) ?_
                refine c_q rfl (by first | exact hs | exact hs.subl | exact hs.cellAt rfl | trivial) (fun _ _ _ h => h) (fun w hs => by exact y_mv_slice rfl) ?_
                refine c_q rfl (by first | exact hs | exact hs.subl | exact hs.cellAt rfl | trivial) (fun _ _ _ h => h) (fun w hs => by exact y_mv_slice rfl) ?_
                refine c_q rfl (by first | exact hs | exact hs.subl | exact hs.cellAt rfl | trivial) (fun _ _ _ h => h) (fun w hs => by exact y_mv_int rfl) ?_
                refine c_q rfl (by first | exact hs | exact hs.subl | exact hs.cellAt rfl | trivial) (fun _ _ _ h => h) (fun w hs => by exact y_indexA1 rfl rfl (by omega) (by omega) hx2) ?_
                refine c_q rfl (by first | exact hs | exact hs.subl | exact hs.cellAt rfl | trivial) (fun _ _ _ h => h) (fun w hs => by exact y_ldOld hs rfl hc2) ?_
                refine c_q rfl (by first | exact hs | exact hs.subl | exact hs.cellAt rfl | trivial) (fun _ _ _ h => h) (fun w hs => by exact y_mv_slice rfl) ?_
                refine c_q rfl (by first | exact hs | exact hs.subl | exact hs.cellAt rfl | trivial) (fun _ _ _ h => h) (fun w hs => by exact y_len_slice rfl) ?_
                refine c_qc rfl (by first | exact hs | exact hs.subl | exact hs.cellAt rfl | trivial) (fun _ _ _ h => h) rfl (fun w hs => by first | exact rest_e hra _ (by omega) (by omega) | exact rest_e hrb _ (by omega) (by omega)) rfl ?_
                refine c_q rfl (by first | exact hs | exact hs.subl | exact hs.cellAt rfl | trivial) (fun _ _ _ h => h) (fun w hs => by exact y_indexT (off := ib) rfl rfl (by omega) (by omega) had (by omega)) ?_
                refine c_q rfl (by first | exact hs | exact hs.subl | exact hs.cellAt rfl | trivial) (fun _ _ _ h => h) (fun w hs => by exact y_ld (v := I64 ((l.getD ib 0 : Nat) : Int)) hs rfl hcb) ?_
                refine c_q rfl (by first | exact hs | exact hs.subl | exact hs.cellAt rfl | trivial) (fun _ _ _ h => h) (fun w hs => by exact y_as_int rfl) ?_
                refine c_q rfl (by first | exact hs | exact hs.subl | exact hs.cellAt rfl | trivial) (fun _ _ _ h => h) (fun w hs => by exact y_as_int rfl) ?_
                refine c_end ?_
                refine e_then ?_
                refine s_seq ?_
                refine s_reg ?_
                refine l_q (by exact y_as_int rfl) ?_
                refine l_end ?_
                refine e_then ?_
                refine s_seq ?_
                refine s_seq ?_
                refine s_reg ?_
                refine l_q (by exact y_mv_slice rfl) ?_
                refine l_q (by exact y_mv_int rfl) ?_
                refine l_q (by exact y_indexA1 rfl rfl (by omega) (by omega) hx0) ?_
                refine l_q (by exact y_ldOld hs rfl hc0) ?_
                refine l_w (w_call rfl (rest_e hrk _ (by decide) (by decide)) rfl (fun _ w h => ?_))
                obtain ⟨rfl, rfl⟩ := h
                refine l_end ?_
                refine e_then ?_
                refine s_block ?_
                refine s_seq ?_
                refine s_reg ?_
                refine l_q (by first | exact y_eql rfl rfl (decide_eq_true (by omega)) | exact y_eql rfl rfl (decide_eq_false (by omega)) | exact y_eql rfl rfl rfl) ?_
                refine l_q (by exact y_as_bool rfl) ?_
                refine l_end ?_
                refine e_then ?_
                refine cond_f rfl ?_
                refine s_seq ?_
                refine s_reg ?_
                refine l_q (by first | exact y_eql rfl rfl (decide_eq_true (by omega)) | exact y_eql rfl rfl (decide_eq_false (by omega)) | exact y_eql rfl rfl rfl) ?_
                refine l_q (by exact y_as_bool rfl) ?_
                refine l_end ?_
                refine e_then ?_
                refine cond_t rfl ?_
                refine s_reg ?_
                refine l_q (by exact y_mv_ptr rfl) ?_
                refine l_q (by exact y_mv_int rfl) ?_
                refine l_q (by exact y_mv_int rfl) ?_
                refine l_w (w_call rfl (xor_k D.inv D.v7 A B (by omega) ⟨os, hos, hs⟩) rfl (fun _ w h => ?_))
                obtain ⟨s1, r1, rfl, N1, K1, hd⟩ := h; obtain ⟨os, hos, hs⟩ := hd.ex; replace hs := stB_outN hs
                refine l_q (by exact y_mv_tuple rfl) ?_
                refine l_q (by exact y_extract rfl rfl) ?_
                refine l_q (by exact y_extract rfl rfl) ?_
                refine l_q (by exact y_as_int rfl) ?_
                refine l_end ?_
                refine e_blk ?_
                refine e_then ?_
                refine s_reg ?_
                refine l_q (by exact y_mv_slice rfl) ?_
                refine l_q (by exact y_mv_int rfl) ?_
                refine l_w (w_buildSlice (pv := [(0, .int .i64 _)]) (vs := [_]) hs rfl rfl rfl rfl (fun b105 w hs hb105 => ?_))
                refine l_w (w_append (ys := [_]) [(b105, _)] hs hokl rfl rfl rfl rfl rfl rfl (.inl (by decide)) (by decide) (by omega) (fun ol' w okl' hgl' hs => ?_))
                replace hs := stB_rotN hs.tail
                refine l_q (by exact y_as_slice rfl) ?_
                refine l_end ?_
                refine e_blk ?_
                refine e_then ?_
                refine s_reg ?_
                refine l_q (by exact y_mv_int rfl) ?_
                refine l_q (by first | exact y_addn rfl rfl (by omega) | exact y_add rfl rfl rfl) ?_
                refine l_q (by exact y_as_int rfl) ?_
                refine l_end ?_
                refine e_then ?_
                refine ⟨(i + 1, s1, ol', l ++ [r1]), _, nx ⟨rfl, rfl, rfl, rfl, ?_, rfl, trivial⟩, ⟨?_, D.next N1 K1.lt (by omega) (by omega) okl', by dsimp only; omega⟩, by dsimp only; omega⟩
                · dsimp only; rw [List.length_append]; rfl
                · dsimp only; rw [nV_app]; exact ⟨os, hos, hs⟩
              · refine s_seq ?_
                refine s_seq ?_
                refine s_reg ?_
                refine l_q (by exact y_mv_int rfl) ?_
                refine l_q (by exact y_mv_slice rfl) ?_
                refine l_q (by exact y_len_slice rfl) ?_
                refine l_q (by first | exact y_lss rfl rfl (decide_eq_true (by omega)) | exact y_lss rfl rfl (decide_eq_false (by omega)) | exact y_lss rfl rfl rfl) ?_
                refine l_q (by exact y_mv_bool rfl) ?_
                first | refine l_gskip rfl rfl ?_ | refine l_gskip_u rfl rfl ?_ | refine l_gdo rfl rfl (by exact y_mv_int rfl) ?_
                first | refine l_gskip rfl rfl ?_ | refine l_gskip_u rfl rfl ?_ | refine l_gdo rfl rfl (by exact y_mv_slice rfl) ?_
                first | refine l_gskip rfl rfl ?_ | refine l_gskip_u rfl rfl ?_ | refine l_gdo rfl rfl (by exact y_len_slice rfl) ?_
                first | refine l_gskip rfl rfl ?_ | refine l_gskip_u rfl rfl ?_ | refine l_gdo rfl rfl (by first | exact y_lss rfl rfl (decide_eq_true (by omega)) | exact y_lss rfl rfl (decide_eq_false (by omega)) | exact y_lss rfl rfl rfl) ?_
                refine l_q (by first | exact y_pk_bt rfl rfl | exact y_pk_bf rfl rfl) ?_
                refine l_q (by exact y_mv_bool rfl) ?_
                first | refine l_gskip rfl rfl ?_ | refine l_gskip_u rfl rfl ?_ | refine l_gdo rfl rfl (by exact y_mv_int rfl) ?_
                first | refine l_gskip rfl rfl ?_ | refine l_gskip_u rfl rfl ?_ | refine l_gdo rfl rfl (by exact y_mv_slice rfl) ?_
                first | refine l_gskip rfl rfl ?_ | refine l_gskip_u rfl rfl ?_ | refine l_gdo rfl rfl (by exact y_len_slice rfl) ?_
                first | refine l_gskip rfl rfl ?_ | refine l_gskip_u rfl rfl ?_ | refine l_gdo rfl rfl (by first | exact y_lss rfl rfl (decide_eq_true (by omega)) | exact y_lss rfl rfl (decide_eq_false (by omega)) | exact y_lss rfl rfl rfl) ?_
                refine l_q (by first | exact y_pk_bt rfl rfl | exact y_pk_bf rfl rfl) ?_
                refine l_q (by exact y_mv_bool rfl) ?_
                first | refine l_gskip rfl rfl ?_ | refine l_gskip_u rfl rfl ?_ | refine l_gdo rfl rfl (by exact y_mv_int rfl) ?_
                first | refine l_gskip rfl rfl ?_ | refine l_gskip_u rfl rfl ?_ | refine l_gdo rfl rfl (by first | exact y_lss rfl rfl (decide_eq_true (by omega)) | exact y_lss rfl rfl (decide_eq_false (by omega)) | exact y_lss rfl rfl rfl) ?_
                refine l_q (by first | exact y_pk_bt rfl rfl | exact y_pk_bf rfl rfl) ?_
                refine l_end ?_
                refine e_then ?_
                refine cond_t rfl ?_
                refine s_skip ?_
                refine e_then ?_
                refine s_seq ?_
                refine s_block ?_
                refine s_seq ?_
                refine r_dr (.q 0 (.q 1 (.q 2 (.q 3 (.q 4 (.q 5 (.q 6 (.q 7 (.q 8 (.q 9 (.q 10 (.q 11 (.q 12 (.q 13 (.q 14 (.q 15 (.q 16 (.q 17 (.q 18 (.q 19 (.q 20 (.q 21 (.nil))))))))))))))))))))))) 21 hs mixed (by kernel_rfl) (fun hs => ?_)
                refine c_q rfl (by first | exact hs | exact hs.subl | exact hs.cellAt rfl | trivial) (fun _ _ _ h => h) (fun w hs => by exact y_mv_slice rfl) ?_
                refine c_q rfl (by first | exact hs | exact hs.subl | exact hs.cellAt rfl | trivial) (fun _ _ _ h => h) (fun w hs => by exact y_mv_slice rfl) ?_
                refine c_q rfl (by first | exact hs | exact hs.subl | exact hs.cellAt rfl | trivial) (fun _ _ _ h => h) (fun w hs => by exact y_mv_int rfl) ?_
                refine c_q rfl (by first | exact hs | exact hs.subl | exact hs.cellAt rfl | trivial) (fun _ _ _ h => h) (fun w hs => by exact y_indexA1 rfl rfl (by omega) (by omega) hx1) ?_
                refine c_q rfl (by first | exact hs | exact hs.subl | exact hs.cellAt rfl | trivial) (fun _ _ _ h => h) (fun w hs => by exact y_ldOld hs rfl hc1) ?_
                refine c_q rfl (by first | exact hs | exact hs.subl | exact hs.cellAt rfl | trivial) (fun _ _ _ h => h) (fun w hs => by exact y_mv_slice rfl) ?_
                refine c_q rfl (by first | exact hs | exact hs.subl | exact hs.cellAt rfl | trivial) (fun _ _ _ h => h) (fun w hs => by exact y_len_slice rfl) ?_
                refine c_qc rfl (by first | exact hs | exact hs.subl | exact hs.cellAt rfl | trivial) (fun _ _ _ h => h) rfl (fun w hs => by first | exact rest_e hra _ (by omega) (by omega) | exact rest_e hrb _ (by omega) (by omega)) rfl ?_
                refine c_q rfl (by first | exact hs | exact hs.subl | exact hs.cellAt rfl | trivial) (fun _ _ _ h => h) (fun w hs => by exact y_indexT (off := ia) rfl rfl (by omega) (by omega) had (by omega)) ?_
                refine c_q rfl (by first | exact hs | exact hs.subl | exact hs.cellAt rfl | trivial) (fun _ _ _ h => h) (fun w hs => by exact y_ld (v := I64 ((l.getD ia 0 : Nat) : Int)) hs rfl hca) ?_
                refine c_q rfl (by first | exact hs | exact hs.subl | exact hs.cellAt rfl | trivial) (fun _ _ _ h => h) (fun w hs => by exact y_mv_slice rfl) ?_
                refine c_q rfl (by first | exact hs | exact hs.subl | exact hs.cellAt rfl | trivial) (fun _ _ _ h => h) (fun w hs => by exact y_mv_slice rfl) ?_
                refine c_q rfl (by first | exact hs | exact hs.subl | exact hs.cellAt rfl | trivial) (fun _ _ _ h => h) (fun w hs => by exact y_mv_int rfl) ?_
                refine c_q rfl (by first | exact hs | exact hs.subl | exact hs.cellAt rfl | trivial) (fun _ _ _ h => h) (fun w hs => by exact y_indexA1 rfl rfl (by omega) (by omega) hx2) ?_
                refine c_q rfl (by first | exact hs | exact hs.subl | exact hs.cellAt rfl | trivial) (fun _ _ _ h => h) (fun w hs => by exact y_ldOld hs rfl hc2) ?_
                refine c_q rfl (by first | exact hs | exact hs.subl | exact hs.cellAt rfl | trivial) (fun _ _ _ h => h) (fun w hs => by exact y_mv_slice rfl) ?_
                refine c_q rfl (by first | exact hs | exact hs.subl | exact hs.cellAt rfl | trivial) (fun _ _ _ h => h) (fun w hs => by exact y_len_slice rfl) ?_
                refine c_qc rfl (by first | exact hs | exact hs.subl | exact hs.cellAt rfl | trivial) (fun _ _ _ h => h) rfl (fun w hs => by first | exact rest_e hra _ (by omega) (by omega) | exact rest_e hrb _ (by omega) (by omega)) rfl ?_
                refine c_q rfl (by first | exact hs | exact hs.subl | exact hs.cellAt rfl | trivial) (fun _ _ _ h => h) (fun w hs => by exact y_indexT (off := ib) rfl rfl (by omega) (by omega) had (by omega)) ?_
                refine c_q rfl (by first | exact hs | exact hs.subl | exact hs.cellAt rfl | trivial) (fun _ _ _ h => h) (fun w hs => by exact y_ld (v := I64 ((l.getD ib 0 : Nat) : Int)) hs rfl hcb) ?_
                refine c_q rfl (by first | exact hs | exact hs.subl | exact hs.cellAt rfl | trivial) (fun _ _ _ h => h) (fun w hs => by exact y_as_int rfl) ?_
                refine c_q rfl (by first | exact hs | exact hs.subl | exact hs.cellAt rfl | trivial) (fun _ _ _ h => h) (fun w hs => by exact y_as_int rfl) ?_
                refine c_end ?_
                refine e_then ?_
                refine s_seq ?_
                refine s_reg ?_
                refine l_q (by exact y_as_int rfl) ?_
                refine l_end ?_
                refine e_then ?_
                refine s_seq ?_
                refine s_seq ?_
                refine s_reg ?_
                refine l_q (by exact y_mv_slice rfl) ?_
                refine l_q (by exact y_mv_int rfl) ?_
                refine l_q (by exact y_indexA1 rfl rfl (by omega) (by omega) hx0) ?_
                refine l_q (by exact y_ldOld hs rfl hc0) ?_
                refine l_w (w_call rfl (rest_e hrk _ (by decide) (by decide)) rfl (fun _ w h => ?_))
                obtain ⟨rfl, rfl⟩ := h
                refine l_end ?_
                refine e_then ?_
                refine s_block ?_
                refine s_seq ?_
                refine s_reg ?_
                refine l_q (by first | exact y_eql rfl rfl (decide_eq_true (by omega)) | exact y_eql rfl rfl (decide_eq_false (by omega)) | exact y_eql rfl rfl rfl) ?_
                refine l_q (by exact y_as_bool rfl) ?_
                refine l_end ?_
                refine e_then ?_
                refine cond_f rfl ?_
                refine s_seq ?_
                refine s_reg ?_
                refine l_q (by first | exact y_eql rfl rfl (decide_eq_true (by omega)) | exact y_eql rfl rfl (decide_eq_false (by omega)) | exact y_eql rfl rfl rfl) ?_
                refine l_q (by exact y_as_bool rfl) ?_
                refine l_end ?_
                refine e_then ?_
                refine cond_f rfl ?_
                refine s_reg ?_
                refine l_q (by exact y_mv_ptr rfl) ?_
                refine l_q (by exact y_mv_int rfl) ?_
                refine l_w (w_call rfl (not_k D.inv D.v7 A (by omega) ⟨os, hos, hs⟩) rfl (fun _ w h => ?_))
                obtain ⟨s1, r1, rfl, N1, K1, hd⟩ := h; obtain ⟨os, hos, hs⟩ := hd.ex; replace hs := stB_outN hs
                refine l_q (by exact y_mv_tuple rfl) ?_
                refine l_q (by exact y_extract rfl rfl) ?_
                refine l_q (by exact y_extract rfl rfl) ?_
                refine l_q (by exact y_as_int rfl) ?_
                refine l_end ?_
                refine e_blk ?_
                refine e_then ?_
                refine s_reg ?_
                refine l_q (by exact y_mv_slice rfl) ?_
                refine l_q (by exact y_mv_int rfl) ?_
                refine l_w (w_buildSlice (pv := [(0, .int .i64 _)]) (vs := [_]) hs rfl rfl rfl rfl (fun b105 w hs hb105 => ?_))
                refine l_w (w_append (ys := [_]) [(b105, _)] hs hokl rfl rfl rfl rfl rfl rfl (.inl (by decide)) (by decide) (by omega) (fun ol' w okl' hgl' hs => ?_))
                replace hs := stB_rotN hs.tail
                refine l_q (by exact y_as_slice rfl) ?_
                refine l_end ?_
                refine e_blk ?_
                refine e_then ?_
                refine s_reg ?_
                refine l_q (by exact y_mv_int rfl) ?_
                refine l_q (by first | exact y_addn rfl rfl (by omega) | exact y_add rfl rfl rfl) ?_
                refine l_q (by exact y_as_int rfl) ?_
                refine l_end ?_
                refine e_then ?_
                refine ⟨(i + 1, s1, ol', l ++ [r1]), _, nx ⟨rfl, rfl, rfl, rfl, ?_, rfl, trivial⟩, ⟨?_, D.next N1 K1.lt (by omega) (by omega) okl', by dsimp only; omega⟩, by dsimp only; omega⟩
                · dsimp only; rw [List.length_append]; rfl
                · dsimp only; rw [nV_app]; exact ⟨os, hos, hs⟩
          · refine s_seq ?_
            refine s_seq ?_
            refine s_reg ?_
            refine l_q (by exact y_mv_int rfl) ?_
            refine l_q (by exact y_mv_slice rfl) ?_
            refine l_q (by exact y_len_slice rfl) ?_
            refine l_q (by first | exact y_lss rfl rfl (decide_eq_true (by omega)) | exact y_lss rfl rfl (decide_eq_false (by omega)) | exact y_lss rfl rfl rfl) ?_
            refine l_q (by exact y_mv_bool rfl) ?_
            first | refine l_gskip rfl rfl ?_ | refine l_gskip_u rfl rfl ?_ | refine l_gdo rfl rfl (by exact y_mv_int rfl) ?_
            first | refine l_gskip rfl rfl ?_ | refine l_gskip_u rfl rfl ?_ | refine l_gdo rfl rfl (by exact y_mv_slice rfl) ?_
            first | refine l_gskip rfl rfl ?_ | refine l_gskip_u rfl rfl ?_ | refine l_gdo rfl rfl (by exact y_len_slice rfl) ?_
            first | refine l_gskip rfl rfl ?_ | refine l_gskip_u rfl rfl ?_ | refine l_gdo rfl rfl (by first | exact y_lss rfl rfl (decide_eq_true (by omega)) | exact y_lss rfl rfl (decide_eq_false (by omega)) | exact y_lss rfl rfl rfl) ?_
            refine l_q (by first | exact y_pk_bt rfl rfl | exact y_pk_bf rfl rfl) ?_
            refine l_q (by exact y_mv_bool rfl) ?_
            first | refine l_gskip rfl rfl ?_ | refine l_gskip_u rfl rfl ?_ | refine l_gdo rfl rfl (by exact y_mv_int rfl) ?_
            first | refine l_gskip rfl rfl ?_ | refine l_gskip_u rfl rfl ?_ | refine l_gdo rfl rfl (by exact y_mv_slice rfl) ?_
            first | refine l_gskip rfl rfl ?_ | refine l_gskip_u rfl rfl ?_ | refine l_gdo rfl rfl (by exact y_len_slice rfl) ?_
            first | refine l_gskip rfl rfl ?_ | refine l_gskip_u rfl rfl ?_ | refine l_gdo rfl rfl (by first | exact y_lss rfl rfl (decide_eq_true (by omega)) | exact y_lss rfl rfl (decide_eq_false (by omega)) | exact y_lss rfl rfl rfl) ?_
            refine l_q (by first | exact y_pk_bt rfl rfl | exact y_pk_bf rfl rfl) ?_
            refine l_q (by exact y_mv_bool rfl) ?_
            first | refine l_gskip rfl rfl ?_ | refine l_gskip_u rfl rfl ?_ | refine l_gdo rfl rfl (by exact y_mv_int rfl) ?_
            first | refine l_gskip rfl rfl ?_ | refine l_gskip_u rfl rfl ?_ | refine l_gdo rfl rfl (by first | exact y_lss rfl rfl (decide_eq_true (by omega)) | exact y_lss rfl rfl (decide_eq_false (by omega)) | exact y_lss rfl rfl rfl) ?_
            refine l_q (by first | exact y_pk_bt rfl rfl | exact y_pk_bf rfl rfl) ?_
            refine l_end ?_
            refine e_then ?_
            refine cond_f rfl ?_
            refine s_exit ?_
            refine e_then_x ?_
            refine e_then_x ?_
            refine e_blk_x ?_
            refine e_then ?_
            refine s_seq ?_
            refine s_reg ?_
            refine l_q (by exact y_mv_slice rfl) ?_
            refine l_q (by exact y_as_slice rfl) ?_
            refine l_end ?_
            refine e_then ?_
            refine s_ret ?_
            exact ret_ [.slice _ _ _] rfl ⟨rfl, trivial⟩ ⟨s, l, ol, 9 + i, rfl, hfin, by omega, by omega, hd⟩
        · refine s_seq ?_
          refine s_seq ?_
          refine s_reg ?_
          refine l_q (by exact y_mv_int rfl) ?_
          refine l_q (by exact y_mv_slice rfl) ?_
          refine l_q (by exact y_len_slice rfl) ?_
          refine l_q (by first | exact y_lss rfl rfl (decide_eq_true (by omega)) | exact y_lss rfl rfl (decide_eq_false (by omega)) | exact y_lss rfl rfl rfl) ?_
          refine l_q (by exact y_mv_bool rfl) ?_
          first | refine l_gskip rfl rfl ?_ | refine l_gskip_u rfl rfl ?_ | refine l_gdo rfl rfl (by exact y_mv_int rfl) ?_
          first | refine l_gskip rfl rfl ?_ | refine l_gskip_u rfl rfl ?_ | refine l_gdo rfl rfl (by exact y_mv_slice rfl) ?_
          first | refine l_gskip rfl rfl ?_ | refine l_gskip_u rfl rfl ?_ | refine l_gdo rfl rfl (by exact y_len_slice rfl) ?_
          first | refine l_gskip rfl rfl ?_ | refine l_gskip_u rfl rfl ?_ | refine l_gdo rfl rfl (by first | exact y_lss rfl rfl (decide_eq_true (by omega)) | exact y_lss rfl rfl (decide_eq_false (by omega)) | exact y_lss rfl rfl rfl) ?_
          refine l_q (by first | exact y_pk_bt rfl rfl | exact y_pk_bf rfl rfl) ?_
          refine l_q (by exact y_mv_bool rfl) ?_
          first | refine l_gskip rfl rfl ?_ | refine l_gskip_u rfl rfl ?_ | refine l_gdo rfl rfl (by exact y_mv_int rfl) ?_
          first | refine l_gskip rfl rfl ?_ | refine l_gskip_u rfl rfl ?_ | refine l_gdo rfl rfl (by exact y_mv_slice rfl) ?_
          first | refine l_gskip rfl rfl ?_ | refine l_gskip_u rfl rfl ?_ | refine l_gdo rfl rfl (by exact y_len_slice rfl) ?_
          first | refine l_gskip rfl rfl ?_ | refine l_gskip_u rfl rfl ?_ | refine l_gdo rfl rfl (by first | exact y_lss rfl rfl (decide_eq_true (by omega)) | exact y_lss rfl rfl (decide_eq_false (by omega)) | exact y_lss rfl rfl rfl) ?_
          refine l_q (by first | exact y_pk_bt rfl rfl | exact y_pk_bf rfl rfl) ?_
          refine l_q (by exact y_mv_bool rfl) ?_
          first | refine l_gskip rfl rfl ?_ | refine l_gskip_u rfl rfl ?_ | refine l_gdo rfl rfl (by exact y_mv_int rfl) ?_
          first | refine l_gskip rfl rfl ?_ | refine l_gskip_u rfl rfl ?_ | refine l_gdo rfl rfl (by first | exact y_lss rfl rfl (decide_eq_true (by omega)) | exact y_lss rfl rfl (decide_eq_false (by omega)) | exact y_lss rfl rfl rfl) ?_
          refine l_q (by first | exact y_pk_bt rfl rfl | exact y_pk_bf rfl rfl) ?_
          refine l_end ?_
          refine e_then ?_
          refine cond_f rfl ?_
          refine s_exit ?_
          refine e_then_x ?_
          refine e_then_x ?_
          refine e_blk_x ?_
          refine e_then ?_
          refine s_seq ?_
          refine s_reg ?_
          refine l_q (by exact y_mv_slice rfl) ?_
          refine l_q (by exact y_as_slice rfl) ?_
          refine l_end ?_
          refine e_then ?_
          refine s_ret ?_
          exact ret_ [.slice _ _ _] rfl ⟨rfl, trivial⟩ ⟨s, l, ol, 9 + i, rfl, hfin, by omega, by omega, hd⟩
      · refine s_seq ?_
        refine s_seq ?_
        refine s_reg ?_
        refine l_q (by exact y_mv_int rfl) ?_
        refine l_q (by exact y_mv_slice rfl) ?_
        refine l_q (by exact y_len_slice rfl) ?_
        refine l_q (by first | exact y_lss rfl rfl (decide_eq_true (by omega)) | exact y_lss rfl rfl (decide_eq_false (by omega)) | exact y_lss rfl rfl rfl) ?_
        refine l_q (by exact y_mv_bool rfl) ?_
        first | refine l_gskip rfl rfl ?_ | refine l_gskip_u rfl rfl ?_ | refine l_gdo rfl rfl (by exact y_mv_int rfl) ?_
        first | refine l_gskip rfl rfl ?_ | refine l_gskip_u rfl rfl ?_ | refine l_gdo rfl rfl (by exact y_mv_slice rfl) ?_
        first | refine l_gskip rfl rfl ?_ | refine l_gskip_u rfl rfl ?_ | refine l_gdo rfl rfl (by exact y_len_slice rfl) ?_
        first | refine l_gskip rfl rfl ?_ | refine l_gskip_u rfl rfl ?_ | refine l_gdo rfl rfl (by first | exact y_lss rfl rfl (decide_eq_true (by omega)) | exact y_lss rfl rfl (decide_eq_false (by omega)) | exact y_lss rfl rfl rfl) ?_
        refine l_q (by first | exact y_pk_bt rfl rfl | exact y_pk_bf rfl rfl) ?_
        refine l_q (by exact y_mv_bool rfl) ?_
        first | refine l_gskip rfl rfl ?_ | refine l_gskip_u rfl rfl ?_ | refine l_gdo rfl rfl (by exact y_mv_int rfl) ?_
        first | refine l_gskip rfl rfl ?_ | refine l_gskip_u rfl rfl ?_ | refine l_gdo rfl rfl (by exact y_mv_slice rfl) ?_
        first | refine l_gskip rfl rfl ?_ | refine l_gskip_u rfl rfl ?_ | refine l_gdo rfl rfl (by exact y_len_slice rfl) ?_
        first | refine l_gskip rfl rfl ?_ | refine l_gskip_u rfl rfl ?_ | refine l_gdo rfl rfl (by first | exact y_lss rfl rfl (decide_eq_true (by omega)) | exact y_lss rfl rfl (decide_eq_false (by omega)) | exact y_lss rfl rfl rfl) ?_
        refine l_q (by first | exact y_pk_bt rfl rfl | exact y_pk_bf rfl rfl) ?_
        refine l_q (by exact y_mv_bool rfl) ?_
        first | refine l_gskip rfl rfl ?_ | refine l_gskip_u rfl rfl ?_ | refine l_gdo rfl rfl (by exact y_mv_int rfl) ?_
        first | refine l_gskip rfl rfl ?_ | refine l_gskip_u rfl rfl ?_ | refine l_gdo rfl rfl (by first | exact y_lss rfl rfl (decide_eq_true (by omega)) | exact y_lss rfl rfl (decide_eq_false (by omega)) | exact y_lss rfl rfl rfl) ?_
        refine l_q (by first | exact y_pk_bt rfl rfl | exact y_pk_bf rfl rfl) ?_
        refine l_end ?_
        refine e_then ?_
        refine cond_f rfl ?_
        refine s_exit ?_
        refine e_then_x ?_
        refine e_then_x ?_
        refine e_blk_x ?_
        refine e_then ?_
        refine s_seq ?_
        refine s_reg ?_
        refine l_q (by exact y_mv_slice rfl) ?_
        refine l_q (by exact y_as_slice rfl) ?_
        refine l_end ?_
        refine e_then ?_
        refine s_ret ?_
        exact ret_ [.slice _ _ _] rfl ⟨rfl, trivial⟩ ⟨s, l, ol, 9 + i, rfl, hfin, by omega, by omega, hd⟩
    · refine s_seq ?_
      refine s_seq ?_
      refine s_reg ?_
      refine l_q (by exact y_mv_int rfl) ?_
      refine l_q (by exact y_mv_slice rfl) ?_
      refine l_q (by exact y_len_slice rfl) ?_
      refine l_q (by first | exact y_lss rfl rfl (decide_eq_true (by omega)) | exact y_lss rfl rfl (decide_eq_false (by omega)) | exact y_lss rfl rfl rfl) ?_
      refine l_q (by exact y_mv_bool rfl) ?_
      first | refine l_gskip rfl rfl ?_ | refine l_gskip_u rfl rfl ?_ | refine l_gdo rfl rfl (by exact y_mv_int rfl) ?_
      first | refine l_gskip rfl rfl ?_ | refine l_gskip_u rfl rfl ?_ | refine l_gdo rfl rfl (by exact y_mv_slice rfl) ?_
      first | refine l_gskip rfl rfl ?_ | refine l_gskip_u rfl rfl ?_ | refine l_gdo rfl rfl (by exact y_len_slice rfl) ?_
      first | refine l_gskip rfl rfl ?_ | refine l_gskip_u rfl rfl ?_ | refine l_gdo rfl rfl (by first | exact y_lss rfl rfl (decide_eq_true (by omega)) | exact y_lss rfl rfl (decide_eq_false (by omega)) | exact y_lss rfl rfl rfl) ?_
      refine l_q (by first | exact y_pk_bt rfl rfl | exact y_pk_bf rfl rfl) ?_
      refine l_q (by exact y_mv_bool rfl) ?_
      first | refine l_gskip rfl rfl ?_ | refine l_gskip_u rfl rfl ?_ | refine l_gdo rfl rfl (by exact y_mv_int rfl) ?_
      first | refine l_gskip rfl rfl ?_ | refine l_gskip_u rfl rfl ?_ | refine l_gdo rfl rfl (by exact y_mv_slice rfl) ?_
      first | refine l_gskip rfl rfl ?_ | refine l_gskip_u rfl rfl ?_ | refine l_gdo rfl rfl (by exact y_len_slice rfl) ?_
      first | refine l_gskip rfl rfl ?_ | refine l_gskip_u rfl rfl ?_ | refine l_gdo rfl rfl (by first | exact y_lss rfl rfl (decide_eq_true (by omega)) | exact y_lss rfl rfl (decide_eq_false (by omega)) | exact y_lss rfl rfl rfl) ?_
      refine l_q (by first | exact y_pk_bt rfl rfl | exact y_pk_bf rfl rfl) ?_
      refine l_q (by exact y_mv_bool rfl) ?_
      first | refine l_gskip rfl rfl ?_ | refine l_gskip_u rfl rfl ?_ | refine l_gdo rfl rfl (by exact y_mv_int rfl) ?_
      first | refine l_gskip rfl rfl ?_ | refine l_gskip_u rfl rfl ?_ | refine l_gdo rfl rfl (by first | exact y_lss rfl rfl (decide_eq_true (by omega)) | exact y_lss rfl rfl (decide_eq_false (by omega)) | exact y_lss rfl rfl rfl) ?_
      refine l_q (by first | exact y_pk_bt rfl rfl | exact y_pk_bf rfl rfl) ?_
      refine l_end ?_
      refine e_then ?_
      refine cond_f rfl ?_
      refine s_exit ?_
      refine e_then_x ?_
      refine e_then_x ?_
      refine e_blk_x ?_
      refine e_then ?_
      refine s_seq ?_
      refine s_reg ?_
      refine l_q (by exact y_mv_slice rfl) ?_
      refine l_q (by exact y_as_slice rfl) ?_
      refine l_end ?_
      refine e_then ?_
      refine s_ret ?_
      exact ret_ [.slice _ _ _] rfl ⟨rfl, trivial⟩ ⟨s, l, ol, 9 + i, rfl, hfin, by omega, by omega, hd⟩
end Go.Proofs.Ytfjniocobcoepaa
