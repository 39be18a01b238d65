/- Facts on the functions and types of this seat that its laws are proved from: contracts under the premises that each theorem names. -/
import Derived.Test.YtfjniocobcoepaaG30
import Derived.Test.YtfjniocobcoepaaR4
set_option linter.unusedSimpArgs false
set_option linter.unusedVariables false
set_option linter.unnecessarySimpa false
namespace Go.Proofs.Ytfjniocobcoepaa
open Go Go.RowKit PB
set_option linter.unusedVariables false
set_option linter.unusedSimpArgs false

/-! ### match -/
def boxR (r : RuleV) : Bx := ⟨if r.proto = 0 then 0 else 8, r.proto.toNat, decide (r.fs = 0 ∧ r.ls = 65535), false, r.fs.toNat, r.ls.toNat, decide (r.fd = 0 ∧ r.ld = 65535), false, r.fd.toNat, r.ld.toNat, r.sb.toNat, r.sa / 2 ^ (32 - r.sb.toNat), r.db.toNat, r.da / 2 ^ (32 - r.db.toNat)⟩
structure RuleOk (r : RuleV) : Prop extends r.fits where
  p : 0 ≤ r.proto ∧ r.proto ≤ 255
  sb : 0 ≤ r.sb ∧ r.sb ≤ 32
  db : 0 ≤ r.db ∧ r.db ≤ 32
  f : 0 ≤ r.fs ∧ r.fs ≤ r.ls ∧ r.ls ≤ 65535
  t : 0 ≤ r.fd ∧ r.fd ≤ r.ld ∧ r.ld ≤ 65535
  sz : aChk r.sa r.sb = 0
  dz : aChk r.da r.db = 0
theorem ruleOk {r : RuleV} (hf : r.fits) (h : rChk r = 0) : RuleOk r := by
  unfold rChk at h
  by_cases c1 : aChk r.sa r.sb ≠ 0
  · rw [if_pos c1] at h; exact absurd h c1
  rw [if_neg c1] at h
  by_cases c2 : aChk r.da r.db ≠ 0
  · rw [if_pos c2] at h; exact absurd h c2
  rw [if_neg c2] at h
  by_cases c3 : rBad r
  · rw [if_pos c3] at h; cases h
  have a1 := aChk_0 (Classical.not_not.1 c1)
  have a2 := aChk_0 (Classical.not_not.1 c2)
  unfold rBad badR at c3
  exact ⟨hf, by omega, by omega, by omega, by omega, by omega, Classical.not_not.1 c1, Classical.not_not.1 c2⟩
theorem boxR_ok {r : RuleV} (h : RuleOk r) : (boxR r).ok := by
  have h1 := h.sb
  have h2 := h.db
  refine ⟨?_, ?_, ?_⟩
  · show (if r.proto = 0 then 0 else 8) ≤ 8; split <;> omega
  · show r.sb.toNat ≤ 32; omega
  · show r.db.toNat ≤ 32; omega

section
variable {s : DS} {p f t sr d : Nat} {b : Bx}
theorem match_both (h : Inv s) (h105 : s.vars = 105) (hb : b.ok) (P : Kn s p (fun e => decide (numB e 0 b.pm = b.pv))) (F : Kn s f (fun e => decide (rngP b.ff b.nf 9 b.fl b.fh e))) (T : Kn s t (fun e => decide (rngP b.tf b.nt 25 b.tl b.th e)))
    (S : Kn s sr (fun e => decide (numB e 41 b.sm = b.sv))) (D : Kn s d (fun e => decide (numB e 73 b.dm = b.dv))) :
    Nx s (bothF s [p, f, t, sr, d]).1 427 ∧ Kn (bothF s [p, f, t, sr, d]).1 (bothF s [p, f, t, sr, d]).2 (fun e => decide (b.on e)) := by
  simp only [bothF, if_one h D.lt]
  have hp := hb.p
  have hs := hb.s
  have hd := hb.d
  have i1 : ∀ (c : Prop) [Decidable c], (if c then 1 else 0) ≤ 1 := fun c _ => by split <;> omega
  have i32 : ∀ (c : Prop) [Decidable c], (if c then 32 else 0) ≤ 32 := fun c _ => by split <;> omega
  have q1 : boxN ⟨0, 0, true, true, 0, 0, true, true, 0, 0, b.sm, b.sv, b.dm, b.dv⟩ ≤ 64 := by simp [boxN]; omega
  have q2 : boxN ⟨0, 0, true, true, 0, 0, b.tf, b.nt, b.tl, b.th, b.sm, b.sv, b.dm, b.dv⟩ ≤ 97 := by
    simp only [boxN]
    have j1 := i1 ((true = false ∧ true = false) ∨ (b.tf = false ∧ b.nt = false))
    have j2 := i32 (b.tf = false)
    have j3 : (if true = false then 32 else 0) = 0 := rfl
    omega
  have q3 : boxN ⟨0, 0, b.ff, b.nf, b.fl, b.fh, b.tf, b.nt, b.tl, b.th, b.sm, b.sv, b.dm, b.dv⟩ ≤ 129 := by
    simp only [boxN]
    have j1 := i1 ((b.ff = false ∧ b.nf = false) ∨ (b.tf = false ∧ b.nt = false))
    have j2 := i32 (b.tf = false)
    have j3 := i32 (b.ff = false)
    omega
  have q4 : boxN b ≤ 137 := by
    simp only [boxN]
    have j1 := i1 ((b.ff = false ∧ b.nf = false) ∨ (b.tf = false ∧ b.nt = false))
    have j2 := i32 (b.tf = false)
    have j3 := i32 (b.ff = false)
    omega
  obtain ⟨N1, K1⟩ := and_box h h105 S D (x := ⟨0, 0, true, true, 0, 0, true, true, 0, 0, b.sm, b.sv, b.dm, b.dv⟩) ⟨Nat.zero_le _, hs, hd⟩ (fun e => by
    rw [← Bool.decide_and]; exact decide_eq_decide.2 (by rw [Bx.on_iff]; simp [rngP, numB]))
  replace P := P.up h N1
  replace F := F.up h N1
  replace T := T.up h N1
  obtain ⟨N2, K2⟩ := and_box N1.inv (N1.ext.vars.trans h105) T K1 (x := ⟨0, 0, true, true, 0, 0, b.tf, b.nt, b.tl, b.th, b.sm, b.sv, b.dm, b.dv⟩) ⟨Nat.zero_le _, hs, hd⟩ (fun e => by
    rw [← Bool.decide_and, ← Bool.decide_and]; exact decide_eq_decide.2 (by rw [Bx.on_iff]; simp [rngP, numB]))
  replace P := P.up N1.inv N2
  replace F := F.up N1.inv N2
  replace N2 := N1.trans N2
  obtain ⟨N3, K3⟩ := and_box N2.inv (N2.ext.vars.trans h105) F K2 (x := ⟨0, 0, b.ff, b.nf, b.fl, b.fh, b.tf, b.nt, b.tl, b.th, b.sm, b.sv, b.dm, b.dv⟩) ⟨Nat.zero_le _, hs, hd⟩ (fun e => by
    rw [← Bool.decide_and, ← Bool.decide_and, ← Bool.decide_and]; exact decide_eq_decide.2 (by rw [Bx.on_iff]; simp [numB]))
  replace P := P.up N2.inv N3
  replace N3 := N2.trans N3
  have hon : ∀ e, (decide (numB e 0 b.pm = b.pv) && (decide (rngP b.ff b.nf 9 b.fl b.fh e) && (decide (rngP b.tf b.nt 25 b.tl b.th e) && (decide (numB e 41 b.sm = b.sv) && decide (numB e 73 b.dm = b.dv))))) = decide (b.on e) := fun e => by
    rw [← Bool.decide_and, ← Bool.decide_and, ← Bool.decide_and, ← Bool.decide_and]; exact decide_eq_decide.2 (by rw [Bx.on_iff])
  obtain ⟨N4, K4⟩ := and_box N3.inv (N3.ext.vars.trans h105) P K3 (x := b) hb hon
  exact ⟨(N3.trans N4).mono (by omega), K4.fn hon⟩
end
theorem rng_cast (lo hi : Nat) : decide (lo = 0 ∧ hi = 65535) = decide ((lo : Int) = 0 ∧ (hi : Int) = 65535) := decide_eq_decide.2 (by omega)
theorem lt5 {a b c d e n : Nat} (ha : a < n) (hb : b < n) (hc : c < n) (hd : d < n) (he : e < n) : ∀ x ∈ [a, b, c, d, e], x < n := by
  intro x hx
  simp only [List.mem_cons, List.not_mem_nil, or_false] at hx
  rcases hx with rfl | rfl | rfl | rfl | rfl <;> assumption
theorem match_k {W0 w : World} {M : MB} {mb : Nat} {s : DS} {R : List (Nat × MObj)} {r0 : RuleV} [im : InL mb (mkO M) R] (I : Inv s) (h105 : s.vars = 105) (hr : RuleOk r0) (hn : s.nodes.length + 833 ≤ 60000) (hd : Dg W0 w M s R) :
    FnC Try.prog 57 [mkP mb, .agg r0.cells.toArray] w (fun x w' => ∃ s' r, x = I64 (r : Nat) ∧ Nx s s' 833 ∧ Kn s' r (fun e => decide ((boxR r0).on e)) ∧ Dg W0 w' M s' R) := by
  obtain ⟨permit, sa, sb, da, db, proto, fs, ls, fd, ld⟩ := r0
  have bok := boxR_ok hr
  obtain ⟨⟨hsa, hda⟩, hp, hsb, hdb, hf, ht, _, _⟩ := hr
  dsimp only at hsa hda hp hsb hdb hf ht
  obtain ⟨pn, rfl⟩ : ∃ n : Nat, proto = n := ⟨proto.toNat, by omega⟩
  obtain ⟨sbn, rfl⟩ : ∃ n : Nat, sb = n := ⟨sb.toNat, by omega⟩
  obtain ⟨dbn, rfl⟩ : ∃ n : Nat, db = n := ⟨db.toNat, by omega⟩
  obtain ⟨fsn, rfl⟩ : ∃ n : Nat, fs = n := ⟨fs.toNat, by omega⟩
  obtain ⟨lsn, rfl⟩ : ∃ n : Nat, ls = n := ⟨ls.toNat, by omega⟩
  obtain ⟨fdn, rfl⟩ : ∃ n : Nat, fd = n := ⟨fd.toNat, by omega⟩
  obtain ⟨ldn, rfl⟩ : ∃ n : Nat, ld = n := ⟨ld.toNat, by omega⟩
  let r : RuleV := ⟨permit, sa, sbn, da, dbn, pn, fsn, lsn, fdn, ldn⟩
  obtain ⟨os, hos, hs⟩ := hd.ex
  refine FnC.enter Try.func57 rfl Try.ntmps57 rfl fun ρ => ?_
  by_cases c : pn = 0
  · have N1 : Nx s s 16 := (Nx.refl I).mono (by omega)
    have P1 : Kn s 1 (fun e => decide (numB e 0 (boxR r).pm = (boxR r).pv)) := (kn1 I).fn fun e => by simp [boxR, r, c, numB]
    refine s_seq ?_
    refine s_reg ?_
    refine l_w (w_boxA (vs := [.bool permit, U32 (sa : Nat), I64 (sbn : Nat), U32 (da : Nat), I64 (dbn : Nat), I64 (pn : Nat), I64 (fsn : Nat), I64 (lsn : Nat), I64 (fdn : Nat), I64 (ldn : Nat)]) hs rfl (fun b3 w hs hb3 => ?_))
    replace hs := stB_rot hs
    refine l_q (by exact y_as_int rfl) ?_
    refine l_end ?_
    refine e_then ?_
    refine s_seq ?_
    refine s_reg ?_
    refine l_q (by exact y_as_int rfl) ?_
    refine l_end ?_
    refine e_then ?_
    refine s_seq ?_
    refine s_seq ?_
    refine s_reg ?_
    refine l_q (by exact y_field rfl) ?_
    refine l_q (by exact y_ld hs rfl rfl) ?_
    refine l_q (by first | exact y_neq rfl rfl (decide_eq_true (by omega)) | exact y_neq rfl rfl (decide_eq_false (by omega)) | exact y_neq rfl rfl rfl) ?_
    refine l_end ?_
    refine e_then ?_
    refine cond_f rfl ?_
    refine s_skip ?_
    refine e_then ?_
    refine s_seq ?_
    refine r_draw (.q 0 (.q 1 (.q 2 (.q 3 (.q 4 (.q 5 (.q 6 (.q 8 (.q 9 (.q 10 (.q 11 (.q 12 (.q 14 (.q 15 (.q 16 (.q 17 (.q 18 (.q 19 (.q 20 (.q 21 (.q 23 (.q 24 (.q 25 (.q 26 (.q 27 (.q 28 (.q 29 (.q 30 (.w 7 (.w 13 (.w 22 (.w 31 (.w 32 (.w 33 (.q 34 (.nil)))))))))))))))))))))))))))))))))))) 34 (fun w => St W0 w ((b3, .cells [.bool permit, U32 (sa : Nat), I64 (sbn : Nat), U32 (da : Nat), I64 (dbn : Nat), I64 (pn : Nat), I64 (fsn : Nat), I64 (lsn : Nat), I64 (fdn : Nat), I64 (ldn : Nat)] 65) :: R)) mixed (by kernel_rfl) ?_
    have hs := hs.drew
    refine c_q rfl (by first | exact hs | exact hs.subl | exact hs.cellAt rfl | trivial) (fun _ _ _ h => h) (fun w hs => by exact y_mv_ptr rfl) ?_
    refine c_q rfl (by first | exact hs | exact hs.subl | exact hs.cellAt rfl | trivial) (fun _ _ _ h => h) (fun w hs => by exact y_mv_int rfl) ?_
    refine c_q rfl (by first | exact hs | exact hs.subl | exact hs.cellAt rfl | trivial) (fun _ _ _ h => h) (fun w hs => by exact y_mv_ptr rfl) ?_
    refine c_q rfl (by first | exact hs | exact hs.subl | exact hs.cellAt rfl | trivial) (fun _ _ _ h => h) (fun w hs => by exact y_field rfl) ?_
    refine c_q rfl (by first | exact hs | exact hs.subl | exact hs.cellAt rfl | trivial) (fun _ _ _ h => h) (fun w hs => by exact y_ld hs rfl rfl) ?_
    refine c_q rfl (by first | exact hs | exact hs.subl | exact hs.cellAt rfl | trivial) (fun _ _ _ h => h) (fun w hs => by exact y_field rfl) ?_
    refine c_q rfl (by first | exact hs | exact hs.subl | exact hs.cellAt rfl | trivial) (fun _ _ _ h => h) (fun w hs => by exact y_ld hs rfl rfl) ?_
    refine c_q rfl (by first | exact hs | exact hs.subl | exact hs.cellAt rfl | trivial) (fun _ _ _ h => h) (fun w hs => by exact y_mv_ptr rfl) ?_
    refine c_q rfl (by first | exact hs | exact hs.subl | exact hs.cellAt rfl | trivial) (fun _ _ _ h => h) (fun w hs => by exact y_field rfl) ?_
    refine c_q rfl (by first | exact hs | exact hs.subl | exact hs.cellAt rfl | trivial) (fun _ _ _ h => h) (fun w hs => by exact y_ld hs rfl rfl) ?_
    refine c_q rfl (by first | exact hs | exact hs.subl | exact hs.cellAt rfl | trivial) (fun _ _ _ h => h) (fun w hs => by exact y_field rfl) ?_
    refine c_q rfl (by first | exact hs | exact hs.subl | exact hs.cellAt rfl | trivial) (fun _ _ _ h => h) (fun w hs => by exact y_ld hs rfl rfl) ?_
    refine c_q rfl (by first | exact hs | exact hs.subl | exact hs.cellAt rfl | trivial) (fun _ _ _ h => h) (fun w hs => by exact y_mv_ptr rfl) ?_
    refine c_q rfl (by first | exact hs | exact hs.subl | exact hs.cellAt rfl | trivial) (fun _ _ _ h => h) (fun w hs => by exact y_field rfl) ?_
    refine c_q rfl (by first | exact hs | exact hs.subl | exact hs.cellAt rfl | trivial) (fun _ _ _ h => h) (fun w hs => by exact y_field rfl) ?_
    refine c_q rfl (by first | exact hs | exact hs.subl | exact hs.cellAt rfl | trivial) (fun _ _ _ h => h) (fun w hs => by exact y_ld hs rfl rfl) ?_
    refine c_q rfl (by first | exact hs | exact hs.subl | exact hs.cellAt rfl | trivial) (fun _ _ _ h => h) (fun w hs => by exact y_field rfl) ?_
    refine c_q rfl (by first | exact hs | exact hs.subl | exact hs.cellAt rfl | trivial) (fun _ _ _ h => h) (fun w hs => by exact y_field rfl) ?_
    refine c_q rfl (by first | exact hs | exact hs.subl | exact hs.cellAt rfl | trivial) (fun _ _ _ h => h) (fun w hs => by exact y_ld hs rfl rfl) ?_
    refine c_q rfl (by first | exact hs | exact hs.subl | exact hs.cellAt rfl | trivial) (fun _ _ _ h => h) (fun w hs => by exact y_toInt (b := ((sa : Nat) : Int)) (y_conv_int rfl rfl) (wrap_i64n (by omega))) ?_
    refine c_q rfl (by first | exact hs | exact hs.subl | exact hs.cellAt rfl | trivial) (fun _ _ _ h => h) (fun w hs => by exact y_mv_ptr rfl) ?_
    refine c_q rfl (by first | exact hs | exact hs.subl | exact hs.cellAt rfl | trivial) (fun _ _ _ h => h) (fun w hs => by exact y_field rfl) ?_
    refine c_q rfl (by first | exact hs | exact hs.subl | exact hs.cellAt rfl | trivial) (fun _ _ _ h => h) (fun w hs => by exact y_field rfl) ?_
    refine c_q rfl (by first | exact hs | exact hs.subl | exact hs.cellAt rfl | trivial) (fun _ _ _ h => h) (fun w hs => by exact y_ld hs rfl rfl) ?_
    refine c_q rfl (by first | exact hs | exact hs.subl | exact hs.cellAt rfl | trivial) (fun _ _ _ h => h) (fun w hs => by exact y_field rfl) ?_
    refine c_q rfl (by first | exact hs | exact hs.subl | exact hs.cellAt rfl | trivial) (fun _ _ _ h => h) (fun w hs => by exact y_field rfl) ?_
    refine c_q rfl (by first | exact hs | exact hs.subl | exact hs.cellAt rfl | trivial) (fun _ _ _ h => h) (fun w hs => by exact y_ld hs rfl rfl) ?_
    refine c_q rfl (by first | exact hs | exact hs.subl | exact hs.cellAt rfl | trivial) (fun _ _ _ h => h) (fun w hs => by exact y_toInt (b := ((da : Nat) : Int)) (y_conv_int rfl rfl) (wrap_i64n (by omega))) ?_
    refine c_w rfl (w_call rfl (within_k (f := 9) (lo := fsn) (hi := lsn) N1.inv (N1.ext.vars.trans h105) (.inl rfl) (by omega) (by omega) (by have := N1.cnt; omega) ⟨os, hos, hs⟩) rfl (fun _ w h => ?_))
    obtain ⟨s2, r2, rfl, N2, F2, hd⟩ := h; replace P1 := P1.up N1.inv N2; replace N2 := N1.trans N2; obtain ⟨os, hos, hs⟩ := hd.ex
    refine ⟨fun _ => by first | exact hs | exact hs.subl | exact hs.cellAt rfl | trivial, ?_⟩
    refine c_w rfl (w_call rfl (within_k (f := 25) (lo := fdn) (hi := ldn) N2.inv (N2.ext.vars.trans h105) (.inr rfl) (by omega) (by omega) (by have := N2.cnt; omega) ⟨os, hos, hs⟩) rfl (fun _ w h => ?_))
    obtain ⟨s3, r3, rfl, N3, T3, hd⟩ := h; replace P1 := P1.up N2.inv N3; replace F2 := F2.up N2.inv N3; replace N3 := N2.trans N3; obtain ⟨os, hos, hs⟩ := hd.ex
    refine ⟨fun _ => by first | exact hs | exact hs.subl | exact hs.cellAt rfl | trivial, ?_⟩
    refine c_w rfl (w_call rfl (equal_k (f := 41) (size := 32) (many := sbn) (n := sa) N3.inv (N3.ext.vars.trans h105) (by omega) (by omega) (by omega) (by omega) (by have := N3.cnt; omega) ⟨os, hos, hs⟩) rfl (fun _ w h => ?_))
    obtain ⟨s4, r4, rfl, N4, S4, hd⟩ := h; replace P1 := P1.up N3.inv N4; replace F2 := F2.up N3.inv N4; replace T3 := T3.up N3.inv N4; replace N4 := N3.trans N4; obtain ⟨os, hos, hs⟩ := hd.ex
    refine ⟨fun _ => by first | exact hs | exact hs.subl | exact hs.cellAt rfl | trivial, ?_⟩
    refine c_w rfl (w_call rfl (equal_k (f := 73) (size := 32) (many := dbn) (n := da) N4.inv (N4.ext.vars.trans h105) (by omega) (by omega) (by omega) (by omega) (by have := N4.cnt; omega) ⟨os, hos, hs⟩) rfl (fun _ w h => ?_))
    obtain ⟨s5, r5, rfl, N5, D5, hd⟩ := h; replace P1 := P1.up N4.inv N5; replace F2 := F2.up N4.inv N5; replace T3 := T3.up N4.inv N5; replace S4 := S4.toKn.up N4.inv N5; replace N5 := N4.trans N5; obtain ⟨NB, KB⟩ := match_both (b := boxR r) N5.inv (N5.ext.vars.trans h105) bok P1 (F2.fn fun e => by rw [rng_cast fsn lsn]; rfl) (T3.fn fun e => by rw [rng_cast fdn ldn]; rfl) (S4.fn fun e => rfl) (D5.toKn.fn fun e => rfl); obtain ⟨os, hos, hs⟩ := hd.ex
    refine ⟨fun _ => by first | exact hs | exact hs.subl | exact hs.cellAt rfl | trivial, ?_⟩
    refine c_w rfl (w_buildSlice (pv := [(0, .int .i64 _), (1, .int .i64 _), (2, .int .i64 _), (3, .int .i64 _), (4, .int .i64 _)]) (vs := [_, _, _, _, _]) hs rfl rfl rfl rfl (fun b45 w hs hb45 => ?_))
    refine ⟨fun _ => by first | exact hs | exact hs.subl | exact hs.cellAt rfl | trivial, ?_⟩
    refine c_w rfl (w_call rfl (both_c (bb := b45) [_, r2, r3, r4, r5] N5.inv (lt5 P1.lt F2.lt T3.lt S4.lt D5.lt) (by simp) (by have := NB.cnt; have := N5.cnt; omega) ⟨os, hos, stB_rotN (Q := [_]) hs⟩) rfl (fun _ w h => ?_))
    obtain ⟨rfl, hd⟩ := h; have hs := hd.rest
    refine ⟨fun _ => by first | exact hs | exact hs.subl | exact hs.cellAt rfl | trivial, ?_⟩
    refine c_q rfl (by first | exact hs | exact hs.subl | exact hs.cellAt rfl | trivial) (fun _ _ _ h => h) (fun w hs => by exact y_as_int rfl) ?_
    refine c_end ?_
    refine e_then ?_
    refine s_ret ?_
    exact ret_ [.int .i64 _] rfl ⟨rfl, trivial⟩ ⟨_, _, rfl, (N5.trans NB).mono (by omega), KB, hd.sub (.cons _ (.cons _ (List.Sublist.refl _)))⟩
  · refine s_seq ?_
    refine s_reg ?_
    refine l_w (w_boxA (vs := [.bool permit, U32 (sa : Nat), I64 (sbn : Nat), U32 (da : Nat), I64 (dbn : Nat), I64 (pn : Nat), I64 (fsn : Nat), I64 (lsn : Nat), I64 (fdn : Nat), I64 (ldn : Nat)]) hs rfl (fun b3 w hs hb3 => ?_))
    replace hs := stB_rot hs
    refine l_q (by exact y_as_int rfl) ?_
    refine l_end ?_
    refine e_then ?_
    refine s_seq ?_
    refine s_reg ?_
    refine l_q (by exact y_as_int rfl) ?_
    refine l_end ?_
    refine e_then ?_
    refine s_seq ?_
    refine s_seq ?_
    refine s_reg ?_
    refine l_q (by exact y_field rfl) ?_
    refine l_q (by exact y_ld hs rfl rfl) ?_
    refine l_q (by first | exact y_neq rfl rfl (decide_eq_true (by omega)) | exact y_neq rfl rfl (decide_eq_false (by omega)) | exact y_neq rfl rfl rfl) ?_
    refine l_end ?_
    refine e_then ?_
    refine cond_t rfl ?_
    refine s_reg ?_
    refine l_q (by exact y_mv_ptr rfl) ?_
    refine l_q (by exact y_field rfl) ?_
    refine l_q (by exact y_ld hs rfl rfl) ?_
    refine l_w (w_call rfl (equal_k (f := 0) (size := 8) (many := 8) (n := pn) I h105 (by omega) (by omega) (by omega) (by omega) (by omega) ⟨os, hos, hs⟩) rfl (fun _ w h => ?_))
    obtain ⟨s1, r1, rfl, N1, P1, hd⟩ := h; replace N1 : Nx s s1 16 := N1; replace P1 : Kn s1 r1 (fun e => decide (numB e 0 (boxR r).pm = (boxR r).pv)) := P1.toKn.fn (fun e => by simp [boxR, r, c]); obtain ⟨os, hos, hs⟩ := hd.ex
    refine l_q (by exact y_as_int rfl) ?_
    refine l_end ?_
    refine e_then ?_
    refine s_seq ?_
    refine r_draw (.q 0 (.q 1 (.q 2 (.q 3 (.q 4 (.q 5 (.q 6 (.q 8 (.q 9 (.q 10 (.q 11 (.q 12 (.q 14 (.q 15 (.q 16 (.q 17 (.q 18 (.q 19 (.q 20 (.q 21 (.q 23 (.q 24 (.q 25 (.q 26 (.q 27 (.q 28 (.q 29 (.q 30 (.w 7 (.w 13 (.w 22 (.w 31 (.w 32 (.w 33 (.q 34 (.nil)))))))))))))))))))))))))))))))))))) 34 (fun w => St W0 w ((b3, .cells [.bool permit, U32 (sa : Nat), I64 (sbn : Nat), U32 (da : Nat), I64 (dbn : Nat), I64 (pn : Nat), I64 (fsn : Nat), I64 (lsn : Nat), I64 (fdn : Nat), I64 (ldn : Nat)] 65) :: R)) mixed (by kernel_rfl) ?_
    have hs := hs.drew
    refine c_q rfl (by first | exact hs | exact hs.subl | exact hs.cellAt rfl | trivial) (fun _ _ _ h => h) (fun w hs => by exact y_mv_ptr rfl) ?_
    refine c_q rfl (by first | exact hs | exact hs.subl | exact hs.cellAt rfl | trivial) (fun _ _ _ h => h) (fun w hs => by exact y_mv_int rfl) ?_
    refine c_q rfl (by first | exact hs | exact hs.subl | exact hs.cellAt rfl | trivial) (fun _ _ _ h => h) (fun w hs => by exact y_mv_ptr rfl) ?_
    refine c_q rfl (by first | exact hs | exact hs.subl | exact hs.cellAt rfl | trivial) (fun _ _ _ h => h) (fun w hs => by exact y_field rfl) ?_
    refine c_q rfl (by first | exact hs | exact hs.subl | exact hs.cellAt rfl | trivial) (fun _ _ _ h => h) (fun w hs => by exact y_ld hs rfl rfl) ?_
    refine c_q rfl (by first | exact hs | exact hs.subl | exact hs.cellAt rfl | trivial) (fun _ _ _ h => h) (fun w hs => by exact y_field rfl) ?_
    refine c_q rfl (by first | exact hs | exact hs.subl | exact hs.cellAt rfl | trivial) (fun _ _ _ h => h) (fun w hs => by exact y_ld hs rfl rfl) ?_
    refine c_q rfl (by first | exact hs | exact hs.subl | exact hs.cellAt rfl | trivial) (fun _ _ _ h => h) (fun w hs => by exact y_mv_ptr rfl) ?_
    refine c_q rfl (by first | exact hs | exact hs.subl | exact hs.cellAt rfl | trivial) (fun _ _ _ h => h) (fun w hs => by exact y_field rfl) ?_
    refine c_q rfl (by first | exact hs | exact hs.subl | exact hs.cellAt rfl | trivial) (fun _ _ _ h => h) (fun w hs => by exact y_ld hs rfl rfl) ?_
    refine c_q rfl (by first | exact hs | exact hs.subl | exact hs.cellAt rfl | trivial) (fun _ _ _ h => h) (fun w hs => by exact y_field rfl) ?_
    refine c_q rfl (by first | exact hs | exact hs.subl | exact hs.cellAt rfl | trivial) (fun _ _ _ h => h) (fun w hs => by exact y_ld hs rfl rfl) ?_
    refine c_q rfl (by first | exact hs | exact hs.subl | exact hs.cellAt rfl | trivial) (fun _ _ _ h => h) (fun w hs => by exact y_mv_ptr rfl) ?_
    refine c_q rfl (by first | exact hs | exact hs.subl | exact hs.cellAt rfl | trivial) (fun _ _ _ h => h) (fun w hs => by exact y_field rfl) ?_
    refine c_q rfl (by first | exact hs | exact hs.subl | exact hs.cellAt rfl | trivial) (fun _ _ _ h => h) (fun w hs => by exact y_field rfl) ?_
    refine c_q rfl (by first | exact hs | exact hs.subl | exact hs.cellAt rfl | trivial) (fun _ _ _ h => h) (fun w hs => by exact y_ld hs rfl rfl) ?_
    refine c_q rfl (by first | exact hs | exact hs.subl | exact hs.cellAt rfl | trivial) (fun _ _ _ h => h) (fun w hs => by exact y_field rfl) ?_
    refine c_q rfl (by first | exact hs | exact hs.subl | exact hs.cellAt rfl | trivial) (fun _ _ _ h => h) (fun w hs => by exact y_field rfl) ?_
    refine c_q rfl (by first | exact hs | exact hs.subl | exact hs.cellAt rfl | trivial) (fun _ _ _ h => h) (fun w hs => by exact y_ld hs rfl rfl) ?_
    refine c_q rfl (by first | exact hs | exact hs.subl | exact hs.cellAt rfl | trivial) (fun _ _ _ h => h) (fun w hs => by exact y_toInt (b := ((sa : Nat) : Int)) (y_conv_int rfl rfl) (wrap_i64n (by omega))) ?_
    refine c_q rfl (by first | exact hs | exact hs.subl | exact hs.cellAt rfl | trivial) (fun _ _ _ h => h) (fun w hs => by exact y_mv_ptr rfl) ?_
    refine c_q rfl (by first | exact hs | exact hs.subl | exact hs.cellAt rfl | trivial) (fun _ _ _ h => h) (fun w hs => by exact y_field rfl) ?_
    refine c_q rfl (by first | exact hs | exact hs.subl | exact hs.cellAt rfl | trivial) (fun _ _ _ h => h) (fun w hs => by exact y_field rfl) ?_
    refine c_q rfl (by first | exact hs | exact hs.subl | exact hs.cellAt rfl | trivial) (fun _ _ _ h => h) (fun w hs => by exact y_ld hs rfl rfl) ?_
    refine c_q rfl (by first | exact hs | exact hs.subl | exact hs.cellAt rfl | trivial) (fun _ _ _ h => h) (fun w hs => by exact y_field rfl) ?_
    refine c_q rfl (by first | exact hs | exact hs.subl | exact hs.cellAt rfl | trivial) (fun _ _ _ h => h) (fun w hs => by exact y_field rfl) ?_
    refine c_q rfl (by first | exact hs | exact hs.subl | exact hs.cellAt rfl | trivial) (fun _ _ _ h => h) (fun w hs => by exact y_ld hs rfl rfl) ?_
    refine c_q rfl (by first | exact hs | exact hs.subl | exact hs.cellAt rfl | trivial) (fun _ _ _ h => h) (fun w hs => by exact y_toInt (b := ((da : Nat) : Int)) (y_conv_int rfl rfl) (wrap_i64n (by omega))) ?_
    refine c_w rfl (w_call rfl (within_k (f := 9) (lo := fsn) (hi := lsn) N1.inv (N1.ext.vars.trans h105) (.inl rfl) (by omega) (by omega) (by have := N1.cnt; omega) ⟨os, hos, hs⟩) rfl (fun _ w h => ?_))
    obtain ⟨s2, r2, rfl, N2, F2, hd⟩ := h; replace P1 := P1.up N1.inv N2; replace N2 := N1.trans N2; obtain ⟨os, hos, hs⟩ := hd.ex
    refine ⟨fun _ => by first | exact hs | exact hs.subl | exact hs.cellAt rfl | trivial, ?_⟩
    refine c_w rfl (w_call rfl (within_k (f := 25) (lo := fdn) (hi := ldn) N2.inv (N2.ext.vars.trans h105) (.inr rfl) (by omega) (by omega) (by have := N2.cnt; omega) ⟨os, hos, hs⟩) rfl (fun _ w h => ?_))
    obtain ⟨s3, r3, rfl, N3, T3, hd⟩ := h; replace P1 := P1.up N2.inv N3; replace F2 := F2.up N2.inv N3; replace N3 := N2.trans N3; obtain ⟨os, hos, hs⟩ := hd.ex
    refine ⟨fun _ => by first | exact hs | exact hs.subl | exact hs.cellAt rfl | trivial, ?_⟩
    refine c_w rfl (w_call rfl (equal_k (f := 41) (size := 32) (many := sbn) (n := sa) N3.inv (N3.ext.vars.trans h105) (by omega) (by omega) (by omega) (by omega) (by have := N3.cnt; omega) ⟨os, hos, hs⟩) rfl (fun _ w h => ?_))
    obtain ⟨s4, r4, rfl, N4, S4, hd⟩ := h; replace P1 := P1.up N3.inv N4; replace F2 := F2.up N3.inv N4; replace T3 := T3.up N3.inv N4; replace N4 := N3.trans N4; obtain ⟨os, hos, hs⟩ := hd.ex
    refine ⟨fun _ => by first | exact hs | exact hs.subl | exact hs.cellAt rfl | trivial, ?_⟩
    refine c_w rfl (w_call rfl (equal_k (f := 73) (size := 32) (many := dbn) (n := da) N4.inv (N4.ext.vars.trans h105) (by omega) (by omega) (by omega) (by omega) (by have := N4.cnt; omega) ⟨os, hos, hs⟩) rfl (fun _ w h => ?_))
    obtain ⟨s5, r5, rfl, N5, D5, hd⟩ := h; replace P1 := P1.up N4.inv N5; replace F2 := F2.up N4.inv N5; replace T3 := T3.up N4.inv N5; replace S4 := S4.toKn.up N4.inv N5; replace N5 := N4.trans N5; obtain ⟨NB, KB⟩ := match_both (b := boxR r) N5.inv (N5.ext.vars.trans h105) bok P1 (F2.fn fun e => by rw [rng_cast fsn lsn]; rfl) (T3.fn fun e => by rw [rng_cast fdn ldn]; rfl) (S4.fn fun e => rfl) (D5.toKn.fn fun e => rfl); obtain ⟨os, hos, hs⟩ := hd.ex
    refine ⟨fun _ => by first | exact hs | exact hs.subl | exact hs.cellAt rfl | trivial, ?_⟩
    refine c_w rfl (w_buildSlice (pv := [(0, .int .i64 _), (1, .int .i64 _), (2, .int .i64 _), (3, .int .i64 _), (4, .int .i64 _)]) (vs := [_, _, _, _, _]) hs rfl rfl rfl rfl (fun b45 w hs hb45 => ?_))
    refine ⟨fun _ => by first | exact hs | exact hs.subl | exact hs.cellAt rfl | trivial, ?_⟩
    refine c_w rfl (w_call rfl (both_c (bb := b45) [_, r2, r3, r4, r5] N5.inv (lt5 P1.lt F2.lt T3.lt S4.lt D5.lt) (by simp) (by have := NB.cnt; have := N5.cnt; omega) ⟨os, hos, stB_rotN (Q := [_]) hs⟩) rfl (fun _ w h => ?_))
    obtain ⟨rfl, hd⟩ := h; have hs := hd.rest
    refine ⟨fun _ => by first | exact hs | exact hs.subl | exact hs.cellAt rfl | trivial, ?_⟩
    refine c_q rfl (by first | exact hs | exact hs.subl | exact hs.cellAt rfl | trivial) (fun _ _ _ h => h) (fun w hs => by exact y_as_int rfl) ?_
    refine c_end ?_
    refine e_then ?_
    refine s_ret ?_
    exact ret_ [.int .i64 _] rfl ⟨rfl, trivial⟩ ⟨_, _, rfl, (N5.trans NB).mono (by omega), KB, hd.sub (.cons _ (.cons _ (List.Sublist.refl _)))⟩
end Go.Proofs.Ytfjniocobcoepaa
