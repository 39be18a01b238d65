/- Facts on the functions and types of this seat that its laws are proved from: contracts under the premises that each theorem names. -/
import Derived.Test.YtfjniocobcoepaaGm
set_option linter.unusedSimpArgs false
set_option linter.unusedVariables false
set_option linter.unnecessarySimpa false
namespace Go.Proofs.Ytfjniocobcoepaa
open Go Go.RowKit PB
set_option linter.unusedVariables false
set_option linter.unusedSimpArgs false

/-! ### The numbers of seven bits -/
def bitE (i v : Nat) : Bool := decide (i / 2 ^ (6 - v) % 2 = 1)
def lexB (i j : Nat) : Bool := (List.range 7).any fun p => (List.range p).all (fun q => bitE i q == bitE j q) && (!bitE i p) && bitE j p
theorem lex_all : (List.range 128).all (fun j => (List.range j).all fun i => lexB i j) = true := by decide +kernel
theorem lex_ex {i j : Nat} (hj : j < 128) (hij : i < j) : ∃ p, p < 7 ∧ (∀ q, q < p → bitE i q = bitE j q) ∧ bitE i p = false ∧ bitE j p = true := by
  have h := lex_all
  simp only [List.all_eq_true, List.mem_range] at h
  have h2 := h j hj i hij
  simp only [lexB, List.any_eq_true, List.mem_range, Bool.and_eq_true, List.all_eq_true, beq_iff_eq, Bool.not_eq_true'] at h2
  obtain ⟨p, h3, ⟨h4, h5⟩, h6⟩ := h2
  exact ⟨p, h3, h4, h5, h6⟩
theorem num_all : ∀ b0 b1 b2 b3 b4 b5 b6 : Bool, (List.range 128).any (fun i => bitE i 0 == b0 && bitE i 1 == b1 && bitE i 2 == b2 && bitE i 3 == b3 && bitE i 4 == b4 && bitE i 5 == b5 && bitE i 6 == b6) = true := by decide +kernel
theorem num_ex (B : Nat → Bool) : ∃ i, i < 128 ∧ ∀ q, q < 7 → bitE i q = B q := by
  have h := num_all (B 0) (B 1) (B 2) (B 3) (B 4) (B 5) (B 6)
  simp only [List.any_eq_true, List.mem_range, Bool.and_eq_true, beq_iff_eq] at h
  obtain ⟨i, hi, ⟨⟨⟨⟨⟨⟨h0, h1⟩, h2⟩, h3⟩, h4⟩, h5⟩, h6⟩⟩ := h
  refine ⟨i, hi, fun q hq => ?_⟩
  have : q = 0 ∨ q = 1 ∨ q = 2 ∨ q = 3 ∨ q = 4 ∨ q = 5 ∨ q = 6 := by omega
  rcases this with rfl | rfl | rfl | rfl | rfl | rfl | rfl <;> assumption

def nowF (i v : Nat) : List Bool := (List.range 7).map fun q => if q < v then bitE i q else false
theorem nowF_len (i v : Nat) : (nowF i v).length = 7 := by simp [nowF]
theorem nowF_env {i v q : Nat} (hq : q < 7) : envB (nowF i v) q = if q < v then bitE i q else false := by simp [envB, nowF, hq]
theorem nowF_set {i v : Nat} (hv : v < 7) : (nowF i v).set v (bitE i v) = nowF i (v + 1) := by
  apply List.ext_getElem
  · simp [nowF]
  · intro q h1 h2
    simp only [nowF, List.getElem_set, List.getElem_map, List.getElem_range]
    by_cases c : v = q
    · subst c; simp
    · rw [if_neg c]
      by_cases c2 : q < v
      · rw [if_pos c2, if_pos (by omega)]
      · rw [if_neg c2, if_neg (by omega)]
theorem nowF_0 (i : Nat) : List.replicate 7 false = nowF i 0 := rfl
theorem nowF_get {i v : Nat} (hv : v < 7) : ((nowF i (v + 1)).map Value.bool)[v]? = some (.bool (bitE i v)) := by simp [nowF, hv]

/-- The law: the first number at which the diagram is true is that of its first values. -/
structure FirstL (s : DS) (a i : Nat) : Prop where
  lt : i < 128
  pre : ∀ j, j < i → ev s a (bitE j) = false
theorem first_hit {s : DS} (h : Inv s) (h7 : s.vars = 7) {a i : Nat} (ha : a < s.nodes.length) (h0 : a ≠ 0) (F : FirstL s a i) (ht : ev s a (bitE i) = true) : ∀ q, q < 7 → oneE s a q = bitE i q := by
  obtain ⟨k, hk, hb⟩ := num_ex (oneE s a)
  have hkt : ev s a (bitE k) = true := by
    rw [ev_agree h.toOrd (x := bitE k) (y := oneE s a) (fun q hq => hb q (by omega)) _ a ha (Nat.le_refl _)]
    exact one_true' h ha h0
  rcases Nat.lt_trichotomy i k with c | c | c
  · obtain ⟨p, hp, hq, hf, htr⟩ := lex_ex hk c
    have := one_min' h ha (p := p) ht (fun q hqp => by rw [hq q hqp]; exact hb q (by omega)) (by rw [← hb p hp]; exact htr)
    rw [hf] at this; cases this
  · subst c; exact fun q hq => (hb q hq).symm
  · have := F.pre k c
    rw [hkt] at this; cases this
theorem first_some {s : DS} (h : Inv s) (h7 : s.vars = 7) {a : Nat} (ha : a < s.nodes.length) (h0 : a ≠ 0) (hno : ∀ j, j < 128 → ev s a (bitE j) = false) : False := by
  obtain ⟨k, hk, hb⟩ := num_ex (oneE s a)
  have hkt : ev s a (bitE k) = true := by
    rw [ev_agree h.toOrd (x := bitE k) (y := oneE s a) (fun q hq => hb q (by omega)) _ a ha (Nat.le_refl _)]
    exact one_true' h ha h0
  rw [hno k hk] at hkt; cases hkt
def sameF (B : Nat → Bool) (i : Nat) : Nat → Bool
  | 0 => true
  | v + 1 => sameF B i v && (B v == bitE i v)
theorem sameF_all {B : Nat → Bool} {i : Nat} : ∀ v, (∀ q, q < v → B q = bitE i q) → sameF B i v = true
  | 0, _ => rfl
  | v + 1, h => by simp only [sameF]; rw [sameF_all v (fun q hq => h q (by omega)), h v (by omega)]; simp
theorem now_ev {s : DS} (h : Inv s) (h7 : s.vars = 7) {a i : Nat} (ha : a < s.nodes.length) : ev s a (envB (nowF i 7)) = ev s a (bitE i) :=
  ev_agree h.toOrd (fun q hq => by rw [nowF_env (by omega), if_pos (by omega)]) _ a ha (Nat.le_refl _)

theorem pow_pos2 (m : Nat) : (1 : Int) ≤ (2 : Int) ^ m := by
  have : 0 < (2 : Nat) ^ m := Nat.pow_pos (by decide)
  have e : (2 : Int) ^ m = ((2 ^ m : Nat) : Int) := by rw [Int.natCast_pow]; rfl
  omega
theorem bit_int (i v : Nat) : decide ((i : Int) / (2 : Int) ^ (6 - v) % 2 = 1) = bitE i v := by
  unfold bitE
  have e : (2 : Int) ^ (6 - v) = ((2 ^ (6 - v) : Nat) : Int) := by rw [Int.natCast_pow]; rfl
  rw [e]
  refine decide_eq_decide.2 ?_
  rw [← Int.natCast_ediv]
  omega


set_option maxRecDepth 100000 in
theorem first_walk (W : World) (a0 : Option Addr) (n0 c0 : Nat) (z0 : List Int) (h0 : Ints W a0 n0 z0) (l0 : n0 ≤ 9223372036854775807) (_q0 : n0 ≤ c0) (a1 : Option Addr) (n1 c1 : Nat) (z1 : List Int) (h1 : Ints W a1 n1 z1) (l1 : n1 ≤ 9223372036854775807) (_q1 : n1 ≤ c1)
    (a2 : Option Addr) (n2 c2 : Nat) (z2 : List Int) (h2 : Ints W a2 n2 z2) (l2 : n2 ≤ 9223372036854775807) (_q2 : n2 ≤ c2) (x : Int) :
    FnC Try.prog 6 [.slice a0 n0 c0, .slice a1 n1 c1, .slice a2 n2 c2, I64 x] W (fun v w' => v = .bool true ∧ St W w' []) := by
  have hs := St.start W
  refine FnC.enter Try.func6 rfl Try.ntmps6 rfl fun ρ => ?_
  refine s_seq ?_
  refine s_reg ?_
  refine l_q (by exact y_as_bool rfl) ?_
  refine l_end ?_
  refine e_then ?_
  refine s_seq ?_
  refine s_reg ?_
  refine l_w (w_call rfl (new_c (n := 7) (by decide) hs) rfl (fun _ w h => ?_))
  obtain ⟨M, rfl, hd⟩ := h; obtain ⟨os, hos, hs⟩ := hd.ex
  refine l_q (by exact y_mv_tuple rfl) ?_
  refine l_q (by exact y_extract rfl rfl) ?_
  refine l_q (by exact y_extract rfl rfl) ?_
  refine l_q (by exact y_as_ptr rfl) ?_
  refine l_q (by exact y_as_int rfl) ?_
  refine l_end ?_
  refine e_then ?_
  refine s_seq ?_
  refine s_seq ?_
  refine s_reg ?_
  refine l_w (w_call rfl (fact_c hs) rfl (fun _ w h => ?_))
  obtain ⟨rfl, hs⟩ := h; replace hd : Dg W w M (initS 7) [] := ⟨os, hos, hs⟩
  refine l_q (by first | exact y_not_t rfl | exact y_not_f rfl | exact y_notd rfl) ?_
  refine l_q (by exact y_mv_bool rfl) ?_
  first | refine l_gskip rfl rfl ?_ | refine l_gskip_u rfl rfl ?_ | refine l_gdo rfl rfl (by exact y_mv_int rfl) ?_
  first | refine l_gskip rfl rfl ?_ | refine l_gskip_u rfl rfl ?_ | refine l_gdo rfl rfl (by first | exact y_neq rfl rfl (decide_eq_true (by omega)) | exact y_neq rfl rfl (decide_eq_false (by omega)) | exact y_neq rfl rfl rfl) ?_
  refine l_q (by first | exact y_pk_bt rfl rfl | exact y_pk_bf rfl rfl) ?_
  refine l_q (by exact y_mv_bool rfl) ?_
  first | refine l_gskip rfl rfl ?_ | refine l_gskip_u rfl rfl ?_ | refine l_gdo rfl rfl (by exact y_mv_ptr rfl) ?_
  first | refine l_gskip rfl rfl ?_ | refine l_gskip_u rfl rfl ?_ | refine l_gdo rfl rfl (by first | exact y_ptr_nn rfl rfl | exact y_ptr_eql rfl rfl rfl) ?_
  refine l_q (by first | exact y_pk_bt rfl rfl | exact y_pk_bf rfl rfl) ?_
  refine l_end ?_
  refine e_then ?_
  refine cond_f rfl ?_
  refine s_skip ?_
  refine e_then ?_
  refine s_seq ?_
  refine s_reg ?_
  refine l_q (by exact y_mv_ptr rfl) ?_
  refine l_q (by exact y_mv_slice rfl) ?_
  refine l_q (by exact y_mv_slice rfl) ?_
  refine l_q (by exact y_mv_slice rfl) ?_
  refine l_w (w_call rfl (drawn_c h0 h1 h2 l0 l1 l2 hd) rfl (fun _ w h => ?_))
  obtain ⟨s, l, ol, n, rfl, D, hn9, hn34, hd⟩ := h; obtain ⟨ix, a, fa, hrx, hix, hga, Ka⟩ := drawn_k D (by omega) x; have hln := D.len; have hokl := D.ok; obtain ⟨g, hg, had, hca⟩ := own_now hokl hix; rw [hga] at hca; haveI := inl_blk hg (nV l) 3; have I := D.inv; have h7 := D.v7; have hc := D.cnt; obtain ⟨os, hos, hs⟩ := hd.ex
  refine l_q (by exact y_as_slice rfl) ?_
  refine l_end ?_
  refine e_then ?_
  refine cut (Y := MB × DS × Nat × List (Nat × MObj)) (fun u => [(9, u.1.p), (12, I64 u.2.2.1)]) (fun u w => Inv u.2.1 ∧ u.2.1.vars = 7 ∧ u.2.1.nodes.length ≤ 7000 ∧ u.2.2.1 < u.2.1.nodes.length ∧ Dg W w u.1 u.2.1 u.2.2.2) (fun K hK => ?_) (fun u ρ w hI => ?_)
  refine s_reg ?_
  refine l_q (by exact y_mv_slice rfl) ?_
  refine l_q (by exact y_mv_int rfl) ?_
  refine l_q (by exact y_mv_slice rfl) ?_
  refine l_q (by exact y_len_slice rfl) ?_
  refine l_w (w_call rfl (rest_e hrx _ (by omega) (by omega)) rfl (fun _ w h => ?_))
  obtain ⟨rfl, rfl⟩ := h
  refine l_q (by exact y_indexT (off := ix) rfl rfl (by omega) (by omega) had (by omega)) ?_
  refine l_q (by exact y_ld (v := I64 (a : Nat)) hs rfl hca) ?_
  refine l_q (by exact y_as_int rfl) ?_
  refine l_end ?_
  refine e_then ?_
  · exact meet hK (M, s, a, ol.blk (nV l) 3 ++ []) ⟨rfl, rfl, trivial⟩ ⟨I, h7, by dsimp only; omega, Ka.lt, ⟨os, hos, hs⟩⟩
  · obtain ⟨M, s, a, R⟩ := u
    obtain ⟨I, h7, hc, hlt, hd⟩ := hI
    dsimp only at I h7 hc hlt hd ⊢
    have Ka : Kn s a _ := Kn.mk' hlt
    by_cases hz : a = 0
    · have hev : ∀ e, ev s a e = false := fun e => by rw [hz, ev_0]
      refine s_seq ?_
      refine s_reg ?_
      refine l_q (by exact y_mv_ptr rfl) ?_
      refine l_q (by exact y_mv_int rfl) ?_
      refine l_w (w_call rfl (by first | exact one_0 I hz (by omega) hd | exact one_c I hlt hz (by omega) hd) rfl (fun _ w h => ?_))
      first | (obtain ⟨rfl, hd⟩ := h) | (obtain ⟨bo, rfl, hd⟩ := h)
      refine l_q (by exact y_mv_tuple rfl) ?_
      refine l_q (by exact y_extract rfl rfl) ?_
      refine l_q (by exact y_extract rfl rfl) ?_
      refine l_q (by exact y_extract rfl rfl) ?_
      refine l_q (by exact y_as_slice rfl) ?_
      refine l_q (by exact y_as_bool rfl) ?_
      refine l_q (by exact y_as_int rfl) ?_
      refine l_end ?_
      refine e_then ?_
      refine s_seq ?_
      refine s_seq ?_
      refine s_reg ?_
      refine l_q (by exact y_mv_int rfl) ?_
      refine l_q (by first | exact y_neq rfl rfl (decide_eq_true (by omega)) | exact y_neq rfl rfl (decide_eq_false (by omega)) | exact y_neq rfl rfl rfl) ?_
      refine l_q (by exact y_mv_bool rfl) ?_
      first | refine l_gskip rfl rfl ?_ | refine l_gskip_u rfl rfl ?_ | refine l_gdo rfl rfl (by exact y_mv_bool rfl) ?_
      first | refine l_gskip rfl rfl ?_ | refine l_gskip_u rfl rfl ?_ | refine l_gdo rfl rfl (by exact y_mv_int rfl) ?_
      first | refine l_gskip rfl rfl ?_ | refine l_gskip_u rfl rfl ?_ | refine l_gdo rfl rfl (by first | exact y_neq rfl rfl (decide_eq_true (by omega)) | exact y_neq rfl rfl (decide_eq_false (by omega))) ?_
      first | refine l_gskip rfl rfl ?_ | refine l_gskip_u rfl rfl ?_ | refine l_gdo rfl rfl (by exact y_bool_neq (v := .bool false) rfl rfl rfl) ?_
      refine l_q (by first | exact y_pk_bt rfl rfl | exact y_pk_bf rfl rfl) ?_
      refine l_end ?_
      refine e_then ?_
      refine cond_f rfl ?_
      refine s_skip ?_
      refine e_then ?_
      refine s_seq ?_
      refine s_seq ?_
      refine s_reg ?_
      refine l_q (by exact y_as_int rfl) ?_
      refine l_end ?_
      refine e_then ?_
      refine s_block ?_
      refine loop_st (X := Nat) (fun i => [(9, M.p), (12, I64 a), (13, .slice none 0 0), (14, .bool false), (15, I64 i)])
        (fun i w => Dg W w M s R ∧ i ≤ 128) (fun i => 128 - i) 0 ⟨rfl, rfl, rfl, rfl, rfl, trivial⟩ ⟨hd, by omega⟩ ?_
      clear hd
      rintro i ρ w ⟨hd, i1⟩
      by_cases c1 : i < 128
      · obtain ⟨os, hos, hs⟩ := hd.ex
        have hval := hev (bitE i)
        refine s_seq ?_
        refine s_seq ?_
        refine s_reg ?_
        refine l_q (by exact y_mv_int rfl) ?_
        refine l_q (by first | exact y_lss rfl rfl (decide_eq_true (by omega)) | exact y_lss rfl rfl (decide_eq_false (by omega)) | exact y_lss rfl rfl rfl) ?_
        refine l_end ?_
        refine e_then ?_
        refine cond_t rfl ?_
        refine s_skip ?_
        refine e_then ?_
        refine s_seq ?_
        refine s_block ?_
        refine s_seq ?_
        refine s_reg ?_
        refine l_w (w_makeSlice (m := 7) hs rfl rfl (by decide) (by decide) (fun b66 w hs hb66 => ?_))
        rw [zeros_b, nowF_0 i] at hs; replace hs := stB_rot hs
        refine l_q (by exact y_as_slice rfl) ?_
        refine l_end ?_
        refine e_then ?_
        refine s_seq ?_
        refine s_reg ?_
        refine l_q (by exact y_mv_slice rfl) ?_
        refine l_q (by exact y_len_slice rfl) ?_
        refine l_q (by first | exact y_eql rfl rfl (decide_eq_true (by omega)) | exact y_eql rfl rfl (decide_eq_false (by omega)) | exact y_eql rfl rfl rfl) ?_
        refine l_q (by exact y_as_bool rfl) ?_
        refine l_end ?_
        refine e_then ?_
        refine s_seq ?_
        refine s_seq ?_
        refine s_reg ?_
        refine l_q (by exact y_as_int rfl) ?_
        refine l_end ?_
        refine e_then ?_
        refine s_block ?_
        refine loop_st (X := Nat) (fun v => [(9, M.p), (12, I64 a), (13, .slice none 0 0), (14, .bool false), (15, I64 i), (16, .slice (some ⟨b66, 0, none⟩) 7 7), (17, .bool false), (18, I64 v)])
          (fun v w => St W w (stB M s os ((b66, .cells ((nowF i v).map Value.bool) 4) :: R)) ∧ v ≤ 7) (fun v => 7 - v) 0 ⟨rfl, rfl, rfl, rfl, rfl, rfl, rfl, rfl, trivial⟩ ⟨hs, by omega⟩ ?_
        clear hs
        rintro v ρ w ⟨hs, v1⟩
        by_cases c2 : v < 7
        · refine s_seq ?_
          refine s_seq ?_
          refine s_reg ?_
          refine l_q (by exact y_mv_int rfl) ?_
          refine l_q (by first | exact y_lss rfl rfl (decide_eq_true (by omega)) | exact y_lss rfl rfl (decide_eq_false (by omega)) | exact y_lss rfl rfl rfl) ?_
          refine l_end ?_
          refine e_then ?_
          refine cond_t rfl ?_
          refine s_skip ?_
          refine e_then ?_
          refine s_seq ?_
          refine s_block ?_
          refine s_seq ?_
          refine s_reg ?_
          refine l_q (by exact y_mv_slice rfl) ?_
          refine l_q (by exact y_mv_int rfl) ?_
          refine l_q (by exact y_mv_int rfl) ?_
          refine l_q (by exact y_mv_int rfl) ?_
          refine l_q (by first | exact y_subn rfl rfl (by omega) | exact y_sub rfl rfl rfl) ?_
          refine l_q (by exact y_shl1 (m := 6 - v) rfl rfl (by omega) (by omega)) ?_
          refine l_q (by exact y_quon rfl rfl ⟨by omega, by omega, pow_pos2 _⟩) ?_
          refine l_q (by exact y_remn rfl rfl ⟨Int.ediv_nonneg (by omega) (by have := pow_pos2 (6 - v); omega), by decide⟩) ?_
          refine l_q (by exact y_eql (r := bitE i v) rfl rfl (bit_int i v)) ?_
          refine l_q (by exact y_indexT (off := v) rfl rfl (by omega) (by omega) rfl (by omega)) ?_
          refine l_w (w_store (v := .bool (bitE i v)) (off := v) hs rfl rfl rfl (by rw [Nat.blt_eq, List.length_map, nowF_len]; omega) (fun w hs => ?_))
          rw [← List.map_set, nowF_set c2] at hs
          refine l_end ?_
          refine e_then ?_
          refine r_dr (.q 0 (.q 1 (.q 2 (.q 3 (.q 4 (.q 5 (.q 6 (.q 7 (.q 8 (.q 9 (.q 10 (.q 11 (.q 12 (.nil)))))))))))))) 12 hs mixed (by kernel_rfl) (fun hs => ?_)
          refine c_q rfl (by first | exact hs | exact hs.subl | exact hs.cellAt rfl | trivial) (fun _ _ _ h => h) (fun w hs => by exact y_mv_bool rfl) ?_
          refine c_q rfl (by first | exact hs | exact hs.subl | exact hs.cellAt rfl | trivial) (fun _ _ _ h => h) (fun w hs => by exact y_mv_bool rfl) ?_
          first | refine c_gskip rfl (by first | exact hs | exact hs.subl | exact hs.cellAt rfl | trivial) (fun _ _ _ h => h) rfl rfl ?_ | refine c_gskip_u rfl (by first | exact hs | exact hs.subl | exact hs.cellAt rfl | trivial) (fun _ _ _ h => h) rfl rfl ?_ | refine c_gdo rfl (by first | exact hs | exact hs.subl | exact hs.cellAt rfl | trivial) (fun _ _ _ h => h) rfl rfl (fun w hs => by exact y_mv_slice rfl) ?_
          first | refine c_gskip rfl (by first | exact hs | exact hs.subl | exact hs.cellAt rfl | trivial) (fun _ _ _ h => h) rfl rfl ?_ | refine c_gskip_u rfl (by first | exact hs | exact hs.subl | exact hs.cellAt rfl | trivial) (fun _ _ _ h => h) rfl rfl ?_ | refine c_gdo rfl (by first | exact hs | exact hs.subl | exact hs.cellAt rfl | trivial) (fun _ _ _ h => h) rfl rfl (fun w hs => by exact y_mv_int rfl) ?_
          first | refine c_gskip rfl (by first | exact hs | exact hs.subl | exact hs.cellAt rfl | trivial) (fun _ _ _ h => h) rfl rfl ?_ | refine c_gskip_u rfl (by first | exact hs | exact hs.subl | exact hs.cellAt rfl | trivial) (fun _ _ _ h => h) rfl rfl ?_ | refine c_gdo rfl (by first | exact hs | exact hs.subl | exact hs.cellAt rfl | trivial) (fun _ _ _ h => h) rfl rfl (fun w hs => by exact y_indexT (off := v) rfl rfl (by omega) (by omega) rfl (by omega)) ?_
          first | refine c_gskip rfl (by first | exact hs | exact hs.subl | exact hs.cellAt rfl | trivial) (fun _ _ _ h => h) rfl rfl ?_ | refine c_gskip_u rfl (by first | exact hs | exact hs.subl | exact hs.cellAt rfl | trivial) (fun _ _ _ h => h) rfl rfl ?_ | refine c_gdo rfl (by first | exact hs | exact hs.subl | exact hs.cellAt rfl | trivial) (fun _ _ _ h => h) rfl rfl (fun w hs => by exact y_ld (v := .bool (oneE s a v)) hs rfl (by rw [bool_get (by rw [oneL_len]; omega), oneL_env (by omega)])) ?_
          first | refine c_gskip rfl (by first | exact hs | exact hs.subl | exact hs.cellAt rfl | trivial) (fun _ _ _ h => h) rfl rfl ?_ | refine c_gskip_u rfl (by first | exact hs | exact hs.subl | exact hs.cellAt rfl | trivial) (fun _ _ _ h => h) rfl rfl ?_ | refine c_gdo rfl (by first | exact hs | exact hs.subl | exact hs.cellAt rfl | trivial) (fun _ _ _ h => h) rfl rfl (fun w hs => by exact y_mv_slice rfl) ?_
          first | refine c_gskip rfl (by first | exact hs | exact hs.subl | exact hs.cellAt rfl | trivial) (fun _ _ _ h => h) rfl rfl ?_ | refine c_gskip_u rfl (by first | exact hs | exact hs.subl | exact hs.cellAt rfl | trivial) (fun _ _ _ h => h) rfl rfl ?_ | refine c_gdo rfl (by first | exact hs | exact hs.subl | exact hs.cellAt rfl | trivial) (fun _ _ _ h => h) rfl rfl (fun w hs => by exact y_mv_int rfl) ?_
          first | refine c_gskip rfl (by first | exact hs | exact hs.subl | exact hs.cellAt rfl | trivial) (fun _ _ _ h => h) rfl rfl ?_ | refine c_gskip_u rfl (by first | exact hs | exact hs.subl | exact hs.cellAt rfl | trivial) (fun _ _ _ h => h) rfl rfl ?_ | refine c_gdo rfl (by first | exact hs | exact hs.subl | exact hs.cellAt rfl | trivial) (fun _ _ _ h => h) rfl rfl (fun w hs => by exact y_indexT (off := v) rfl rfl (by omega) (by omega) rfl (by omega)) ?_
          first | refine c_gskip rfl (by first | exact hs | exact hs.subl | exact hs.cellAt rfl | trivial) (fun _ _ _ h => h) rfl rfl ?_ | refine c_gskip_u rfl (by first | exact hs | exact hs.subl | exact hs.cellAt rfl | trivial) (fun _ _ _ h => h) rfl rfl ?_ | refine c_gdo rfl (by first | exact hs | exact hs.subl | exact hs.cellAt rfl | trivial) (fun _ _ _ h => h) rfl rfl (fun w hs => by exact y_ld (v := .bool (bitE i v)) hs rfl (nowF_get c2)) ?_
          first | refine c_gskip rfl (by first | exact hs | exact hs.subl | exact hs.cellAt rfl | trivial) (fun _ _ _ h => h) rfl rfl ?_ | refine c_gskip_u rfl (by first | exact hs | exact hs.subl | exact hs.cellAt rfl | trivial) (fun _ _ _ h => h) rfl rfl ?_ | refine c_gdo rfl (by first | exact hs | exact hs.subl | exact hs.cellAt rfl | trivial) (fun _ _ _ h => h) rfl rfl (fun w hs => by exact y_bool_eql rfl rfl rfl) ?_
          refine c_q rfl (by first | exact hs | exact hs.subl | exact hs.cellAt rfl | trivial) (fun _ _ _ h => h) (fun w hs => by first | exact y_pk_bt rfl rfl | exact y_pk_bf rfl rfl) ?_
          refine c_q rfl (by first | exact hs | exact hs.subl | exact hs.cellAt rfl | trivial) (fun _ _ _ h => h) (fun w hs => by exact y_as_bool rfl) ?_
          refine c_end ?_
          refine e_blk ?_
          refine e_then ?_
          refine s_reg ?_
          refine l_q (by exact y_mv_int rfl) ?_
          refine l_q (by first | exact y_addn rfl rfl (by omega) | exact y_add rfl rfl rfl) ?_
          refine l_q (by exact y_as_int rfl) ?_
          refine l_end ?_
          refine e_then ?_
          exact ⟨v + 1, _, nx ⟨rfl, rfl, rfl, rfl, rfl, rfl, rfl, rfl, trivial⟩, ⟨hs, by omega⟩, by omega⟩
        · have ev7 : v = 7 := by omega
          subst ev7
          have hd : Dg W w M s ((b66, .cells ((nowF i 7).map Value.bool) 4) :: R) := ⟨os, hos, hs⟩
          refine s_seq ?_
          refine s_seq ?_
          refine s_reg ?_
          refine l_q (by exact y_mv_int rfl) ?_
          refine l_q (by first | exact y_lss rfl rfl (decide_eq_true (by omega)) | exact y_lss rfl rfl (decide_eq_false (by omega)) | exact y_lss rfl rfl rfl) ?_
          refine l_end ?_
          refine e_then ?_
          refine cond_f rfl ?_
          refine s_exit ?_
          refine e_then_x ?_
          refine e_then_x ?_
          refine e_blk_x ?_
          refine e_then ?_
          refine s_seq ?_
          refine s_reg ?_
          refine l_q (by exact y_mv_ptr rfl) ?_
          refine l_q (by exact y_mv_int rfl) ?_
          refine l_q (by exact y_mv_slice rfl) ?_
          refine l_w (w_call rfl (value_c (bl := nowF i 7) I Ka.lt (by omega) (by rw [h7]; rfl) hd) rfl (fun _ w h => ?_))
          rw [now_ev I h7 Ka.lt, hval] at h; obtain ⟨rfl, hd⟩ := h
          refine l_q (by exact y_mv_tuple rfl) ?_
          refine l_q (by exact y_extract rfl rfl) ?_
          refine l_q (by exact y_extract rfl rfl) ?_
          refine l_q (by exact y_as_bool rfl) ?_
          refine l_q (by exact y_as_int rfl) ?_
          refine l_end ?_
          refine e_then ?_
          refine s_seq ?_
          refine s_seq ?_
          refine s_reg ?_
          refine l_q (by exact y_mv_int rfl) ?_
          refine l_q (by first | exact y_neq rfl rfl (decide_eq_true (by omega)) | exact y_neq rfl rfl (decide_eq_false (by omega)) | exact y_neq rfl rfl rfl) ?_
          refine l_q (by exact y_mv_bool rfl) ?_
          first | refine l_gskip rfl rfl ?_ | refine l_gskip_u rfl rfl ?_ | refine l_gdo rfl rfl (by exact y_mv_bool rfl) ?_
          first | refine l_gskip rfl rfl ?_ | refine l_gskip_u rfl rfl ?_ | refine l_gdo rfl rfl (by exact y_mv_bool rfl) ?_
          first | refine l_gskip rfl rfl ?_ | refine l_gskip_u rfl rfl ?_ | refine l_gdo rfl rfl (by exact y_mv_bool rfl) ?_
          first | refine l_gskip rfl rfl ?_ | refine l_gskip_u rfl rfl ?_ | refine l_gdo rfl rfl (by first | exact y_not_t rfl | exact y_not_f rfl | exact y_notd rfl) ?_
          first | refine l_gskip rfl rfl ?_ | refine l_gskip_u rfl rfl ?_ | refine l_gdo rfl rfl (by first | exact y_pk_bt rfl rfl | exact y_pk_bf rfl rfl) ?_
          refine l_q (by first | exact y_pk_bt rfl rfl | exact y_pk_bf rfl rfl) ?_
          refine l_end ?_
          refine e_then ?_
          refine cond_f rfl ?_
          refine s_skip ?_
          refine e_then ?_
          refine s_seq ?_
          refine s_reg ?_
          refine l_q (by exact y_mv_bool rfl) ?_
          refine l_end ?_
          refine e_then ?_
          refine cond_f rfl ?_
          refine s_skip ?_
          refine e_blk ?_
          refine e_then ?_
          refine s_reg ?_
          refine l_q (by exact y_mv_int rfl) ?_
          refine l_q (by first | exact y_addn rfl rfl (by omega) | exact y_add rfl rfl rfl) ?_
          refine l_q (by exact y_as_int rfl) ?_
          refine l_end ?_
          refine e_then ?_
          exact ⟨i + 1, _, nx ⟨rfl, rfl, rfl, rfl, rfl, trivial⟩, ⟨hd.sub (.cons _ (List.Sublist.refl _)), by omega⟩, by omega⟩
      · refine s_seq ?_
        refine s_seq ?_
        refine s_reg ?_
        refine l_q (by exact y_mv_int rfl) ?_
        refine l_q (by first | exact y_lss rfl rfl (decide_eq_true (by omega)) | exact y_lss rfl rfl (decide_eq_false (by omega)) | exact y_lss rfl rfl rfl) ?_
        refine l_end ?_
        refine e_then ?_
        refine cond_f rfl ?_
        refine s_exit ?_
        refine e_then_x ?_
        refine e_then_x ?_
        refine e_blk_x ?_
        refine e_then ?_
        refine s_seq ?_
        refine s_reg ?_
        refine l_q (by exact y_mv_bool rfl) ?_
        refine l_q (by first | exact y_not_t rfl | exact y_not_f rfl | exact y_notd rfl) ?_
        refine l_q (by exact y_as_bool rfl) ?_
        refine l_end ?_
        refine e_then ?_
        refine s_ret ?_
        exact ret_ [.bool _] rfl ⟨rfl, trivial⟩ ⟨rfl, hd.rest.nil⟩
    · have holen := oneL_len s a
      refine s_seq ?_
      refine s_reg ?_
      refine l_q (by exact y_mv_ptr rfl) ?_
      refine l_q (by exact y_mv_int rfl) ?_
      refine l_w (w_call rfl (by first | exact one_0 I hz (by omega) hd | exact one_c I hlt hz (by omega) hd) rfl (fun _ w h => ?_))
      first | (obtain ⟨rfl, hd⟩ := h) | (obtain ⟨bo, rfl, hd⟩ := h)
      refine l_q (by exact y_mv_tuple rfl) ?_
      refine l_q (by exact y_extract rfl rfl) ?_
      refine l_q (by exact y_extract rfl rfl) ?_
      refine l_q (by exact y_extract rfl rfl) ?_
      refine l_q (by exact y_as_slice rfl) ?_
      refine l_q (by exact y_as_bool rfl) ?_
      refine l_q (by exact y_as_int rfl) ?_
      refine l_end ?_
      refine e_then ?_
      refine s_seq ?_
      refine s_seq ?_
      refine s_reg ?_
      refine l_q (by exact y_mv_int rfl) ?_
      refine l_q (by first | exact y_neq rfl rfl (decide_eq_true (by omega)) | exact y_neq rfl rfl (decide_eq_false (by omega)) | exact y_neq rfl rfl rfl) ?_
      refine l_q (by exact y_mv_bool rfl) ?_
      first | refine l_gskip rfl rfl ?_ | refine l_gskip_u rfl rfl ?_ | refine l_gdo rfl rfl (by exact y_mv_bool rfl) ?_
      first | refine l_gskip rfl rfl ?_ | refine l_gskip_u rfl rfl ?_ | refine l_gdo rfl rfl (by exact y_mv_int rfl) ?_
      first | refine l_gskip rfl rfl ?_ | refine l_gskip_u rfl rfl ?_ | refine l_gdo rfl rfl (by first | exact y_neq rfl rfl (decide_eq_true (by omega)) | exact y_neq rfl rfl (decide_eq_false (by omega))) ?_
      first | refine l_gskip rfl rfl ?_ | refine l_gskip_u rfl rfl ?_ | refine l_gdo rfl rfl (by exact y_bool_neq (v := .bool false) rfl rfl rfl) ?_
      refine l_q (by first | exact y_pk_bt rfl rfl | exact y_pk_bf rfl rfl) ?_
      refine l_end ?_
      refine e_then ?_
      refine cond_f rfl ?_
      refine s_skip ?_
      refine e_then ?_
      refine s_seq ?_
      refine s_seq ?_
      refine s_reg ?_
      refine l_q (by exact y_as_int rfl) ?_
      refine l_end ?_
      refine e_then ?_
      refine s_block ?_
      rw [h7]
      refine loop_st (X := Nat) (fun i => [(9, M.p), (12, I64 a), (13, .slice (some ⟨bo, 0, none⟩) 7 7), (14, .bool true), (15, I64 i)])
        (fun i w => Dg W w M s ((bo, .cells ((oneL s a).map Value.bool) 4) :: R) ∧ i ≤ 128 ∧ ∀ j, j < i → ev s a (bitE j) = false) (fun i => 128 - i) 0 ⟨rfl, rfl, rfl, rfl, rfl, trivial⟩ ⟨hd, by omega, fun j hj => absurd hj (by omega)⟩ ?_
      clear hd
      rintro i ρ w ⟨hd, i1, hpre⟩
      by_cases c1 : i < 128
      · obtain ⟨os, hos, hs⟩ := hd.ex
        have F : FirstL s a i := ⟨c1, hpre⟩
        obtain ⟨vv, hval⟩ : ∃ b, ev s a (bitE i) = b := ⟨_, rfl⟩
        refine s_seq ?_
        refine s_seq ?_
        refine s_reg ?_
        refine l_q (by exact y_mv_int rfl) ?_
        refine l_q (by first | exact y_lss rfl rfl (decide_eq_true (by omega)) | exact y_lss rfl rfl (decide_eq_false (by omega)) | exact y_lss rfl rfl rfl) ?_
        refine l_end ?_
        refine e_then ?_
        refine cond_t rfl ?_
        refine s_skip ?_
        refine e_then ?_
        refine s_seq ?_
        refine s_block ?_
        refine s_seq ?_
        refine s_reg ?_
        refine l_w (w_makeSlice (m := 7) hs rfl rfl (by decide) (by decide) (fun b66 w hs hb66 => ?_))
        rw [zeros_b, nowF_0 i] at hs; replace hs := stB_rot hs
        refine l_q (by exact y_as_slice rfl) ?_
        refine l_end ?_
        refine e_then ?_
        refine s_seq ?_
        refine s_reg ?_
        refine l_q (by exact y_mv_slice rfl) ?_
        refine l_q (by exact y_len_slice rfl) ?_
        refine l_q (by first | exact y_eql rfl rfl (decide_eq_true (by omega)) | exact y_eql rfl rfl (decide_eq_false (by omega)) | exact y_eql rfl rfl rfl) ?_
        refine l_q (by exact y_as_bool rfl) ?_
        refine l_end ?_
        refine e_then ?_
        refine s_seq ?_
        refine s_seq ?_
        refine s_reg ?_
        refine l_q (by exact y_as_int rfl) ?_
        refine l_end ?_
        refine e_then ?_
        refine s_block ?_
        refine loop_st (X := Nat) (fun v => [(9, M.p), (12, I64 a), (13, .slice (some ⟨bo, 0, none⟩) 7 7), (14, .bool true), (15, I64 i), (16, .slice (some ⟨b66, 0, none⟩) 7 7), (17, .bool (sameF (oneE s a) i v)), (18, I64 v)])
          (fun v w => St W w (stB M s os ((b66, .cells ((nowF i v).map Value.bool) 4) :: (bo, .cells ((oneL s a).map Value.bool) 4) :: R)) ∧ v ≤ 7) (fun v => 7 - v) 0 ⟨rfl, rfl, rfl, rfl, rfl, rfl, rfl, rfl, trivial⟩ ⟨hs, by omega⟩ ?_
        clear hs
        rintro v ρ w ⟨hs, v1⟩
        by_cases c2 : v < 7
        · have hsv : sameF (oneE s a) i (v + 1) = (sameF (oneE s a) i v && (oneE s a v == bitE i v)) := rfl
          cases hsf : sameF (oneE s a) i v with
          | true =>
            rw [hsf] at hsv
            refine s_seq ?_
            refine s_seq ?_
            refine s_reg ?_
            refine l_q (by exact y_mv_int rfl) ?_
            refine l_q (by first | exact y_lss rfl rfl (decide_eq_true (by omega)) | exact y_lss rfl rfl (decide_eq_false (by omega)) | exact y_lss rfl rfl rfl) ?_
            refine l_end ?_
            refine e_then ?_
            refine cond_t rfl ?_
            refine s_skip ?_
            refine e_then ?_
            refine s_seq ?_
            refine s_block ?_
            refine s_seq ?_
            refine s_reg ?_
            refine l_q (by exact y_mv_slice rfl) ?_
            refine l_q (by exact y_mv_int rfl) ?_
            refine l_q (by exact y_mv_int rfl) ?_
            refine l_q (by exact y_mv_int rfl) ?_
            refine l_q (by first | exact y_subn rfl rfl (by omega) | exact y_sub rfl rfl rfl) ?_
            refine l_q (by exact y_shl1 (m := 6 - v) rfl rfl (by omega) (by omega)) ?_
            refine l_q (by exact y_quon rfl rfl ⟨by omega, by omega, pow_pos2 _⟩) ?_
            refine l_q (by exact y_remn rfl rfl ⟨Int.ediv_nonneg (by omega) (by have := pow_pos2 (6 - v); omega), by decide⟩) ?_
            refine l_q (by exact y_eql (r := bitE i v) rfl rfl (bit_int i v)) ?_
            refine l_q (by exact y_indexT (off := v) rfl rfl (by omega) (by omega) rfl (by omega)) ?_
            refine l_w (w_store (v := .bool (bitE i v)) (off := v) hs rfl rfl rfl (by rw [Nat.blt_eq, List.length_map, nowF_len]; omega) (fun w hs => ?_))
            rw [← List.map_set, nowF_set c2] at hs
            refine l_end ?_
            refine e_then ?_
            refine r_dr (.q 0 (.q 1 (.q 2 (.q 3 (.q 4 (.q 5 (.q 6 (.q 7 (.q 8 (.q 9 (.q 10 (.q 11 (.q 12 (.nil)))))))))))))) 12 hs mixed (by kernel_rfl) (fun hs => ?_)
            refine c_q rfl (by first | exact hs | exact hs.subl | exact hs.cellAt rfl | trivial) (fun _ _ _ h => h) (fun w hs => by exact y_mv_bool rfl) ?_
            refine c_q rfl (by first | exact hs | exact hs.subl | exact hs.cellAt rfl | trivial) (fun _ _ _ h => h) (fun w hs => by exact y_mv_bool rfl) ?_
            first | refine c_gskip rfl (by first | exact hs | exact hs.subl | exact hs.cellAt rfl | trivial) (fun _ _ _ h => h) rfl rfl ?_ | refine c_gskip_u rfl (by first | exact hs | exact hs.subl | exact hs.cellAt rfl | trivial) (fun _ _ _ h => h) rfl rfl ?_ | refine c_gdo rfl (by first | exact hs | exact hs.subl | exact hs.cellAt rfl | trivial) (fun _ _ _ h => h) rfl rfl (fun w hs => by exact y_mv_slice rfl) ?_
            first | refine c_gskip rfl (by first | exact hs | exact hs.subl | exact hs.cellAt rfl | trivial) (fun _ _ _ h => h) rfl rfl ?_ | refine c_gskip_u rfl (by first | exact hs | exact hs.subl | exact hs.cellAt rfl | trivial) (fun _ _ _ h => h) rfl rfl ?_ | refine c_gdo rfl (by first | exact hs | exact hs.subl | exact hs.cellAt rfl | trivial) (fun _ _ _ h => h) rfl rfl (fun w hs => by exact y_mv_int rfl) ?_
            first | refine c_gskip rfl (by first | exact hs | exact hs.subl | exact hs.cellAt rfl | trivial) (fun _ _ _ h => h) rfl rfl ?_ | refine c_gskip_u rfl (by first | exact hs | exact hs.subl | exact hs.cellAt rfl | trivial) (fun _ _ _ h => h) rfl rfl ?_ | refine c_gdo rfl (by first | exact hs | exact hs.subl | exact hs.cellAt rfl | trivial) (fun _ _ _ h => h) rfl rfl (fun w hs => by exact y_indexT (off := v) rfl rfl (by omega) (by omega) rfl (by omega)) ?_
            first | refine c_gskip rfl (by first | exact hs | exact hs.subl | exact hs.cellAt rfl | trivial) (fun _ _ _ h => h) rfl rfl ?_ | refine c_gskip_u rfl (by first | exact hs | exact hs.subl | exact hs.cellAt rfl | trivial) (fun _ _ _ h => h) rfl rfl ?_ | refine c_gdo rfl (by first | exact hs | exact hs.subl | exact hs.cellAt rfl | trivial) (fun _ _ _ h => h) rfl rfl (fun w hs => by exact y_ld (v := .bool (oneE s a v)) hs rfl (by rw [bool_get (by rw [oneL_len]; omega), oneL_env (by omega)])) ?_
            first | refine c_gskip rfl (by first | exact hs | exact hs.subl | exact hs.cellAt rfl | trivial) (fun _ _ _ h => h) rfl rfl ?_ | refine c_gskip_u rfl (by first | exact hs | exact hs.subl | exact hs.cellAt rfl | trivial) (fun _ _ _ h => h) rfl rfl ?_ | refine c_gdo rfl (by first | exact hs | exact hs.subl | exact hs.cellAt rfl | trivial) (fun _ _ _ h => h) rfl rfl (fun w hs => by exact y_mv_slice rfl) ?_
            first | refine c_gskip rfl (by first | exact hs | exact hs.subl | exact hs.cellAt rfl | trivial) (fun _ _ _ h => h) rfl rfl ?_ | refine c_gskip_u rfl (by first | exact hs | exact hs.subl | exact hs.cellAt rfl | trivial) (fun _ _ _ h => h) rfl rfl ?_ | refine c_gdo rfl (by first | exact hs | exact hs.subl | exact hs.cellAt rfl | trivial) (fun _ _ _ h => h) rfl rfl (fun w hs => by exact y_mv_int rfl) ?_
            first | refine c_gskip rfl (by first | exact hs | exact hs.subl | exact hs.cellAt rfl | trivial) (fun _ _ _ h => h) rfl rfl ?_ | refine c_gskip_u rfl (by first | exact hs | exact hs.subl | exact hs.cellAt rfl | trivial) (fun _ _ _ h => h) rfl rfl ?_ | refine c_gdo rfl (by first | exact hs | exact hs.subl | exact hs.cellAt rfl | trivial) (fun _ _ _ h => h) rfl rfl (fun w hs => by exact y_indexT (off := v) rfl rfl (by omega) (by omega) rfl (by omega)) ?_
            first | refine c_gskip rfl (by first | exact hs | exact hs.subl | exact hs.cellAt rfl | trivial) (fun _ _ _ h => h) rfl rfl ?_ | refine c_gskip_u rfl (by first | exact hs | exact hs.subl | exact hs.cellAt rfl | trivial) (fun _ _ _ h => h) rfl rfl ?_ | refine c_gdo rfl (by first | exact hs | exact hs.subl | exact hs.cellAt rfl | trivial) (fun _ _ _ h => h) rfl rfl (fun w hs => by exact y_ld (v := .bool (bitE i v)) hs rfl (nowF_get c2)) ?_
            first | refine c_gskip rfl (by first | exact hs | exact hs.subl | exact hs.cellAt rfl | trivial) (fun _ _ _ h => h) rfl rfl ?_ | refine c_gskip_u rfl (by first | exact hs | exact hs.subl | exact hs.cellAt rfl | trivial) (fun _ _ _ h => h) rfl rfl ?_ | refine c_gdo rfl (by first | exact hs | exact hs.subl | exact hs.cellAt rfl | trivial) (fun _ _ _ h => h) rfl rfl (fun w hs => by exact y_bool_eql rfl rfl rfl) ?_
            refine c_q rfl (by first | exact hs | exact hs.subl | exact hs.cellAt rfl | trivial) (fun _ _ _ h => h) (fun w hs => by first | exact y_pk_bt rfl rfl | exact y_pk_bf rfl rfl) ?_
            refine c_q rfl (by first | exact hs | exact hs.subl | exact hs.cellAt rfl | trivial) (fun _ _ _ h => h) (fun w hs => by exact y_as_bool rfl) ?_
            refine c_end ?_
            refine e_blk ?_
            refine e_then ?_
            refine s_reg ?_
            refine l_q (by exact y_mv_int rfl) ?_
            refine l_q (by first | exact y_addn rfl rfl (by omega) | exact y_add rfl rfl rfl) ?_
            refine l_q (by exact y_as_int rfl) ?_
            refine l_end ?_
            refine e_then ?_
            exact ⟨v + 1, _, nx ⟨rfl, rfl, rfl, rfl, rfl, rfl, by rw [hsv]; rfl, rfl, trivial⟩, ⟨hs, by omega⟩, by omega⟩
          | false =>
            rw [hsf] at hsv
            refine s_seq ?_
            refine s_seq ?_
            refine s_reg ?_
            refine l_q (by exact y_mv_int rfl) ?_
            refine l_q (by first | exact y_lss rfl rfl (decide_eq_true (by omega)) | exact y_lss rfl rfl (decide_eq_false (by omega)) | exact y_lss rfl rfl rfl) ?_
            refine l_end ?_
            refine e_then ?_
            refine cond_t rfl ?_
            refine s_skip ?_
            refine e_then ?_
            refine s_seq ?_
            refine s_block ?_
            refine s_seq ?_
            refine s_reg ?_
            refine l_q (by exact y_mv_slice rfl) ?_
            refine l_q (by exact y_mv_int rfl) ?_
            refine l_q (by exact y_mv_int rfl) ?_
            refine l_q (by exact y_mv_int rfl) ?_
            refine l_q (by first | exact y_subn rfl rfl (by omega) | exact y_sub rfl rfl rfl) ?_
            refine l_q (by exact y_shl1 (m := 6 - v) rfl rfl (by omega) (by omega)) ?_
            refine l_q (by exact y_quon rfl rfl ⟨by omega, by omega, pow_pos2 _⟩) ?_
            refine l_q (by exact y_remn rfl rfl ⟨Int.ediv_nonneg (by omega) (by have := pow_pos2 (6 - v); omega), by decide⟩) ?_
            refine l_q (by exact y_eql (r := bitE i v) rfl rfl (bit_int i v)) ?_
            refine l_q (by exact y_indexT (off := v) rfl rfl (by omega) (by omega) rfl (by omega)) ?_
            refine l_w (w_store (v := .bool (bitE i v)) (off := v) hs rfl rfl rfl (by rw [Nat.blt_eq, List.length_map, nowF_len]; omega) (fun w hs => ?_))
            rw [← List.map_set, nowF_set c2] at hs
            refine l_end ?_
            refine e_then ?_
            refine r_dr (.q 0 (.q 1 (.q 2 (.q 3 (.q 4 (.q 5 (.q 6 (.q 7 (.q 8 (.q 9 (.q 10 (.q 11 (.q 12 (.nil)))))))))))))) 12 hs mixed (by kernel_rfl) (fun hs => ?_)
            refine c_q rfl (by first | exact hs | exact hs.subl | exact hs.cellAt rfl | trivial) (fun _ _ _ h => h) (fun w hs => by exact y_mv_bool rfl) ?_
            refine c_q rfl (by first | exact hs | exact hs.subl | exact hs.cellAt rfl | trivial) (fun _ _ _ h => h) (fun w hs => by exact y_mv_bool rfl) ?_
            first | refine c_gskip rfl (by first | exact hs | exact hs.subl | exact hs.cellAt rfl | trivial) (fun _ _ _ h => h) rfl rfl ?_ | refine c_gskip_u rfl (by first | exact hs | exact hs.subl | exact hs.cellAt rfl | trivial) (fun _ _ _ h => h) rfl rfl ?_ | refine c_gdo rfl (by first | exact hs | exact hs.subl | exact hs.cellAt rfl | trivial) (fun _ _ _ h => h) rfl rfl (fun w hs => by exact y_mv_slice rfl) ?_
            first | refine c_gskip rfl (by first | exact hs | exact hs.subl | exact hs.cellAt rfl | trivial) (fun _ _ _ h => h) rfl rfl ?_ | refine c_gskip_u rfl (by first | exact hs | exact hs.subl | exact hs.cellAt rfl | trivial) (fun _ _ _ h => h) rfl rfl ?_ | refine c_gdo rfl (by first | exact hs | exact hs.subl | exact hs.cellAt rfl | trivial) (fun _ _ _ h => h) rfl rfl (fun w hs => by exact y_mv_int rfl) ?_
            first | refine c_gskip rfl (by first | exact hs | exact hs.subl | exact hs.cellAt rfl | trivial) (fun _ _ _ h => h) rfl rfl ?_ | refine c_gskip_u rfl (by first | exact hs | exact hs.subl | exact hs.cellAt rfl | trivial) (fun _ _ _ h => h) rfl rfl ?_ | refine c_gdo rfl (by first | exact hs | exact hs.subl | exact hs.cellAt rfl | trivial) (fun _ _ _ h => h) rfl rfl (fun w hs => by exact y_indexT (off := v) rfl rfl (by omega) (by omega) rfl (by omega)) ?_
            first | refine c_gskip rfl (by first | exact hs | exact hs.subl | exact hs.cellAt rfl | trivial) (fun _ _ _ h => h) rfl rfl ?_ | refine c_gskip_u rfl (by first | exact hs | exact hs.subl | exact hs.cellAt rfl | trivial) (fun _ _ _ h => h) rfl rfl ?_ | refine c_gdo rfl (by first | exact hs | exact hs.subl | exact hs.cellAt rfl | trivial) (fun _ _ _ h => h) rfl rfl (fun w hs => by exact y_ld (v := .bool (oneE s a v)) hs rfl (by rw [bool_get (by rw [oneL_len]; omega), oneL_env (by omega)])) ?_
            first | refine c_gskip rfl (by first | exact hs | exact hs.subl | exact hs.cellAt rfl | trivial) (fun _ _ _ h => h) rfl rfl ?_ | refine c_gskip_u rfl (by first | exact hs | exact hs.subl | exact hs.cellAt rfl | trivial) (fun _ _ _ h => h) rfl rfl ?_ | refine c_gdo rfl (by first | exact hs | exact hs.subl | exact hs.cellAt rfl | trivial) (fun _ _ _ h => h) rfl rfl (fun w hs => by exact y_mv_slice rfl) ?_
            first | refine c_gskip rfl (by first | exact hs | exact hs.subl | exact hs.cellAt rfl | trivial) (fun _ _ _ h => h) rfl rfl ?_ | refine c_gskip_u rfl (by first | exact hs | exact hs.subl | exact hs.cellAt rfl | trivial) (fun _ _ _ h => h) rfl rfl ?_ | refine c_gdo rfl (by first | exact hs | exact hs.subl | exact hs.cellAt rfl | trivial) (fun _ _ _ h => h) rfl rfl (fun w hs => by exact y_mv_int rfl) ?_
            first | refine c_gskip rfl (by first | exact hs | exact hs.subl | exact hs.cellAt rfl | trivial) (fun _ _ _ h => h) rfl rfl ?_ | refine c_gskip_u rfl (by first | exact hs | exact hs.subl | exact hs.cellAt rfl | trivial) (fun _ _ _ h => h) rfl rfl ?_ | refine c_gdo rfl (by first | exact hs | exact hs.subl | exact hs.cellAt rfl | trivial) (fun _ _ _ h => h) rfl rfl (fun w hs => by exact y_indexT (off := v) rfl rfl (by omega) (by omega) rfl (by omega)) ?_
            first | refine c_gskip rfl (by first | exact hs | exact hs.subl | exact hs.cellAt rfl | trivial) (fun _ _ _ h => h) rfl rfl ?_ | refine c_gskip_u rfl (by first | exact hs | exact hs.subl | exact hs.cellAt rfl | trivial) (fun _ _ _ h => h) rfl rfl ?_ | refine c_gdo rfl (by first | exact hs | exact hs.subl | exact hs.cellAt rfl | trivial) (fun _ _ _ h => h) rfl rfl (fun w hs => by exact y_ld (v := .bool (bitE i v)) hs rfl (nowF_get c2)) ?_
            first | refine c_gskip rfl (by first | exact hs | exact hs.subl | exact hs.cellAt rfl | trivial) (fun _ _ _ h => h) rfl rfl ?_ | refine c_gskip_u rfl (by first | exact hs | exact hs.subl | exact hs.cellAt rfl | trivial) (fun _ _ _ h => h) rfl rfl ?_ | refine c_gdo rfl (by first | exact hs | exact hs.subl | exact hs.cellAt rfl | trivial) (fun _ _ _ h => h) rfl rfl (fun w hs => by exact y_bool_eql rfl rfl rfl) ?_
            refine c_q rfl (by first | exact hs | exact hs.subl | exact hs.cellAt rfl | trivial) (fun _ _ _ h => h) (fun w hs => by first | exact y_pk_bt rfl rfl | exact y_pk_bf rfl rfl) ?_
            refine c_q rfl (by first | exact hs | exact hs.subl | exact hs.cellAt rfl | trivial) (fun _ _ _ h => h) (fun w hs => by exact y_as_bool rfl) ?_
            refine c_end ?_
            refine e_blk ?_
            refine e_then ?_
            refine s_reg ?_
            refine l_q (by exact y_mv_int rfl) ?_
            refine l_q (by first | exact y_addn rfl rfl (by omega) | exact y_add rfl rfl rfl) ?_
            refine l_q (by exact y_as_int rfl) ?_
            refine l_end ?_
            refine e_then ?_
            exact ⟨v + 1, _, nx ⟨rfl, rfl, rfl, rfl, rfl, rfl, by rw [hsv]; rfl, rfl, trivial⟩, ⟨hs, by omega⟩, by omega⟩
        · have ev7 : v = 7 := by omega
          subst ev7
          have hd : Dg W w M s ((b66, .cells ((nowF i 7).map Value.bool) 4) :: (bo, .cells ((oneL s a).map Value.bool) 4) :: R) := ⟨os, hos, hs⟩
          cases vv with
          | true =>
            have hsame := sameF_all 7 (first_hit I h7 hlt hz F hval)
            rw [hsame]
            refine s_seq ?_
            refine s_seq ?_
            refine s_reg ?_
            refine l_q (by exact y_mv_int rfl) ?_
            refine l_q (by first | exact y_lss rfl rfl (decide_eq_true (by omega)) | exact y_lss rfl rfl (decide_eq_false (by omega)) | exact y_lss rfl rfl rfl) ?_
            refine l_end ?_
            refine e_then ?_
            refine cond_f rfl ?_
            refine s_exit ?_
            refine e_then_x ?_
            refine e_then_x ?_
            refine e_blk_x ?_
            refine e_then ?_
            refine s_seq ?_
            refine s_reg ?_
            refine l_q (by exact y_mv_ptr rfl) ?_
            refine l_q (by exact y_mv_int rfl) ?_
            refine l_q (by exact y_mv_slice rfl) ?_
            refine l_w (w_call rfl (value_c (bl := nowF i 7) I Ka.lt (by omega) (by rw [h7]; rfl) hd) rfl (fun _ w h => ?_))
            rw [now_ev I h7 Ka.lt, hval] at h; obtain ⟨rfl, hd⟩ := h
            refine l_q (by exact y_mv_tuple rfl) ?_
            refine l_q (by exact y_extract rfl rfl) ?_
            refine l_q (by exact y_extract rfl rfl) ?_
            refine l_q (by exact y_as_bool rfl) ?_
            refine l_q (by exact y_as_int rfl) ?_
            refine l_end ?_
            refine e_then ?_
            refine s_seq ?_
            refine s_seq ?_
            refine s_reg ?_
            refine l_q (by exact y_mv_int rfl) ?_
            refine l_q (by first | exact y_neq rfl rfl (decide_eq_true (by omega)) | exact y_neq rfl rfl (decide_eq_false (by omega)) | exact y_neq rfl rfl rfl) ?_
            refine l_q (by exact y_mv_bool rfl) ?_
            first | refine l_gskip rfl rfl ?_ | refine l_gskip_u rfl rfl ?_ | refine l_gdo rfl rfl (by exact y_mv_bool rfl) ?_
            first | refine l_gskip rfl rfl ?_ | refine l_gskip_u rfl rfl ?_ | refine l_gdo rfl rfl (by exact y_mv_bool rfl) ?_
            first | refine l_gskip rfl rfl ?_ | refine l_gskip_u rfl rfl ?_ | refine l_gdo rfl rfl (by exact y_mv_bool rfl) ?_
            first | refine l_gskip rfl rfl ?_ | refine l_gskip_u rfl rfl ?_ | refine l_gdo rfl rfl (by first | exact y_not_t rfl | exact y_not_f rfl | exact y_notd rfl) ?_
            first | refine l_gskip rfl rfl ?_ | refine l_gskip_u rfl rfl ?_ | refine l_gdo rfl rfl (by first | exact y_pk_bt rfl rfl | exact y_pk_bf rfl rfl) ?_
            refine l_q (by first | exact y_pk_bt rfl rfl | exact y_pk_bf rfl rfl) ?_
            refine l_end ?_
            refine e_then ?_
            refine cond_f rfl ?_
            refine s_skip ?_
            refine e_then ?_
            refine s_seq ?_
            refine s_reg ?_
            refine l_q (by exact y_mv_bool rfl) ?_
            refine l_end ?_
            refine e_then ?_
            refine cond_t rfl ?_
            refine s_seq ?_
            refine s_reg ?_
            refine l_q (by exact y_mv_bool rfl) ?_
            refine l_q (by exact y_as_bool rfl) ?_
            refine l_end ?_
            refine e_then ?_
            refine s_ret ?_
            refine e_blk_r ?_
            refine e_then_r ?_
            refine e_then_r ?_
            refine e_blk_r ?_
            refine e_then_r ?_
            exact ret_ [.bool _] rfl ⟨rfl, trivial⟩ ⟨rfl, hd.rest.nil⟩
          | false =>
            refine s_seq ?_
            refine s_seq ?_
            refine s_reg ?_
            refine l_q (by exact y_mv_int rfl) ?_
            refine l_q (by first | exact y_lss rfl rfl (decide_eq_true (by omega)) | exact y_lss rfl rfl (decide_eq_false (by omega)) | exact y_lss rfl rfl rfl) ?_
            refine l_end ?_
            refine e_then ?_
            refine cond_f rfl ?_
            refine s_exit ?_
            refine e_then_x ?_
            refine e_then_x ?_
            refine e_blk_x ?_
            refine e_then ?_
            refine s_seq ?_
            refine s_reg ?_
            refine l_q (by exact y_mv_ptr rfl) ?_
            refine l_q (by exact y_mv_int rfl) ?_
            refine l_q (by exact y_mv_slice rfl) ?_
            refine l_w (w_call rfl (value_c (bl := nowF i 7) I Ka.lt (by omega) (by rw [h7]; rfl) hd) rfl (fun _ w h => ?_))
            rw [now_ev I h7 Ka.lt, hval] at h; obtain ⟨rfl, hd⟩ := h
            refine l_q (by exact y_mv_tuple rfl) ?_
            refine l_q (by exact y_extract rfl rfl) ?_
            refine l_q (by exact y_extract rfl rfl) ?_
            refine l_q (by exact y_as_bool rfl) ?_
            refine l_q (by exact y_as_int rfl) ?_
            refine l_end ?_
            refine e_then ?_
            refine s_seq ?_
            refine s_seq ?_
            refine s_reg ?_
            refine l_q (by exact y_mv_int rfl) ?_
            refine l_q (by first | exact y_neq rfl rfl (decide_eq_true (by omega)) | exact y_neq rfl rfl (decide_eq_false (by omega)) | exact y_neq rfl rfl rfl) ?_
            refine l_q (by exact y_mv_bool rfl) ?_
            first | refine l_gskip rfl rfl ?_ | refine l_gskip_u rfl rfl ?_ | refine l_gdo rfl rfl (by exact y_mv_bool rfl) ?_
            first | refine l_gskip rfl rfl ?_ | refine l_gskip_u rfl rfl ?_ | refine l_gdo rfl rfl (by exact y_mv_bool rfl) ?_
            first | refine l_gskip rfl rfl ?_ | refine l_gskip_u rfl rfl ?_ | refine l_gdo rfl rfl (by exact y_mv_bool rfl) ?_
            first | refine l_gskip rfl rfl ?_ | refine l_gskip_u rfl rfl ?_ | refine l_gdo rfl rfl (by first | exact y_not_t rfl | exact y_not_f rfl | exact y_notd rfl) ?_
            first | refine l_gskip rfl rfl ?_ | refine l_gskip_u rfl rfl ?_ | refine l_gdo rfl rfl (by first | exact y_pk_bt rfl rfl | exact y_pk_bf rfl rfl) ?_
            refine l_q (by first | exact y_pk_bt rfl rfl | exact y_pk_bf rfl rfl) ?_
            refine l_end ?_
            refine e_then ?_
            refine cond_f rfl ?_
            refine s_skip ?_
            refine e_then ?_
            refine s_seq ?_
            refine s_reg ?_
            refine l_q (by exact y_mv_bool rfl) ?_
            refine l_end ?_
            refine e_then ?_
            refine cond_f rfl ?_
            refine s_skip ?_
            refine e_blk ?_
            refine e_then ?_
            refine s_reg ?_
            refine l_q (by exact y_mv_int rfl) ?_
            refine l_q (by first | exact y_addn rfl rfl (by omega) | exact y_add rfl rfl rfl) ?_
            refine l_q (by exact y_as_int rfl) ?_
            refine l_end ?_
            refine e_then ?_
            exact ⟨i + 1, _, nx ⟨rfl, rfl, rfl, rfl, rfl, trivial⟩, ⟨hd.sub (.cons _ (List.Sublist.refl _)), by omega, fun j hj => by
              by_cases c : j = i
              · rw [c]; exact hval
              · exact hpre j (by omega)⟩, by omega⟩
      · exact (first_some I h7 hlt hz (fun j hj => hpre j (by omega))).elim
end Go.Proofs.Ytfjniocobcoepaa
