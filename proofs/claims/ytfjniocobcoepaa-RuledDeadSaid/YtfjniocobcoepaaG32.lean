/- Facts on the functions and types of this seat that its laws are proved from: contracts under the premises that each theorem names. -/
import Derived.Test.YtfjniocobcoepaaG31
set_option linter.unusedSimpArgs false
set_option linter.unusedVariables false
set_option linter.unnecessarySimpa false
namespace Go.Proofs.Ytfjniocobcoepaa
open Go Go.RowKit PB
set_option linter.unusedVariables false
set_option linter.unusedSimpArgs false

/-! ### all and reach -/
theorem y_field0 {P : Program} {ρ : Operand → Value} {x : Operand} {s : TypeId} {ty : TypeId} {w : World} {a : Addr} (f : Nat) {off : Nat} [hF' : FieldOff P s f off] (hx : ρ x = .pointer (some a)) (h0 : off = 0) : Yld P ρ (.fieldAddr s x f) ty w (.pointer (some a)) := by
  subst h0
  constructor; intro _ _ _ _
  have hF := hF'.out
  unfold fieldOff at hF
  split at hF
  · rename_i fs hu
    split at hF
    · rename_i fl hf
      split at hF
      · rename_i hz
        have h0 := Option.some.inj hF
        cases hi : P.info? fl.type with
        | none => simp [hi] at hz
        | some inf =>
          have hz : inf.size ≠ 0 := by simpa [hi] using hz
          simp [execOp, Instr.fieldAt, underlying, hu, hf, Instr.sureAddr, hx, fieldPlace, Go.sizeOf, typeInfo, hi, hz, h0, addr_zero]
      · cases hF
    · cases hF
  · cases hF

def bd : Nat → Nat
  | 0 => 73 | 1 => 274 | 2 => 859 | 3 => 1828 | 4 => 3629 | 5 => 6326 | 6 => 10879 | 7 => 17992 | 8 => 30289 | _ => 1000000
theorem bd_le : ∀ n, n ≤ 8 → ∀ w, w ≤ n → boxsN n w ≤ bd n := by decide
theorem nzB_le (n : Nat) (B : Nat → Bx) : nzB n B ≤ n := by
  unfold nzB
  have := List.length_filter_le (fun k => decide ((B k).pm ≠ 0)) (List.range n)
  rwa [List.length_range] at this
/-- The boxes of a list of rules. -/
def bxL (l : List RuleV) (i : Nat) : Bx := boxR (l.getD i (ruleE false))
theorem ruleE_ok (b : Bool) : RuleOk (ruleE b) := ruleOk (ruleE_fits b) (by simp [rChk, aChk, rBad, badR, ruleE, lowB])
theorem rok_get {l : List RuleV} (h : ∀ r ∈ l, RuleOk r) (i : Nat) : RuleOk (l.getD i (ruleE false)) := by
  by_cases c : i < l.length
  · have : l.getD i (ruleE false) = l[i] := by simp [c]
    rw [this]; exact h _ (List.getElem_mem c)
  · have : l.getD i (ruleE false) = ruleE false := by simp [c]
    rw [this]; exact ruleE_ok false
theorem bxs_l {l : List RuleV} (h : ∀ r ∈ l, RuleOk r) (n : Nat) : Bxs n (bxL l) :=
  ⟨fun i _ => boxR_ok (rok_get h i), fun i _ => rfl, fun i _ => rfl, fun i _ => by show (if _ then 0 else 8) = 0 ∨ _ = 8; show (if (l.getD i (ruleE false)).proto = 0 then 0 else 8) = 0 ∨ (if (l.getD i (ruleE false)).proto = 0 then 0 else 8) = 8; split <;> simp⟩
theorem if_bd {s : DS} {a b c n : Nat} {f g k : (Nat → Bool) → Bool} {B : Nat → Bx} (h : Inv s) (h105 : s.vars = 105) (hn : n ≤ 8) (hB : Bxs n B) (A : Kn s a f) (Bk : Kn s b g) (C : Kn s c k) (hR : Of n B (fun e => if f e then g e else k e)) :
    Nx s (ifF s a b c).1 (bd n) ∧ Kn (ifF s a b c).1 (ifF s a b c).2 (fun e => if f e then g e else k e) := by
  have hz := if_boxs h h105 A.lt Bk.lt C.lt hB ⟨fun e e' he => by simp only [iteF]; rw [A.sem, A.sem, Bk.sem, Bk.sem, C.sem, C.sem]; exact hR.of e e' he⟩
  have := bd_le n hn _ (nzB_le n B)
  exact if_n h A Bk C (by omega)

def allF : List RuleV → (Nat → Bool) → Bool
  | [], _ => false
  | r :: rs, e => if decide ((boxR r).on e) = true then r.permit else allF rs e
theorem all_of : ∀ (l : List RuleV), Of l.length (bxL l) (allF l)
  | [] => ⟨fun _ _ _ => rfl⟩
  | r :: rs => ⟨fun e e' h => by
    have h0 := h 0 (by simp)
    have ih := (all_of rs).of e e' fun i hi => h (i + 1) (by simp; omega)
    have h0 : (boxR r).on e ↔ (boxR r).on e' := h0
    simp only [allF, ih, decide_eq_decide.2 h0]⟩
def allN : Nat → Nat
  | 0 => 0
  | n + 1 => allN n + (833 + bd (n + 1))

theorem allN_mono {i j : Nat} (h : i ≤ j) : allN i ≤ allN j := by
  induction j with
  | zero => have : i = 0 := by omega
            subst this; exact Nat.le_refl _
  | succ j ih =>
    by_cases c : i = j + 1
    · subst c; exact Nat.le_refl _
    · have := ih (by omega)
      rw [allN]; omega
theorem all_k {W0 w : World} {M : MB} {mb : Nat} {s : DS} {R : List (Nat × MObj)} {a : Option Addr} {l : List RuleV} {cap : Nat} [im : InL mb (mkO M) R] (I : Inv s) (h105 : s.vars = 105) (hr : RdR W0 R a l) (hok : ∀ r ∈ l, RuleOk r) (hl : l.length ≤ 8)
    (hn : s.nodes.length + allN l.length ≤ 60000) (hd : Dg W0 w M s R) :
    FnC Try.prog 50 [mkP mb, .slice a l.length cap] w (fun x w' => ∃ s' r, x = I64 (r : Nat) ∧ Nx s s' (allN l.length) ∧ Kn s' r (allF l) ∧ Dg W0 w' M s' R) := by
  refine FnC.enter Try.func50 rfl Try.ntmps50 rfl fun ρ => ?_
  refine s_seq ?_
  refine s_reg ?_
  refine l_q (by exact y_as_int rfl) ?_
  refine l_end ?_
  refine e_then ?_
  refine s_seq ?_
  refine s_reg ?_
  refine l_q (by exact y_as_int rfl) ?_
  refine l_end ?_
  refine e_then ?_
  refine s_seq ?_
  refine s_seq ?_
  refine s_reg ?_
  refine l_q (by exact y_mv_slice rfl) ?_
  refine l_q (by exact y_len_slice rfl) ?_
  refine l_q (by first | exact y_subn rfl rfl (by omega) | exact y_sub rfl rfl rfl) ?_
  refine l_q (by exact y_as_int rfl) ?_
  refine l_end ?_
  refine e_then ?_
  refine s_block ?_
  refine loop_st (X := Nat × DS × Nat) (fun y => [(0, mkP mb), (1, .slice a l.length cap), (5, I64 (y.2.2 : Nat)), (6, I64 ((y.1 : Int) - 1))])
    (fun y w => y.1 ≤ l.length ∧ Nx s y.2.1 (allN (l.length - y.1)) ∧ Kn y.2.1 y.2.2 (allF (l.drop y.1)) ∧ Dg W0 w M y.2.1 R) (fun y => y.1) (l.length, s, 0) ⟨rfl, rfl, rfl, rfl, trivial⟩
    ⟨Nat.le_refl _, by rw [Nat.sub_self]; exact Nx.refl I, by rw [List.drop_length]; exact kn0 I, hd⟩ ?_
  clear hd
  rintro ⟨k, s1, r1⟩ ρ w ⟨hk, N, K, hd⟩
  dsimp only at hk N K hd ⊢
  obtain ⟨os, hos, hs⟩ := hd.ex
  have hc1 := N.cnt
  by_cases c : 0 < k
  · obtain ⟨r, hg⟩ : ∃ r, l[k - 1]? = some r := ⟨_, List.getElem?_eq_getElem (show k - 1 < l.length by omega)⟩
    have hdr : l.drop (k - 1) = r :: l.drop k := by
      have h1 := List.drop_eq_getElem_cons (l := l) (i := k - 1) (by omega)
      rw [h1, show k - 1 + 1 = k by omega]
      congr 1
      have := List.getElem?_eq_getElem (show k - 1 < l.length by omega)
      rw [hg] at this
      exact (Option.some.inj this).symm
    have hmem : r ∈ l := List.mem_of_getElem? hg
    have hrok := hok r hmem
    have hok' : ∀ x ∈ l.drop (k - 1), RuleOk x := fun x hx => hok x (List.mem_of_mem_drop hx)
    have hR := all_of (l.drop (k - 1))
    have hlen : (l.drop (k - 1)).length = l.length - (k - 1) := List.length_drop
    have hN : allN (l.length - (k - 1)) = allN (l.length - k) + (833 + bd (l.length - (k - 1))) := by
      rw [show l.length - (k - 1) = (l.length - k) + 1 by omega]; rfl
    have hmono := allN_mono (show l.length - (k - 1) ≤ l.length by omega)
    rw [hlen, hdr] at hR
    rw [hdr] at hok'
    obtain ⟨x, hx, hrd⟩ := hr.at_ (k - 1) r hg
    have hperm := hrd w hd.rest 0 (by decide)
    rw [addr_zero] at hperm
    replace hperm : w.cell? (x.add ((k - 1) * 10)) = some (.bool r.permit) := hperm
    cases hp : r.permit with
    | true =>
      have hPm : ∀ s', Inv s' → Kn s' 1 (fun _ => r.permit) := fun s' h => (kn1 h).fn fun e => by rw [hp]
      rw [hp] at hperm
      refine s_seq ?_
      refine s_seq ?_
      refine s_reg ?_
      refine l_q (by exact y_mv_int rfl) ?_
      refine l_q (by first | exact y_geq rfl rfl (decide_eq_true (by omega)) | exact y_geq rfl rfl (decide_eq_false (by omega)) | exact y_geq rfl rfl rfl) ?_
      refine l_q (by exact y_mv_bool rfl) ?_
      first | refine l_gskip rfl rfl ?_ | refine l_gskip_u rfl rfl ?_ | refine l_gdo rfl rfl (by exact y_mv_ptr rfl) ?_
      first | refine l_gskip rfl rfl ?_ | refine l_gskip_u rfl rfl ?_ | refine l_gdo rfl rfl (by first | exact y_nil rfl | exact y_nilf rfl) ?_
      first | refine l_gskip rfl rfl ?_ | refine l_gskip_u rfl rfl ?_ | refine l_gdo rfl rfl (by exact y_field rfl) ?_
      first | refine l_gskip rfl rfl ?_ | refine l_gskip_u rfl rfl ?_ | refine l_gdo rfl rfl (by exact y_ld hs rfl rfl) ?_
      first | refine l_gskip rfl rfl ?_ | refine l_gskip_u rfl rfl ?_ | refine l_gdo rfl rfl (by first | exact y_eql rfl rfl (decide_eq_true (by omega)) | exact y_eql rfl rfl (decide_eq_false (by omega)) | exact y_eql rfl rfl rfl) ?_
      refine l_q (by first | exact y_pk_bt rfl rfl | exact y_pk_bf rfl rfl) ?_
      refine l_end ?_
      refine e_then ?_
      refine cond_t rfl ?_
      refine s_skip ?_
      refine e_then ?_
      refine s_seq ?_
      refine s_block ?_
      refine s_seq ?_
      refine s_reg ?_
      refine l_q (by exact y_as_int rfl) ?_
      refine l_end ?_
      refine e_then ?_
      refine s_seq ?_
      refine s_seq ?_
      refine s_reg ?_
      refine l_q (by exact y_mv_slice rfl) ?_
      refine l_q (by exact y_toInt (b := ((k - 1 : Nat) : Int)) (y_mv_int rfl) (by omega)) ?_
      refine l_q (by exact y_indexA rfl rfl (by omega) (by omega) hx) ?_
      refine l_q (by exact y_field0 0 rfl rfl) ?_
      refine l_q (by exact y_load rfl hperm) ?_
      refine l_end ?_
      refine e_then ?_
      refine cond_t rfl ?_
      refine s_reg ?_
      refine l_q (by exact y_as_int rfl) ?_
      refine l_end ?_
      refine e_then ?_
      refine r_draw (.q 0 (.q 1 (.q 2 (.q 3 (.q 4 (.q 5 (.q 6 (.q 7 (.q 8 (.q 9 (.q 11 (.q 12 (.w 10 (.w 13 (.q 14 (.q 15 (.w 16 (.q 17 (.nil))))))))))))))))))) 17 (fun w => St W0 w R) mixed (by kernel_rfl) ?_
      have hs := hs.drew
      refine c_q rfl (by first | exact hs | exact hs.subl | exact hs.cellAt rfl | trivial) (fun _ _ _ h => h) (fun w hs => by exact y_mv_ptr rfl) ?_
      refine c_q rfl (by first | exact hs | exact hs.subl | exact hs.cellAt rfl | trivial) (fun _ _ _ h => h) (fun w hs => by exact y_mv_ptr rfl) ?_
      refine c_q rfl (by first | exact hs | exact hs.subl | exact hs.cellAt rfl | trivial) (fun _ _ _ h => h) (fun w hs => by first | exact y_nil rfl | exact y_nilf rfl) ?_
      refine c_q rfl (by first | exact hs | exact hs.subl | exact hs.cellAt rfl | trivial) (fun _ _ _ h => h) (fun w hs => by exact y_field rfl) ?_
      refine c_q rfl (by first | exact hs | exact hs.subl | exact hs.cellAt rfl | trivial) (fun _ _ _ h => h) (fun w hs => by exact y_ld hs rfl rfl) ?_
      refine c_q rfl (by first | exact hs | exact hs.subl | exact hs.cellAt rfl | trivial) (fun _ _ _ h => h) (fun w hs => by exact y_mv_ptr rfl) ?_
      refine c_q rfl (by first | exact hs | exact hs.subl | exact hs.cellAt rfl | trivial) (fun _ _ _ h => h) (fun w hs => by exact y_mv_slice rfl) ?_
      refine c_q rfl (by first | exact hs | exact hs.subl | exact hs.cellAt rfl | trivial) (fun _ _ _ h => h) (fun w hs => by exact y_toInt (b := ((k - 1 : Nat) : Int)) (y_mv_int rfl) (by omega)) ?_
      refine c_q rfl (by first | exact hs | exact hs.subl | exact hs.cellAt rfl | trivial) (fun _ _ _ h => h) (fun w hs => by exact y_indexA rfl rfl (by omega) (by omega) hx) ?_
      refine c_q rfl (by first | exact hs | exact hs.subl | exact hs.cellAt rfl | trivial) (fun _ _ _ h => h) (fun w hs => by exact y_ldR (vs := r.cells) rfl rfl (hrd _ hs)) ?_
      refine c_q rfl (by first | exact hs | exact hs.subl | exact hs.cellAt rfl | trivial) (fun _ _ _ h => h) (fun w hs => by exact y_mv_int rfl) ?_
      refine c_q rfl (by first | exact hs | exact hs.subl | exact hs.cellAt rfl | trivial) (fun _ _ _ h => h) (fun w hs => by exact y_mv_int rfl) ?_
      refine c_w rfl (w_call rfl (match_k (r0 := r) N.inv (N.ext.vars.trans h105) hrok (by omega) ⟨os, hos, hs⟩) rfl (fun _ w h => ?_))
      obtain ⟨s2, r2, rfl, N2, K2, hd⟩ := h; replace K := K.up N.inv N2; have hc2 := N2.cnt; obtain ⟨N3, K3⟩ := if_bd N2.inv (N2.ext.vars.trans (N.ext.vars.trans h105)) (by omega) (bxs_l hok' _) K2 (hPm s2 N2.inv) K hR; have hc3 := N3.cnt; obtain ⟨os, hos, hs⟩ := hd.ex
      refine ⟨fun _ => by first | exact hs | exact hs.subl | exact hs.cellAt rfl | trivial, ?_⟩
      refine c_w rfl (w_call rfl (if_c N2.inv K2.lt (hPm s2 N2.inv).lt K.lt (by omega) ⟨os, hos, hs⟩) rfl (fun _ w h => ?_))
      obtain ⟨rfl, hd⟩ := h; obtain ⟨os, hos, hs⟩ := hd.ex
      refine ⟨fun _ => by first | exact hs | exact hs.subl | exact hs.cellAt rfl | trivial, ?_⟩
      refine c_q rfl (by first | exact hs | exact hs.subl | exact hs.cellAt rfl | trivial) (fun _ _ _ h => h) (fun w hs => by exact y_extract rfl rfl) ?_
      refine c_q rfl (by first | exact hs | exact hs.subl | exact hs.cellAt rfl | trivial) (fun _ _ _ h => h) (fun w hs => by exact y_extract rfl rfl) ?_
      refine c_w rfl (w_call rfl (keep_c (M := M) _ hs) rfl (fun _ w h => ?_))
      obtain ⟨rfl, hs⟩ := h
      refine ⟨fun _ => by first | exact hs | exact hs.subl | exact hs.cellAt rfl | trivial, ?_⟩
      refine c_q rfl (by first | exact hs | exact hs.subl | exact hs.cellAt rfl | trivial) (fun _ _ _ h => h) (fun w hs => by exact y_as_int rfl) ?_
      refine c_end ?_
      refine e_blk ?_
      refine e_then ?_
      refine s_reg ?_
      refine l_q (by exact y_mv_int rfl) ?_
      refine l_q (by exact y_toInt (b := ((k - 1 : Nat) : Int) - 1) (y_subn rfl rfl (by omega)) (by omega)) ?_
      refine l_q (by exact y_as_int rfl) ?_
      refine l_end ?_
      refine e_then ?_
      exact ⟨(k - 1, _, _), _, nx ⟨rfl, rfl, rfl, rfl, trivial⟩, ⟨by dsimp only; omega, ((N.trans N2).trans N3).mono (by dsimp only; omega), by dsimp only; rw [hdr]; exact K3, ⟨os, hos, hs⟩⟩, by dsimp only; omega⟩
    | false =>
      have hPm : ∀ s', Inv s' → Kn s' 0 (fun _ => r.permit) := fun s' h => (kn0 h).fn fun e => by rw [hp]
      rw [hp] at hperm
      refine s_seq ?_
      refine s_seq ?_
      refine s_reg ?_
      refine l_q (by exact y_mv_int rfl) ?_
      refine l_q (by first | exact y_geq rfl rfl (decide_eq_true (by omega)) | exact y_geq rfl rfl (decide_eq_false (by omega)) | exact y_geq rfl rfl rfl) ?_
      refine l_q (by exact y_mv_bool rfl) ?_
      first | refine l_gskip rfl rfl ?_ | refine l_gskip_u rfl rfl ?_ | refine l_gdo rfl rfl (by exact y_mv_ptr rfl) ?_
      first | refine l_gskip rfl rfl ?_ | refine l_gskip_u rfl rfl ?_ | refine l_gdo rfl rfl (by first | exact y_nil rfl | exact y_nilf rfl) ?_
      first | refine l_gskip rfl rfl ?_ | refine l_gskip_u rfl rfl ?_ | refine l_gdo rfl rfl (by exact y_field rfl) ?_
      first | refine l_gskip rfl rfl ?_ | refine l_gskip_u rfl rfl ?_ | refine l_gdo rfl rfl (by exact y_ld hs rfl rfl) ?_
      first | refine l_gskip rfl rfl ?_ | refine l_gskip_u rfl rfl ?_ | refine l_gdo rfl rfl (by first | exact y_eql rfl rfl (decide_eq_true (by omega)) | exact y_eql rfl rfl (decide_eq_false (by omega)) | exact y_eql rfl rfl rfl) ?_
      refine l_q (by first | exact y_pk_bt rfl rfl | exact y_pk_bf rfl rfl) ?_
      refine l_end ?_
      refine e_then ?_
      refine cond_t rfl ?_
      refine s_skip ?_
      refine e_then ?_
      refine s_seq ?_
      refine s_block ?_
      refine s_seq ?_
      refine s_reg ?_
      refine l_q (by exact y_as_int rfl) ?_
      refine l_end ?_
      refine e_then ?_
      refine s_seq ?_
      refine s_seq ?_
      refine s_reg ?_
      refine l_q (by exact y_mv_slice rfl) ?_
      refine l_q (by exact y_toInt (b := ((k - 1 : Nat) : Int)) (y_mv_int rfl) (by omega)) ?_
      refine l_q (by exact y_indexA rfl rfl (by omega) (by omega) hx) ?_
      refine l_q (by exact y_field0 0 rfl rfl) ?_
      refine l_q (by exact y_load rfl hperm) ?_
      refine l_end ?_
      refine e_then ?_
      refine cond_f rfl ?_
      refine s_skip ?_
      refine e_then ?_
      refine r_draw (.q 0 (.q 1 (.q 2 (.q 3 (.q 4 (.q 5 (.q 6 (.q 7 (.q 8 (.q 9 (.q 11 (.q 12 (.w 10 (.w 13 (.q 14 (.q 15 (.w 16 (.q 17 (.nil))))))))))))))))))) 17 (fun w => St W0 w R) mixed (by kernel_rfl) ?_
      have hs := hs.drew
      refine c_q rfl (by first | exact hs | exact hs.subl | exact hs.cellAt rfl | trivial) (fun _ _ _ h => h) (fun w hs => by exact y_mv_ptr rfl) ?_
      refine c_q rfl (by first | exact hs | exact hs.subl | exact hs.cellAt rfl | trivial) (fun _ _ _ h => h) (fun w hs => by exact y_mv_ptr rfl) ?_
      refine c_q rfl (by first | exact hs | exact hs.subl | exact hs.cellAt rfl | trivial) (fun _ _ _ h => h) (fun w hs => by first | exact y_nil rfl | exact y_nilf rfl) ?_
      refine c_q rfl (by first | exact hs | exact hs.subl | exact hs.cellAt rfl | trivial) (fun _ _ _ h => h) (fun w hs => by exact y_field rfl) ?_
      refine c_q rfl (by first | exact hs | exact hs.subl | exact hs.cellAt rfl | trivial) (fun _ _ _ h => h) (fun w hs => by exact y_ld hs rfl rfl) ?_
      refine c_q rfl (by first | exact hs | exact hs.subl | exact hs.cellAt rfl | trivial) (fun _ _ _ h => h) (fun w hs => by exact y_mv_ptr rfl) ?_
      refine c_q rfl (by first | exact hs | exact hs.subl | exact hs.cellAt rfl | trivial) (fun _ _ _ h => h) (fun w hs => by exact y_mv_slice rfl) ?_
      refine c_q rfl (by first | exact hs | exact hs.subl | exact hs.cellAt rfl | trivial) (fun _ _ _ h => h) (fun w hs => by exact y_toInt (b := ((k - 1 : Nat) : Int)) (y_mv_int rfl) (by omega)) ?_
      refine c_q rfl (by first | exact hs | exact hs.subl | exact hs.cellAt rfl | trivial) (fun _ _ _ h => h) (fun w hs => by exact y_indexA rfl rfl (by omega) (by omega) hx) ?_
      refine c_q rfl (by first | exact hs | exact hs.subl | exact hs.cellAt rfl | trivial) (fun _ _ _ h => h) (fun w hs => by exact y_ldR (vs := r.cells) rfl rfl (hrd _ hs)) ?_
      refine c_q rfl (by first | exact hs | exact hs.subl | exact hs.cellAt rfl | trivial) (fun _ _ _ h => h) (fun w hs => by exact y_mv_int rfl) ?_
      refine c_q rfl (by first | exact hs | exact hs.subl | exact hs.cellAt rfl | trivial) (fun _ _ _ h => h) (fun w hs => by exact y_mv_int rfl) ?_
      refine c_w rfl (w_call rfl (match_k (r0 := r) N.inv (N.ext.vars.trans h105) hrok (by omega) ⟨os, hos, hs⟩) rfl (fun _ w h => ?_))
      obtain ⟨s2, r2, rfl, N2, K2, hd⟩ := h; replace K := K.up N.inv N2; have hc2 := N2.cnt; obtain ⟨N3, K3⟩ := if_bd N2.inv (N2.ext.vars.trans (N.ext.vars.trans h105)) (by omega) (bxs_l hok' _) K2 (hPm s2 N2.inv) K hR; have hc3 := N3.cnt; obtain ⟨os, hos, hs⟩ := hd.ex
      refine ⟨fun _ => by first | exact hs | exact hs.subl | exact hs.cellAt rfl | trivial, ?_⟩
      refine c_w rfl (w_call rfl (if_c N2.inv K2.lt (hPm s2 N2.inv).lt K.lt (by omega) ⟨os, hos, hs⟩) rfl (fun _ w h => ?_))
      obtain ⟨rfl, hd⟩ := h; obtain ⟨os, hos, hs⟩ := hd.ex
      refine ⟨fun _ => by first | exact hs | exact hs.subl | exact hs.cellAt rfl | trivial, ?_⟩
      refine c_q rfl (by first | exact hs | exact hs.subl | exact hs.cellAt rfl | trivial) (fun _ _ _ h => h) (fun w hs => by exact y_extract rfl rfl) ?_
      refine c_q rfl (by first | exact hs | exact hs.subl | exact hs.cellAt rfl | trivial) (fun _ _ _ h => h) (fun w hs => by exact y_extract rfl rfl) ?_
      refine c_w rfl (w_call rfl (keep_c (M := M) _ hs) rfl (fun _ w h => ?_))
      obtain ⟨rfl, hs⟩ := h
      refine ⟨fun _ => by first | exact hs | exact hs.subl | exact hs.cellAt rfl | trivial, ?_⟩
      refine c_q rfl (by first | exact hs | exact hs.subl | exact hs.cellAt rfl | trivial) (fun _ _ _ h => h) (fun w hs => by exact y_as_int rfl) ?_
      refine c_end ?_
      refine e_blk ?_
      refine e_then ?_
      refine s_reg ?_
      refine l_q (by exact y_mv_int rfl) ?_
      refine l_q (by exact y_toInt (b := ((k - 1 : Nat) : Int) - 1) (y_subn rfl rfl (by omega)) (by omega)) ?_
      refine l_q (by exact y_as_int rfl) ?_
      refine l_end ?_
      refine e_then ?_
      exact ⟨(k - 1, _, _), _, nx ⟨rfl, rfl, rfl, rfl, trivial⟩, ⟨by dsimp only; omega, ((N.trans N2).trans N3).mono (by dsimp only; omega), by dsimp only; rw [hdr]; exact K3, ⟨os, hos, hs⟩⟩, by dsimp only; omega⟩
  · refine s_seq ?_
    refine s_seq ?_
    refine s_reg ?_
    refine l_q (by exact y_mv_int rfl) ?_
    refine l_q (by first | exact y_geq rfl rfl (decide_eq_true (by omega)) | exact y_geq rfl rfl (decide_eq_false (by omega)) | exact y_geq rfl rfl rfl) ?_
    refine l_q (by exact y_mv_bool rfl) ?_
    first | refine l_gskip rfl rfl ?_ | refine l_gskip_u rfl rfl ?_ | refine l_gdo rfl rfl (by exact y_mv_ptr rfl) ?_
    first | refine l_gskip rfl rfl ?_ | refine l_gskip_u rfl rfl ?_ | refine l_gdo rfl rfl (by first | exact y_nil rfl | exact y_nilf rfl) ?_
    first | refine l_gskip rfl rfl ?_ | refine l_gskip_u rfl rfl ?_ | refine l_gdo rfl rfl (by exact y_field rfl) ?_
    first | refine l_gskip rfl rfl ?_ | refine l_gskip_u rfl rfl ?_ | refine l_gdo rfl rfl (by exact y_ld hs rfl rfl) ?_
    first | refine l_gskip rfl rfl ?_ | refine l_gskip_u rfl rfl ?_ | refine l_gdo rfl rfl (by first | exact y_eql rfl rfl (decide_eq_true (by omega)) | exact y_eql rfl rfl (decide_eq_false (by omega)) | exact y_eql rfl rfl rfl) ?_
    refine l_q (by first | exact y_pk_bt rfl rfl | exact y_pk_bf rfl rfl) ?_
    refine l_end ?_
    refine e_then ?_
    refine cond_f rfl ?_
    refine s_exit ?_
    refine e_then_x ?_
    refine e_then_x ?_
    refine e_blk_x ?_
    refine e_then ?_
    refine s_seq ?_
    refine s_reg ?_
    refine l_q (by exact y_mv_int rfl) ?_
    refine l_q (by exact y_as_int rfl) ?_
    refine l_end ?_
    refine e_then ?_
    refine s_ret ?_
    have k0 : k = 0 := by omega
    subst k0
    exact ret_ [.int .i64 _] rfl ⟨rfl, trivial⟩ ⟨_, _, rfl, N, K, ⟨os, hos, hs⟩⟩
end Go.Proofs.Ytfjniocobcoepaa
