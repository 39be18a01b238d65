/- Facts on the functions and types of this seat that its laws are proved from: contracts under the premises that each theorem names. -/
import Derived.Test.YtfjniocobcoepaaG42
set_option linter.unusedSimpArgs false
set_option linter.unusedVariables false
set_option linter.unnecessarySimpa false
namespace Go.Proofs.Ytfjniocobcoepaa
open Go Go.RowKit PB
set_option linter.unusedVariables false
set_option linter.unusedSimpArgs false

/-- A guard that is not decided, in a region whose order is open. -/
theorem c_gif {P : Program} {Q : Exit → Act → World → Prop} {S : World → Prop} {z n : Nat} {l : List Oper} {Γ : Fr} {ρ : Nat → Value} {ds : List Deferred} {w : World} {rest : Sch} {op : Op} {ty : TypeId} {pos : String} {after : Array Edge} {d i : Nat} {v : Value} {j t : Nat} {b : Bool}
    (hi : opAt l i = some ⟨some d, op, ty, pos, after, some (j, true)⟩) (hS : S w) (hQ : ∀ v c a w, Q (.panic c) (a.put (some d) v) w → Q (.panic c) a w) (hj' : dstAt l j = some t) (hb : PB.ev n Γ ρ (.tmp t) = .bool b)
    (h : b = true → ∀ w, S w → Yld P (PB.ev n Γ ρ) op ty w v) (hk : WC P l Q S z rest (act n ((d, if b = true then v else undef) :: Γ) ρ ds) w) : WC P l Q S z (.q i rest) (act n Γ ρ ds) w := by
  cases b with
  | true => exact c_gdo hi hS (hQ v) hj' hb (h rfl) hk
  | false => exact c_gskip hi hS (hQ undef) hj' hb hk
theorem xor_kn {s : DS} {a b n1 n : Nat} {f g : (Nat → Bool) → Bool} {B1 B : Nat → Bx} (h : Inv s) (h105 : s.vars = 105) (A : Kn s a f) (Bk : Kn s b g) (hn1 : n1 ≤ 8) (hn : n ≤ 8) (hB1 : Bxs n1 B1) (hB : Bxs n B) (hg1 : Of n1 B1 g) (hf : Of n B f) (hg : Of n B g) :
    Nx s (xorF s a b).1 (bd n1 + bd n) ∧ Kn (xorF s a b).1 (xorF s a b).2 (fun e => xor (f e) (g e)) := by
  unfold xorF
  obtain ⟨N1, K1⟩ := if_bd h h105 hn1 hB1 Bk (kn0 h) (kn1 h) ⟨fun e e' he => by simp only [hg1.of e e' he]⟩
  obtain ⟨N2, K2⟩ := if_bd N1.inv (N1.ext.vars.trans h105) hn hB (A.up h N1) K1 (Bk.up h N1) ⟨fun e e' he => by simp only [hf.of e e' he, hg.of e e' he]⟩
  exact ⟨N1.trans N2, K2.fn fun e => by cases f e <;> cases g e <;> rfl⟩

theorem same_a {W0 w : World} {L : List (Nat × MObj)} {a : Option Addr} {l : List RuleV} {cl : Nat} {z : Int} (v : Value) (hj : lChk l = z) (hz : z ≠ 0) (hr : RdR W0 L a l) (hf : ∀ r ∈ l, r.fits) (hlen : l.length ≤ 9223372036854775807) (hs : St W0 w L) :
    FnC Try.prog 30 [.slice a l.length cl, v] w (fun v w' => v = .tuple #[.bool false, pktV pkZ, I64 z] ∧ St W0 w' L) := by
  refine FnC.enter Try.func30 rfl Try.ntmps30 rfl fun ρ => ?_
  refine s_seq ?_
  refine s_reg ?_
  refine l_q (by exact y_as_bool rfl) ?_
  refine l_w (w_alloc (cs := [_, _, _, _, _, _, _, _, _]) hs rfl (fun b5 w hs hb5 => ?_))
  refine l_q (by exact y_as_int rfl) ?_
  refine l_end ?_
  refine e_then ?_
  refine s_seq ?_
  refine s_seq ?_
  refine s_reg ?_
  refine l_q (by exact y_mv_slice rfl) ?_
  refine l_w (w_call rfl (rcheck_v l cl hj (hr.mono fun w h => h.tail) hf hlen hs) rfl (fun _ w h => ?_))
  obtain ⟨rfl, hs⟩ := h
  refine l_q (by exact y_as_int rfl) ?_
  refine l_end ?_
  refine e_then ?_
  refine s_seq ?_
  refine s_reg ?_
  refine l_q (by exact y_mv_int rfl) ?_
  refine l_q (by first | exact y_neq rfl rfl (decide_eq_true (by omega)) | exact y_neq rfl rfl (decide_eq_false (by omega)) | exact y_neq rfl rfl rfl) ?_
  refine l_end ?_
  refine e_then ?_
  refine cond_t rfl ?_
  refine s_seq ?_
  refine s_reg ?_
  refine l_q (by exact y_build (pv := []) (vs := [_, _, _, _, _, _, _, _, _]) rfl rfl) ?_
  refine l_q (by exact y_mv_int rfl) ?_
  refine l_q (by exact y_as_bool rfl) ?_
  refine l_w (w_storeA (vs := [_, _, _, _, _, _, _, _, _]) hs rfl rfl rfl rfl rfl (fun w hs => ?_))
  refine l_q (by exact y_as_int rfl) ?_
  refine l_end ?_
  refine e_then ?_
  refine s_ret ?_
  refine e_then_r ?_
  exact ret_ [.bool _, .agg (List.toArray [_, _, _, _, _, _, _, _, _]), .int .i64 _] rfl ⟨rfl, ⟨_, rfl, run_ldA hs rfl rfl⟩, rfl, trivial⟩ ⟨rfl, hs.tail⟩
theorem same_b {W0 w : World} {L : List (Nat × MObj)} {a b : Option Addr} {l k : List RuleV} {cl ck : Nat} {z : Int} (hj : lChk l = 0) (hj2 : lChk k = z) (hz : z ≠ 0) (hr : RdR W0 L a l) (hr2 : RdR W0 L b k) (hf : ∀ r ∈ l, r.fits) (hf2 : ∀ r ∈ k, r.fits)
    (hlen : l.length ≤ 9223372036854775807) (hlen2 : k.length ≤ 9223372036854775807) (hs : St W0 w L) :
    FnC Try.prog 30 [.slice a l.length cl, .slice b k.length ck] w (fun v w' => v = .tuple #[.bool false, pktV pkZ, I64 z] ∧ St W0 w' L) := by
  refine FnC.enter Try.func30 rfl Try.ntmps30 rfl fun ρ => ?_
  refine s_seq ?_
  refine s_reg ?_
  refine l_q (by exact y_as_bool rfl) ?_
  refine l_w (w_alloc (cs := [_, _, _, _, _, _, _, _, _]) hs rfl (fun b5 w hs hb5 => ?_))
  refine l_q (by exact y_as_int rfl) ?_
  refine l_end ?_
  refine e_then ?_
  refine s_seq ?_
  refine s_seq ?_
  refine s_reg ?_
  refine l_q (by exact y_mv_slice rfl) ?_
  refine l_w (w_call rfl (rcheck_v l cl hj (hr.mono fun w h => h.tail) hf hlen hs) rfl (fun _ w h => ?_))
  obtain ⟨rfl, hs⟩ := h
  refine l_q (by exact y_as_int rfl) ?_
  refine l_end ?_
  refine e_then ?_
  refine s_seq ?_
  refine s_reg ?_
  refine l_q (by exact y_mv_int rfl) ?_
  refine l_q (by first | exact y_neq rfl rfl (decide_eq_true (by omega)) | exact y_neq rfl rfl (decide_eq_false (by omega)) | exact y_neq rfl rfl rfl) ?_
  refine l_end ?_
  refine e_then ?_
  refine cond_f rfl ?_
  refine s_skip ?_
  refine e_then ?_
  refine s_seq ?_
  refine s_seq ?_
  refine s_reg ?_
  refine l_q (by exact y_mv_slice rfl) ?_
  refine l_w (w_call rfl (rcheck_v k ck hj2 (hr2.mono fun w h => h.tail) hf2 hlen2 hs) rfl (fun _ w h => ?_))
  obtain ⟨rfl, hs⟩ := h
  refine l_q (by exact y_as_int rfl) ?_
  refine l_end ?_
  refine e_then ?_
  refine s_seq ?_
  refine s_reg ?_
  refine l_q (by exact y_mv_int rfl) ?_
  refine l_q (by first | exact y_neq rfl rfl (decide_eq_true (by omega)) | exact y_neq rfl rfl (decide_eq_false (by omega)) | exact y_neq rfl rfl rfl) ?_
  refine l_end ?_
  refine e_then ?_
  refine cond_t rfl ?_
  refine s_seq ?_
  refine s_reg ?_
  refine l_q (by exact y_build (pv := []) (vs := [_, _, _, _, _, _, _, _, _]) rfl rfl) ?_
  refine l_q (by exact y_mv_int rfl) ?_
  refine l_q (by exact y_as_bool rfl) ?_
  refine l_w (w_storeA (vs := [_, _, _, _, _, _, _, _, _]) hs rfl rfl rfl rfl rfl (fun w hs => ?_))
  refine l_q (by exact y_as_int rfl) ?_
  refine l_end ?_
  refine e_then ?_
  refine s_ret ?_
  refine e_then_r ?_
  exact ret_ [.bool _, .agg (List.toArray [_, _, _, _, _, _, _, _, _]), .int .i64 _] rfl ⟨rfl, ⟨_, rfl, run_ldA hs rfl rfl⟩, rfl, trivial⟩ ⟨rfl, hs.tail⟩
theorem of_xor {n : Nat} {B : Nat → Bx} {f g : (Nat → Bool) → Bool} (hf : Of n B f) (hg : Of n B g) : Of n B (fun e => xor (f e) (g e)) := ⟨fun e e' he => by simp only [hf.of e e' he, hg.of e e' he]⟩
theorem same_k {W0 w : World} {L : List (Nat × MObj)} {a b : Option Addr} {l k m : List RuleV} {cl ck : Nat} (hj : lChk l = 0) (hj2 : lChk k = 0) (hr : RdR W0 L a l) (hr2 : RdR W0 L b k) (hf : ∀ r ∈ l, r.fits) (hf2 : ∀ r ∈ k, r.fits)
    (hl : l.length ≤ 8) (hk : k.length ≤ 8) (hm8 : m.length ≤ 8) (hlm : ∀ r ∈ l, r ∈ m) (hkm : ∀ r ∈ k, r ∈ m) (hokm : ∀ r ∈ m, RuleOk r) (hN : 2 + allN l.length + allN k.length + (bd k.length + bd m.length) + (1144 + 41 * (m.length + 3)) ≤ 60000) (hs : St W0 w L) :
    FnC Try.prog 30 [.slice a l.length cl, .slice b k.length ck] w (fun v w' => ∃ p is, v = .tuple #[.bool (!is), pktV p, I64 0] ∧ FirstR (fun e => xor (allF l e) (allF k e)) p is ∧ St W0 w' L) := by
  have hok := lChk_ok hf hj
  have hok2 := lChk_ok hf2 hj2
  have hlen : l.length ≤ 9223372036854775807 := by omega
  have hlen2 : k.length ≤ 9223372036854775807 := by omega
  refine FnC.enter Try.func30 rfl Try.ntmps30 rfl fun ρ => ?_
  refine s_seq ?_
  refine s_reg ?_
  refine l_q (by exact y_as_bool rfl) ?_
  refine l_w (w_alloc (cs := [_, _, _, _, _, _, _, _, _]) hs rfl (fun b5 w hs hb5 => ?_))
  refine l_q (by exact y_as_int rfl) ?_
  refine l_end ?_
  refine e_then ?_
  refine s_seq ?_
  refine s_seq ?_
  refine s_reg ?_
  refine l_q (by exact y_mv_slice rfl) ?_
  refine l_w (w_call rfl (rcheck_v l cl hj (hr.mono fun w h => h.tail) hf hlen hs) rfl (fun _ w h => ?_))
  obtain ⟨rfl, hs⟩ := h
  refine l_q (by exact y_as_int rfl) ?_
  refine l_end ?_
  refine e_then ?_
  refine s_seq ?_
  refine s_reg ?_
  refine l_q (by exact y_mv_int rfl) ?_
  refine l_q (by first | exact y_neq rfl rfl (decide_eq_true (by omega)) | exact y_neq rfl rfl (decide_eq_false (by omega)) | exact y_neq rfl rfl rfl) ?_
  refine l_end ?_
  refine e_then ?_
  refine cond_f rfl ?_
  refine s_skip ?_
  refine e_then ?_
  refine s_seq ?_
  refine s_seq ?_
  refine s_reg ?_
  refine l_q (by exact y_mv_slice rfl) ?_
  refine l_w (w_call rfl (rcheck_v k ck hj2 (hr2.mono fun w h => h.tail) hf2 hlen2 hs) rfl (fun _ w h => ?_))
  obtain ⟨rfl, hs⟩ := h
  refine l_q (by exact y_as_int rfl) ?_
  refine l_end ?_
  refine e_then ?_
  refine s_seq ?_
  refine s_reg ?_
  refine l_q (by exact y_mv_int rfl) ?_
  refine l_q (by first | exact y_neq rfl rfl (decide_eq_true (by omega)) | exact y_neq rfl rfl (decide_eq_false (by omega)) | exact y_neq rfl rfl rfl) ?_
  refine l_end ?_
  refine e_then ?_
  refine cond_f rfl ?_
  refine s_skip ?_
  refine e_then ?_
  refine s_seq ?_
  refine s_reg ?_
  refine l_w (w_call rfl (newMaker_k hs) rfl (fun _ w h => ?_))
  obtain ⟨M, mb, rfl, hd⟩ := h
  refine l_q (by exact y_as_ptr rfl) ?_
  refine l_end ?_
  refine e_then ?_
  refine s_seq ?_
  refine s_reg ?_
  refine l_q (by exact y_mv_ptr rfl) ?_
  refine l_q (by exact y_mv_slice rfl) ?_
  refine l_w (w_call rfl (all_k (l := l) (init_inv (by decide)) rfl (hr.mono fun w h => h.tail.tail) hok (by omega) (by show 2 + _ ≤ _; omega) hd) rfl (fun _ w h => ?_))
  obtain ⟨s1, r1, rfl, N1, A1, hd⟩ := h; have hc1 := N1.cnt; have v1 : s1.vars = 105 := N1.ext.vars; replace hc1 : s1.nodes.length ≤ 2 + allN l.length := hc1
  refine l_q (by exact y_mv_ptr rfl) ?_
  refine l_q (by exact y_mv_slice rfl) ?_
  refine l_w (w_call rfl (all_k (l := k) N1.inv v1 (hr2.mono fun w h => h.tail.tail) hok2 (by omega) (by omega) hd) rfl (fun _ w h => ?_))
  obtain ⟨s2, r2, rfl, N2, B2, hd⟩ := h; replace A1 := A1.up N1.inv N2; have hc2 := N2.cnt; have v2 := N2.ext.vars.trans v1; obtain ⟨N3, K3⟩ := xor_kn N2.inv v2 A1 B2 (by omega) hm8 (bxs_l hok2 _) (bxs_l hokm _) (all_of k) (of_sub hlm) (of_sub hkm); have hc3 := N3.cnt; have v3 := N3.ext.vars.trans v2; obtain ⟨os, hos, hs⟩ := hd.ex
  refine l_q (by exact y_as_int rfl) ?_
  refine l_q (by exact y_as_int rfl) ?_
  refine l_end ?_
  refine e_then ?_
  refine s_seq ?_
  refine s_seq ?_
  refine s_reg ?_
  refine l_q (by exact y_mv_ptr rfl) ?_
  refine l_q (by first | exact y_nil rfl | exact y_nilf rfl) ?_
  refine l_q (by exact y_field rfl) ?_
  refine l_q (by exact y_ld hs rfl rfl) ?_
  refine l_q (by first | exact y_neq rfl rfl (decide_eq_true (by omega)) | exact y_neq rfl rfl (decide_eq_false (by omega)) | exact y_neq rfl rfl rfl) ?_
  refine l_end ?_
  refine e_then ?_
  refine cond_f rfl ?_
  refine s_skip ?_
  refine e_then ?_
  refine s_seq ?_
  refine s_reg ?_
  refine l_q (by exact y_mv_ptr rfl) ?_
  refine l_q (by exact y_mv_ptr rfl) ?_
  refine l_q (by exact y_mv_ptr rfl) ?_
  refine l_q (by first | exact y_nil rfl | exact y_nilf rfl) ?_
  refine l_q (by exact y_field rfl) ?_
  refine l_q (by exact y_ld hs rfl rfl) ?_
  refine l_q (by exact y_mv_int rfl) ?_
  refine l_q (by exact y_mv_int rfl) ?_
  refine l_w (w_call rfl (xor_c N2.inv A1.lt B2.lt (by omega) ⟨os, hos, hs⟩) rfl (fun _ w h => ?_))
  obtain ⟨rfl, hd⟩ := h; obtain ⟨os, hos, hs⟩ := hd.ex
  refine l_q (by exact y_extract rfl rfl) ?_
  refine l_q (by exact y_extract rfl rfl) ?_
  refine l_w (w_call rfl (keep_c (M := M) _ hs) rfl (fun _ w h => ?_))
  obtain ⟨rfl, hs⟩ := h
  refine l_w (w_call rfl (first_k N3.inv v3 K3 (bxs_l hokm _) (of_xor (of_sub hlm) (of_sub hkm)) (by omega) ⟨os, hos, hs⟩) rfl (fun _ w h => ?_))
  obtain ⟨s4, p, is, rfl, N4, F, hd⟩ := h; obtain ⟨os, hos, hs⟩ := hd.ex
  refine l_q (by exact y_mv_tuple rfl) ?_
  refine l_q (by exact y_extract rfl rfl) ?_
  refine l_q (by exact y_extract rfl rfl) ?_
  refine l_q (by exact y_extract rfl rfl) ?_
  refine l_w (w_alloc (cs := [_, _, _, _, _, _, _, _, _]) hs rfl (fun b12 w hs hb12 => ?_))
  refine l_w (w_storeA (vs := p.cells) hs rfl rfl rfl rfl rfl (fun w hs => ?_))
  replace hs : St W0 w ((b12, .cells p.cells 51) :: stB M s4 os ((mb, mkO M) :: (b5, .cells pkZ.cells 51) :: L)) := hs
  refine l_q (by exact y_as_bool rfl) ?_
  refine l_q (by exact y_as_int rfl) ?_
  refine l_end ?_
  refine e_then ?_
  refine s_seq ?_
  refine r_draw (.q 0 (.q 1 (.q 2 (.q 3 (.q 4 (.q 5 (.q 6 (.q 7 (.q 8 (.w 9 (.q 10 (.nil)))))))))))) 10 (fun w => St W0 w ((b12, .cells p.cells 51) :: L)) mixed (by kernel_rfl) ?_
  have hs := hs.drew
  refine c_q rfl (by first | exact hs | exact hs.subl | exact hs.cellAt rfl | trivial) (fun _ _ _ h => h) (fun w hs => by exact y_mv_bool rfl) ?_
  refine c_q rfl (by first | exact hs | exact hs.subl | exact hs.cellAt rfl | trivial) (fun _ _ _ h => h) (fun w hs => by exact y_not (c := is) (r := !is) rfl rfl) ?_
  refine c_q rfl (by first | exact hs | exact hs.subl | exact hs.cellAt rfl | trivial) (fun _ _ _ h => h) (fun w hs => by exact y_mv_bool rfl) ?_
  refine c_gif (b := !is) rfl (by first | exact hs | exact hs.subl) (fun _ _ _ _ h => h) rfl rfl (fun h w hs => y_mv_int rfl) ?_
  refine c_gif (b := !is) rfl (by first | exact hs | exact hs.subl) (fun _ _ _ _ h => h) rfl rfl (fun h w hs => y_eql (a := 0) (c := 0) (r := true) (if_pos h) rfl rfl) ?_
  refine c_q rfl (by first | exact hs | exact hs.subl | exact hs.cellAt rfl | trivial) (fun _ _ _ h => h) (fun w hs => by exact y_pk_and (p := !is) (q := true) (r := !is) rfl rfl rfl (by cases is <;> rfl)) ?_
  refine c_q rfl (by first | exact hs | exact hs.subl | exact hs.cellAt rfl | trivial) (fun _ _ _ h => h) (fun w hs => by exact y_ldA (vs := p.cells) hs rfl rfl rfl) ?_
  refine c_q rfl (by first | exact hs | exact hs.subl | exact hs.cellAt rfl | trivial) (fun _ _ _ h => h) (fun w hs => by exact y_mv_int rfl) ?_
  refine c_q rfl (by first | exact hs | exact hs.subl | exact hs.cellAt rfl | trivial) (fun _ _ _ h => h) (fun w hs => by exact y_as_bool rfl) ?_
  refine c_w rfl (w_storeA (vs := p.cells) hs rfl rfl rfl rfl rfl (fun w hs => ?_))
  refine ⟨fun _ => by first | exact hs | exact hs.subl | exact hs.cellAt rfl | trivial, ?_⟩
  refine c_q rfl (by first | exact hs | exact hs.subl | exact hs.cellAt rfl | trivial) (fun _ _ _ h => h) (fun w hs => by exact y_as_int rfl) ?_
  refine c_end ?_
  refine e_then ?_
  refine s_ret ?_
  exact ret_ [.bool _, .agg (List.toArray [_, _, _, _, _, _, _, _, _]), .int .i64 _] rfl ⟨rfl, ⟨_, rfl, run_ldA hs rfl rfl⟩, rfl, trivial⟩ ⟨p, is, rfl, F, hs.subl⟩
end Go.Proofs.Ytfjniocobcoepaa
