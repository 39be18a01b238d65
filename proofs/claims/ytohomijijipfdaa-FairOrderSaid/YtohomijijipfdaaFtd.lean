/- Facts on the functions and types of this seat that its laws are proved from: contracts under the premises that each theorem names. -/
import Derived.Test.YtohomijijipfdaaFtc
set_option linter.unusedSimpArgs false
set_option linter.unusedVariables false
set_option linter.unnecessarySimpa false
namespace Go.Proofs.Ytohomijijipfdaa
open Go Go.RowKit PB
set_option linter.unusedVariables false

/-- A store into one of the call's own slices. -/
theorem w_storeF {P : Program} {W0 w : World} {R : List (Nat × MObj)} {n : Nat} {Γ : Fr} {ρ : Nat → Value} {ds : List Deferred} {K : Act → World → Prop} {Q : Exit → Act → World → Prop} {dst : Option Nat} {t ty : TypeId} {x y : Operand} {v : Value} {pos : String} {after : Array Edge} {gd : Option (Nat × Bool)}
    {z : Option Value} {bs g off : Nat} {e : TypeId} {s : OS} {xs xs' : List Value} (A : List (Nat × MObj)) (hs : St W0 w (A ++ (s.blk xs e ++ R))) (hg : s.a = some g) [ht : TInfo P t z 1 bs] (hx : ev n Γ ρ x = .pointer (some ⟨g, off, none⟩)) (hy : ev n Γ ρ y = v) (h1 : oneB v = true)
    (hl : Nat.blt off (xs ++ s.sp).length = true) (hc : (xs ++ s.sp).set off v = xs' ++ s.sp) (hk : ∀ w', St W0 w' (A ++ (s.blk xs' e ++ R)) → K ((act n Γ ρ ds).put dst undef) w') :
    OW P ⟨dst, .store t x y, ty, pos, after, gd⟩ (act n Γ ρ ds) w K Q := by
  haveI := inl_blk hg xs e
  haveI : Upd g (.cells ((xs ++ s.sp).set off v) e) (s.blk xs e) (s.blk xs' e) := upd_blk hg hc
  exact w_store (v := v) hs hx hy h1 hl hk

theorem y_slice_loT {P : Program} {w : World} {ty t : TypeId} {x lo : Operand} {a : Option Addr} {b o m c e sz r : Nat} {j : Int} {k : IntKind} {ρ : Operand → Value} [hT : SliceT P t e sz] (hx : ρ x = .slice a m c) (hi : ρ lo = .int k j) (ha : a = some ⟨b, o, none⟩) (h0 : 0 ≤ j) (h1 : j ≤ m) (hr : m - j.toNat = r) :
    Yld P ρ (.slice t x (some lo) none none) ty w (.slice (some ⟨b, if c = j.toNat then o else o + j.toNat * sz, none⟩) r (c - j.toNat)) := by
  subst ha hr
  exact y_slice_lo hx hi h0 h1

def QI.up (y : QI) (pre : List QE) (q : QE) (suf : List QE) (p : Bool) : QI := { y with qs := pre ++ q :: suf, paid := p }

section
variable {W0 w : World} {R : List (Nat × MObj)} {y : QI} {pre suf : List QE} {q q' : QE} {p : Bool}
theorem foc (hs : St W0 w (y.L R)) (hq : y.qs = pre ++ q :: suf) : St W0 w ((y.qb, .cells [.slice y.all.ad y.qs.length y.all.cap, I64 y.quantum, I64 y.at_, .bool y.paid] 44) :: (y.all.blk (flat (pre ++ q :: suf)) 46 ++ (q.os.blk (q.ws.map Str) 9 ++ (waitsL (pre ++ suf) ++ R)))) := by
  unfold QI.L QI.hdr at hs
  refine hs.perm ?_
  rw [← hq]
  refine List.Perm.cons _ (List.Perm.append_left _ ?_)
  rw [hq]
  exact waits_focus pre suf q R
theorem unfoc (hq : y.qs = pre ++ q :: suf) (hs : St W0 w ((y.qb, .cells [.slice y.all.ad y.qs.length y.all.cap, I64 y.quantum, I64 y.at_, .bool p] 44) :: (y.all.blk (flat (pre ++ q' :: suf)) 46 ++ (q'.os.blk (q'.ws.map Str) 9 ++ (waitsL (pre ++ suf) ++ R))))) :
    St W0 w ((y.up pre q' suf p).L R) := by
  unfold QI.L QI.hdr QI.up
  have hl : y.qs.length = (pre ++ q' :: suf).length := by rw [hq]; simp
  simp only
  rw [← hl]
  refine hs.perm ?_
  exact List.Perm.cons _ (List.Perm.append_left _ (waits_focus pre suf q' R).symm)
theorem up_ok (hok : y.ok) (hq : y.qs = pre ++ q :: suf) (h : q'.ok) : (y.up pre q' suf p).ok := by
  have hl : (pre ++ q' :: suf).length = y.qs.length := by rw [hq]; simp
  have h1 := hok.all
  have h2 := hok.qs
  rw [hq] at h2
  refine ⟨⟨?_, ?_, ?_, ?_⟩, ?_, ?_, ?_⟩
  · exact flat_length _
  · show y.all.sp.length = (y.all.cap - (pre ++ q' :: suf).length) * 3
    rw [hl]; exact h1.sp_
  · show (pre ++ q' :: suf).length ≤ y.all.cap
    rw [hl]; exact h1.cap_
  · intro h; have := h1.nil_ h; have := hok.at_; omega
  · intro z hz
    simp only [QI.up, List.mem_append, List.mem_cons] at hz
    rcases hz with hz | hz | hz
    · exact h2 z (by simp [hz])
    · subst hz; exact h
    · exact h2 z (by simp [hz])
  · show y.at_ < (pre ++ q' :: suf).length
    rw [hl]; exact hok.at_
  · show (pre ++ q' :: suf).length ≤ 8
    rw [hl]; exact hok.n
theorem up_abs (hq : y.qs = pre ++ q :: suf) (hi : pre.length = y.at_) : (y.up pre q' suf p).abs = y.abs.up q'.abs p := by
  simp [QI.up, QI.abs, Ab.up, hq, ← hi, List.set_append]
def QI.lv (y : QI) : QI := { y with at_ := (y.at_ + 1) % y.qs.length, paid := false }
theorem lv_abs : y.lv.abs = y.abs.leave := by simp [QI.lv, QI.abs, Ab.leave]
theorem lv_ok (h : y.ok) : y.lv.ok := ⟨h.all, h.qs, Nat.mod_lt _ (by have := h.at_; omega), h.n⟩
theorem abs_get (hq : y.qs = pre ++ q :: suf) (hi : pre.length = y.at_) : y.abs.qs[y.abs.at_]? = some q.abs := by
  simp [QI.abs, hq, ← hi]
theorem leave_l (hok : y.ok) (hs : St W0 w (y.L R)) : FnC Try.prog 17 [.pointer (some ⟨y.qb, 0, none⟩)] w (fun v w' => v = .tuple #[] ∧ St W0 w' (y.lv.L R)) := leave_c y hok hs
theorem after_clone {os' : OS} {xs ys : List Value} {b : Nat} {o : MObj} {A W : List (Nat × MObj)} {e : TypeId} {os : OS} (hs : St W0 w (os'.blk ys e ++ ((b, o) :: (A ++ (os.blk xs e ++ (W ++ R)))))) : St W0 w ((b, o) :: (A ++ (os'.blk ys e ++ (W ++ R)))) := by
  have h1 := hs.perm (L' := (b, o) :: (A ++ (os'.blk ys e ++ (os.blk xs e ++ (W ++ R))))) (by
    refine List.perm_middle.trans (List.Perm.cons _ ?_)
    exact List.perm_append_comm_assoc _ _ _)
  exact h1.sub (List.Sublist.cons_cons _ (List.Sublist.append_left (List.Sublist.append_left (List.sublist_append_right _ _) _) _))
end

theorem contains_is {W0 w : World} {R : List (Nat × MObj)} (x : QI) (hok : x.ok) (b : Bool) (hb : b = true ↔ ∃ q ∈ x.qs, q.ws ≠ []) (hs : St W0 w (x.L R)) :
    FnC Try.prog 15 [.slice x.all.ad x.qs.length x.all.cap, .func (.func 16) #[] #[]] w (fun v w' => v = .bool b ∧ St W0 w' (x.L R)) := by
  refine (contains_c x hok hs).mono ?_
  rintro v w' ⟨⟨r, rfl, hr⟩, hs⟩
  refine ⟨?_, hs⟩
  have : r = true ↔ b = true := by rw [hr, hb]
  cases r <;> cases b <;> simp_all


theorem takeNone_c {W0 w : World} {R : List (Nat × MObj)} (x : QI) (hok : x.ok) (hn : ∀ q ∈ x.qs, q.ws = []) (hs : St W0 w (x.L R)) :
    FnC Try.prog 12 [.pointer (some ⟨x.qb, 0, none⟩)] w (fun v w' => v = .tuple #[I64 0, Str ⟨#[]⟩, .bool false] ∧ St W0 w' (x.L R)) := by
  have hx : x.L R = (x.qb, .cells [.slice x.all.ad x.qs.length x.all.cap, I64 x.quantum, I64 x.at_, .bool x.paid] 44) :: (x.all.blk (flat x.qs) 46 ++ (waitsL x.qs ++ R)) := rfl
  rw [hx] at hs
  have hb : false = true ↔ ∃ q ∈ x.qs, q.ws ≠ [] := by simpa using hn
  refine FnC.enter Try.func12 rfl Try.ntmps12 rfl fun ρ => ?_
  refine s_seq ?_
  refine s_reg ?_
  refine l_q (by exact y_as_int rfl) ?_
  refine l_q (by exact y_as_str rfl) ?_
  refine l_q (by exact y_as_bool rfl) ?_
  refine l_end ?_
  refine e_then ?_
  refine s_seq ?_
  refine s_seq ?_
  refine s_reg ?_
  refine l_q (by exact y_mv_ptr rfl) ?_
  refine l_q (by first | exact y_nil rfl | exact y_nilf rfl) ?_
  refine l_q (by exact y_field rfl) ?_
  refine l_q (by exact y_ld hs rfl rfl) ?_
  refine l_w (w_call rfl (contains_is x hok _ hb hs) rfl (fun _ w h => ?_))
  obtain ⟨rfl, hs⟩ := h
  refine l_q (by first | exact y_not_t rfl | exact y_not_f rfl | exact y_notd rfl) ?_
  refine l_end ?_
  refine e_then ?_
  refine cond_t rfl ?_
  refine s_seq ?_
  refine s_reg ?_
  refine l_q (by exact y_as_int rfl) ?_
  refine l_q (by exact y_as_str rfl) ?_
  refine l_q (by exact y_as_bool rfl) ?_
  refine l_end ?_
  refine e_then ?_
  refine s_ret ?_
  refine e_then_r ?_
  exact ret_ [.int .i64 _, .string _, .bool _] rfl ⟨rfl, rfl, rfl, trivial⟩ ⟨rfl, hs⟩

theorem up_self {y : QI} {pre suf : List QE} {q : QE} (hq : y.qs = pre ++ q :: suf) : y.up pre q suf y.paid = y := by
  cases y; simp only [QI.up] at hq ⊢; rw [hq]


theorem take_c {W0 w : World} {R : List (Nat × MObj)} (x : QI) (hok : x.ok) (hwf : x.abs.wf) {k i : Nat} {s : ByteArray} {a' : Ab} (hr : takeF k x.abs = some (i, s, a')) (hs : St W0 w (x.L R)) :
    FnC Try.prog 12 [.pointer (some ⟨x.qb, 0, none⟩)] w (fun v w' => v = .tuple #[I64 i, Str s, .bool true] ∧ ∃ x' : QI, x'.qb = x.qb ∧ x'.ok ∧ x'.abs = a' ∧ St W0 w' (x'.L R)) := by
  have hx : x.L R = (x.qb, .cells [.slice x.all.ad x.qs.length x.all.cap, I64 x.quantum, I64 x.at_, .bool x.paid] 44) :: (x.all.blk (flat x.qs) 46 ++ (waitsL x.qs ++ R)) := rfl
  rw [hx] at hs
  have hb : true = true ↔ ∃ q ∈ x.qs, q.ws ≠ [] := by
    obtain ⟨q, h1, h2⟩ := takeF_ne k hr
    simp only [QI.abs, List.mem_map] at h1
    obtain ⟨q', h3, rfl⟩ := h1
    exact ⟨fun _ => ⟨q', h3, h2⟩, fun _ => rfl⟩
  refine FnC.enter Try.func12 rfl Try.ntmps12 rfl fun ρ => ?_
  refine s_seq ?_
  refine s_reg ?_
  refine l_q (by exact y_as_int rfl) ?_
  refine l_q (by exact y_as_str rfl) ?_
  refine l_q (by exact y_as_bool rfl) ?_
  refine l_end ?_
  refine e_then ?_
  refine s_seq ?_
  refine s_seq ?_
  refine s_reg ?_
  refine l_q (by exact y_mv_ptr rfl) ?_
  refine l_q (by first | exact y_nil rfl | exact y_nilf rfl) ?_
  refine l_q (by exact y_field rfl) ?_
  refine l_q (by exact y_ld hs rfl rfl) ?_
  refine l_w (w_call rfl (contains_is x hok _ hb hs) rfl (fun _ w h => ?_))
  obtain ⟨rfl, hs⟩ := h
  refine l_q (by first | exact y_not_t rfl | exact y_not_f rfl | exact y_notd rfl) ?_
  refine l_end ?_
  refine e_then ?_
  refine cond_f rfl ?_
  refine s_skip ?_
  refine e_then ?_
  refine s_block ?_
  refine loop_st (X := Nat × QI) (fun y => [(0, .pointer (some ⟨x.qb, 0, none⟩))]) (fun y w => St W0 w (y.2.L R) ∧ y.2.qb = x.qb ∧ y.2.ok ∧ y.2.abs.wf ∧ takeF y.1 y.2.abs = some (i, s, a')) (fun y => y.1) (k, x) ⟨rfl, trivial⟩ ⟨hs, rfl, hok, hwf, hr⟩ ?_
  rintro ⟨k, y⟩ ρ w ⟨hs, hqb, hok, hwf, hr⟩
  dsimp only at *
  have hlt := hok.at_
  have hn := hok.n
  obtain ⟨pre, ⟨qw, qd, qo, qws⟩, suf, hq, hi⟩ := split_at hlt
  have hg := abs_get hq hi
  have hs := foc hs hq
  have hqok : qo.ok (qws.map Str) qws.length 1 := hok.qs ⟨qw, qd, qo, qws⟩ (by rw [hq]; simp)
  have hbd := pay_bd hwf hg
  have hqw := hwf.qs _ _ hg
  obtain ⟨g, hga, had⟩ := all_some hok
  haveI : ∀ xs, InL g (.cells (xs ++ y.all.sp) 46) (y.all.blk xs 46) := fun xs => inl_blk hga xs 46
  cases k with
  | zero => cases hr
  | succ k =>
  rw [← hqb]
  cases qws with
  | nil =>
    rw [takeF_nil hg rfl] at hr
    refine s_block ?_
    refine s_seq ?_
    refine r_dr (.q 0 (.q 1 (.q 2 (.q 3 (.q 4 (.q 5 (.q 6 (.q 7 (.q 8 (.q 9 (.nil))))))))))) 9 hs mixed (by kernel_rfl) (fun hs => ?_)
    refine c_q rfl (by first | exact hs | exact hs.subl | exact hs.cellAt rfl | trivial) (fun _ _ _ h => h) (fun w hs => by exact y_mv_ptr rfl) ?_
    refine c_q rfl (by first | exact hs | exact hs.subl | exact hs.cellAt rfl | trivial) (fun _ _ _ h => h) (fun w hs => by first | exact y_nil rfl | exact y_nilf rfl) ?_
    refine c_q rfl (by first | exact hs | exact hs.subl | exact hs.cellAt rfl | trivial) (fun _ _ _ h => h) (fun w hs => by exact y_field rfl) ?_
    refine c_q rfl (by first | exact hs | exact hs.subl | exact hs.cellAt rfl | trivial) (fun _ _ _ h => h) (fun w hs => by exact y_ld hs rfl rfl) ?_
    refine c_q rfl (by first | exact hs | exact hs.subl | exact hs.cellAt rfl | trivial) (fun _ _ _ h => h) (fun w hs => by exact y_mv_ptr rfl) ?_
    refine c_q rfl (by first | exact hs | exact hs.subl | exact hs.cellAt rfl | trivial) (fun _ _ _ h => h) (fun w hs => by first | exact y_nil rfl | exact y_nilf rfl) ?_
    refine c_q rfl (by first | exact hs | exact hs.subl | exact hs.cellAt rfl | trivial) (fun _ _ _ h => h) (fun w hs => by exact y_field rfl) ?_
    refine c_q rfl (by first | exact hs | exact hs.subl | exact hs.cellAt rfl | trivial) (fun _ _ _ h => h) (fun w hs => by exact y_ld hs rfl rfl) ?_
    refine c_q rfl (by first | exact hs | exact hs.subl | exact hs.cellAt rfl | trivial) (fun _ _ _ h => h) (fun w hs => by exact y_indexT (off := 3 * pre.length) rfl rfl (by omega) (by omega) had (by omega)) ?_
    refine c_q rfl (by first | exact hs | exact hs.subl | exact hs.cellAt rfl | trivial) (fun _ _ _ h => h) (fun w hs => by exact y_as_ptr rfl) ?_
    refine c_end ?_
    refine e_then ?_
    refine s_seq ?_
    refine s_seq ?_
    refine s_reg ?_
    refine l_q (by exact y_mv_ptr rfl) ?_
    refine l_q (by first | exact y_nil rfl | exact y_nilf rfl) ?_
    refine l_q (by exact y_field rfl) ?_
    refine l_q (by exact y_ld hs rfl (flat_get _ _ _ _ 2 (by omega))) ?_
    refine l_q (by exact y_len_slice rfl) ?_
    refine l_q (by first | exact y_eql rfl rfl (decide_eq_true (by omega)) | exact y_eql rfl rfl (decide_eq_false (by omega)) | exact y_eql rfl rfl rfl) ?_
    refine l_end ?_
    refine e_then ?_
    refine cond_t rfl ?_
    refine s_seq ?_
    refine s_reg ?_
    refine l_q (by exact y_mv_ptr rfl) ?_
    refine l_w (w_call rfl (leave_l (y := y) hok (by have h := unfoc hq hs; rw [up_self hq] at h; exact h)) rfl (fun _ w h => ?_))
    obtain ⟨rfl, hs⟩ := h
    refine l_end ?_
    refine e_then ?_
    refine s_exit ?_
    refine e_then_x ?_
    refine e_blk_x ?_
    refine e_then ?_
    exact ⟨(k, y.lv), _, nx ⟨rfl, trivial⟩, ⟨hs, rfl, lv_ok hok, by rw [lv_abs]; exact wf_nil hwf hg rfl, by rw [lv_abs]; exact hr⟩, by dsimp only; omega⟩
  | cons sx r =>
    obtain ⟨gq, hgq⟩ : ∃ gq, qo.a = some gq := by
      cases h : qo.a with
      | none => have := hqok.nil_ h; simp at this
      | some g => exact ⟨g, rfl⟩
    have hqad : qo.ad = some ⟨gq, 0, none⟩ := by simp [OS.ad, hgq]
    haveI := inl_blk hgq ((sx :: r).map Str) 9
    have hlr : (sx :: r).length = r.length + 1 := rfl
    have hssz : sx.size ≤ 1500 := hqw.s_ sx (by simp [QE.abs])
    have hl64 : (sx :: r).length ≤ 64 := hqw.ws
    have hrl : r.length ≤ 64 := by omega
    have hcap := hqok.cap_
    have hzl : (if qo.cap = (1 : Int).toNat then 0 else 0 + (1 : Int).toNat * 1) + r.length ≤ ((sx :: r).map Str ++ qo.sp).length := by
      rw [List.length_append, List.length_map, hlr]; split <;> simp <;> omega
    have hzs : (((sx :: r).map Str ++ qo.sp).drop (if qo.cap = (1 : Int).toNat then 0 else 0 + (1 : Int).toNat * 1)).take r.length = r.map Str := by
      split
      · rename_i h
        have : (1 : Int).toNat = 1 := rfl
        have h0 : r.length = 0 := by omega
        rw [h0, List.length_eq_zero_iff.1 h0]; simp
      · simp
    have hQ : y.abs.Q = y.quantum := rfl
    rw [hQ] at hbd
    have hqd0 := hqw.d0
    have hqd1 : qd ≤ 151500 := hbd.2.2.2
    have hmul : qw * y.quantum ≤ 150000 := hbd.2.2.1
    have hmul0 : 1 ≤ qw * y.quantum := (wQ_bd hqw hwf.q1 hwf.q2).1
    cases hp : y.paid with
    | true =>
      rw [hp] at hs
      obtain ⟨dd, hdd⟩ : ∃ dd, dd = qd := ⟨_, rfl⟩
      subst hdd
      have hpay : y.abs.pay (⟨qw, dd, qo, sx :: r⟩ : QE).abs = dd := by simp [Ab.pay, QI.abs, hp, QE.abs]
      by_cases hd : dd < sx.size
      · rw [takeF_short hg rfl (by rw [hpay]; exact hd), hpay] at hr
        refine s_block ?_
        refine s_seq ?_
        refine r_dr (.q 0 (.q 1 (.q 2 (.q 3 (.q 4 (.q 5 (.q 6 (.q 7 (.q 8 (.q 9 (.nil))))))))))) 9 hs mixed (by kernel_rfl) (fun hs => ?_)
        refine c_q rfl (by first | exact hs | exact hs.subl | exact hs.cellAt rfl | trivial) (fun _ _ _ h => h) (fun w hs => by exact y_mv_ptr rfl) ?_
        refine c_q rfl (by first | exact hs | exact hs.subl | exact hs.cellAt rfl | trivial) (fun _ _ _ h => h) (fun w hs => by first | exact y_nil rfl | exact y_nilf rfl) ?_
        refine c_q rfl (by first | exact hs | exact hs.subl | exact hs.cellAt rfl | trivial) (fun _ _ _ h => h) (fun w hs => by exact y_field rfl) ?_
        refine c_q rfl (by first | exact hs | exact hs.subl | exact hs.cellAt rfl | trivial) (fun _ _ _ h => h) (fun w hs => by exact y_ld hs rfl rfl) ?_
        refine c_q rfl (by first | exact hs | exact hs.subl | exact hs.cellAt rfl | trivial) (fun _ _ _ h => h) (fun w hs => by exact y_mv_ptr rfl) ?_
        refine c_q rfl (by first | exact hs | exact hs.subl | exact hs.cellAt rfl | trivial) (fun _ _ _ h => h) (fun w hs => by first | exact y_nil rfl | exact y_nilf rfl) ?_
        refine c_q rfl (by first | exact hs | exact hs.subl | exact hs.cellAt rfl | trivial) (fun _ _ _ h => h) (fun w hs => by exact y_field rfl) ?_
        refine c_q rfl (by first | exact hs | exact hs.subl | exact hs.cellAt rfl | trivial) (fun _ _ _ h => h) (fun w hs => by exact y_ld hs rfl rfl) ?_
        refine c_q rfl (by first | exact hs | exact hs.subl | exact hs.cellAt rfl | trivial) (fun _ _ _ h => h) (fun w hs => by exact y_indexT (off := 3 * pre.length) rfl rfl (by omega) (by omega) had (by omega)) ?_
        refine c_q rfl (by first | exact hs | exact hs.subl | exact hs.cellAt rfl | trivial) (fun _ _ _ h => h) (fun w hs => by exact y_as_ptr rfl) ?_
        refine c_end ?_
        refine e_then ?_
        refine s_seq ?_
        refine s_seq ?_
        refine s_reg ?_
        refine l_q (by exact y_mv_ptr rfl) ?_
        refine l_q (by first | exact y_nil rfl | exact y_nilf rfl) ?_
        refine l_q (by exact y_field rfl) ?_
        refine l_q (by exact y_ld hs rfl (flat_get _ _ _ _ 2 (by omega))) ?_
        refine l_q (by exact y_len_slice rfl) ?_
        refine l_q (by first | exact y_eql rfl rfl (decide_eq_true (by omega)) | exact y_eql rfl rfl (decide_eq_false (by omega)) | exact y_eql rfl rfl rfl) ?_
        refine l_end ?_
        refine e_then ?_
        refine cond_f rfl ?_
        refine s_skip ?_
        refine e_then ?_
        refine s_seq ?_
        refine s_seq ?_
        refine s_reg ?_
        refine l_q (by exact y_mv_ptr rfl) ?_
        refine l_q (by first | exact y_nil rfl | exact y_nilf rfl) ?_
        refine l_q (by exact y_field rfl) ?_
        refine l_q (by exact y_ld hs rfl rfl) ?_
        refine l_q (by first | exact y_not_t rfl | exact y_not_f rfl | exact y_notd rfl) ?_
        refine l_end ?_
        refine e_then ?_
        refine cond_f rfl ?_
        refine s_skip ?_
        refine e_then ?_
        refine s_seq ?_
        refine s_reg ?_
        refine l_q (by exact y_mv_ptr rfl) ?_
        refine l_q (by first | exact y_nil rfl | exact y_nilf rfl) ?_
        refine l_q (by exact y_field rfl) ?_
        refine l_q (by exact y_ld (v := .slice qo.ad (sx :: r).length qo.cap) hs rfl (flat_get _ _ _ _ 2 (by omega))) ?_
        refine l_q (by exact y_indexT (off := 0) rfl rfl (by omega) (by omega) hqad (by omega)) ?_
        refine l_q (by exact y_ld (v := .string sx) hs rfl rfl) ?_
        refine l_q (by exact y_as_str rfl) ?_
        refine l_end ?_
        refine e_then ?_
        refine s_seq ?_
        refine s_seq ?_
        refine s_reg ?_
        refine l_q (by exact y_mv_str rfl) ?_
        refine l_q (by exact y_len_str rfl) ?_
        refine l_q (by exact y_mv_ptr rfl) ?_
        refine l_q (by first | exact y_nil rfl | exact y_nilf rfl) ?_
        refine l_q (by exact y_field rfl) ?_
        refine l_q (by exact y_ld (v := .int .i64 dd) hs rfl (flat_get _ _ _ _ 1 (by omega))) ?_
        refine l_q (by first | exact y_gtr rfl rfl (decide_eq_true (by omega)) | exact y_gtr rfl rfl (decide_eq_false (by omega)) | exact y_gtr rfl rfl rfl) ?_
        refine l_end ?_
        refine e_then ?_
        refine cond_t rfl ?_
        refine s_seq ?_
        refine s_reg ?_
        refine l_q (by exact y_mv_ptr rfl) ?_
        refine l_w (w_call rfl (leave_l (up_ok (q' := ⟨qw, dd, qo, sx :: r⟩) (p := true) hok hq hqok) (unfoc hq hs)) rfl (fun _ w h => ?_))
        obtain ⟨rfl, hs⟩ := h
        refine l_end ?_
        refine e_then ?_
        refine s_exit ?_
        refine e_then_x ?_
        refine e_blk_x ?_
        refine e_then ?_
        exact ⟨(k, (y.up pre ⟨qw, dd, qo, sx :: r⟩ suf true).lv), _, nx ⟨rfl, trivial⟩, ⟨hs, rfl, lv_ok (up_ok hok hq hqok), by rw [lv_abs, up_abs hq hi]; have h := wf_short hwf hg rfl (by rw [hpay]; exact hd); rw [hpay] at h; exact h, by rw [lv_abs, up_abs hq hi]; exact hr⟩, by dsimp only; omega⟩
      · by_cases hr0 : r.length = 0
        · have hr1 := List.length_eq_zero_iff.1 hr0
          rw [takeF_last hg (by rw [hr1]; rfl) (by rw [hpay]; exact hd)] at hr
          simp only [Option.some.injEq, Prod.mk.injEq] at hr
          obtain ⟨rfl, rfl, rfl⟩ := hr
          refine s_block ?_
          refine s_seq ?_
          refine r_dr (.q 0 (.q 1 (.q 2 (.q 3 (.q 4 (.q 5 (.q 6 (.q 7 (.q 8 (.q 9 (.nil))))))))))) 9 hs mixed (by kernel_rfl) (fun hs => ?_)
          refine c_q rfl (by first | exact hs | exact hs.subl | exact hs.cellAt rfl | trivial) (fun _ _ _ h => h) (fun w hs => by exact y_mv_ptr rfl) ?_
          refine c_q rfl (by first | exact hs | exact hs.subl | exact hs.cellAt rfl | trivial) (fun _ _ _ h => h) (fun w hs => by first | exact y_nil rfl | exact y_nilf rfl) ?_
          refine c_q rfl (by first | exact hs | exact hs.subl | exact hs.cellAt rfl | trivial) (fun _ _ _ h => h) (fun w hs => by exact y_field rfl) ?_
          refine c_q rfl (by first | exact hs | exact hs.subl | exact hs.cellAt rfl | trivial) (fun _ _ _ h => h) (fun w hs => by exact y_ld hs rfl rfl) ?_
          refine c_q rfl (by first | exact hs | exact hs.subl | exact hs.cellAt rfl | trivial) (fun _ _ _ h => h) (fun w hs => by exact y_mv_ptr rfl) ?_
          refine c_q rfl (by first | exact hs | exact hs.subl | exact hs.cellAt rfl | trivial) (fun _ _ _ h => h) (fun w hs => by first | exact y_nil rfl | exact y_nilf rfl) ?_
          refine c_q rfl (by first | exact hs | exact hs.subl | exact hs.cellAt rfl | trivial) (fun _ _ _ h => h) (fun w hs => by exact y_field rfl) ?_
          refine c_q rfl (by first | exact hs | exact hs.subl | exact hs.cellAt rfl | trivial) (fun _ _ _ h => h) (fun w hs => by exact y_ld hs rfl rfl) ?_
          refine c_q rfl (by first | exact hs | exact hs.subl | exact hs.cellAt rfl | trivial) (fun _ _ _ h => h) (fun w hs => by exact y_indexT (off := 3 * pre.length) rfl rfl (by omega) (by omega) had (by omega)) ?_
          refine c_q rfl (by first | exact hs | exact hs.subl | exact hs.cellAt rfl | trivial) (fun _ _ _ h => h) (fun w hs => by exact y_as_ptr rfl) ?_
          refine c_end ?_
          refine e_then ?_
          refine s_seq ?_
          refine s_seq ?_
          refine s_reg ?_
          refine l_q (by exact y_mv_ptr rfl) ?_
          refine l_q (by first | exact y_nil rfl | exact y_nilf rfl) ?_
          refine l_q (by exact y_field rfl) ?_
          refine l_q (by exact y_ld hs rfl (flat_get _ _ _ _ 2 (by omega))) ?_
          refine l_q (by exact y_len_slice rfl) ?_
          refine l_q (by first | exact y_eql rfl rfl (decide_eq_true (by omega)) | exact y_eql rfl rfl (decide_eq_false (by omega)) | exact y_eql rfl rfl rfl) ?_
          refine l_end ?_
          refine e_then ?_
          refine cond_f rfl ?_
          refine s_skip ?_
          refine e_then ?_
          refine s_seq ?_
          refine s_seq ?_
          refine s_reg ?_
          refine l_q (by exact y_mv_ptr rfl) ?_
          refine l_q (by first | exact y_nil rfl | exact y_nilf rfl) ?_
          refine l_q (by exact y_field rfl) ?_
          refine l_q (by exact y_ld hs rfl rfl) ?_
          refine l_q (by first | exact y_not_t rfl | exact y_not_f rfl | exact y_notd rfl) ?_
          refine l_end ?_
          refine e_then ?_
          refine cond_f rfl ?_
          refine s_skip ?_
          refine e_then ?_
          refine s_seq ?_
          refine s_reg ?_
          refine l_q (by exact y_mv_ptr rfl) ?_
          refine l_q (by first | exact y_nil rfl | exact y_nilf rfl) ?_
          refine l_q (by exact y_field rfl) ?_
          refine l_q (by exact y_ld (v := .slice qo.ad (sx :: r).length qo.cap) hs rfl (flat_get _ _ _ _ 2 (by omega))) ?_
          refine l_q (by exact y_indexT (off := 0) rfl rfl (by omega) (by omega) hqad (by omega)) ?_
          refine l_q (by exact y_ld (v := .string sx) hs rfl rfl) ?_
          refine l_q (by exact y_as_str rfl) ?_
          refine l_end ?_
          refine e_then ?_
          refine s_seq ?_
          refine s_seq ?_
          refine s_reg ?_
          refine l_q (by exact y_mv_str rfl) ?_
          refine l_q (by exact y_len_str rfl) ?_
          refine l_q (by exact y_mv_ptr rfl) ?_
          refine l_q (by first | exact y_nil rfl | exact y_nilf rfl) ?_
          refine l_q (by exact y_field rfl) ?_
          refine l_q (by exact y_ld (v := .int .i64 dd) hs rfl (flat_get _ _ _ _ 1 (by omega))) ?_
          refine l_q (by first | exact y_gtr rfl rfl (decide_eq_true (by omega)) | exact y_gtr rfl rfl (decide_eq_false (by omega)) | exact y_gtr rfl rfl rfl) ?_
          refine l_end ?_
          refine e_then ?_
          refine cond_f rfl ?_
          refine s_skip ?_
          refine e_then ?_
          refine s_seq ?_
          refine s_reg ?_
          refine l_q (by exact y_mv_ptr rfl) ?_
          refine l_q (by first | exact y_nil rfl | exact y_nilf rfl) ?_
          refine l_q (by exact y_field rfl) ?_
          refine l_q (by exact y_ld hs rfl rfl) ?_
          refine l_q (by exact y_as_int rfl) ?_
          refine l_end ?_
          refine e_then ?_
          refine s_seq ?_
          refine s_reg ?_
          refine l_q (by exact y_mv_ptr rfl) ?_
          refine l_q (by first | exact y_nil rfl | exact y_nilf rfl) ?_
          refine l_q (by exact y_field rfl) ?_
          refine l_q (by exact y_ld (v := .int .i64 dd) hs rfl (flat_get _ _ _ _ 1 (by omega))) ?_
          refine l_q (by exact y_mv_str rfl) ?_
          refine l_q (by exact y_len_str rfl) ?_
          refine l_q (by first | exact y_subn rfl rfl (by omega) | exact y_sub rfl rfl rfl) ?_
          refine l_q (by first | exact y_nil rfl | exact y_nilf rfl) ?_
          refine l_q (by exact y_field rfl) ?_
          refine l_w (w_storeF (xs' := flat (pre ++ ⟨qw, dd - sx.size, qo, sx :: r⟩ :: suf)) [_] hs hga rfl rfl rfl (flat_room _ _ _ _ 2 (by omega)) (flat_set _ _ _ _ _ 1 (by omega) _ rfl) (fun w hs => ?_))
          refine l_end ?_
          refine e_then ?_
          refine s_seq ?_
          refine s_reg ?_
          refine l_q (by exact y_mv_ptr rfl) ?_
          refine l_q (by exact y_mv_ptr rfl) ?_
          refine l_q (by first | exact y_nil rfl | exact y_nilf rfl) ?_
          refine l_q (by exact y_field rfl) ?_
          refine l_q (by exact y_ld (v := .slice qo.ad (sx :: r).length qo.cap) hs rfl (flat_get _ _ _ _ 2 (by omega))) ?_
          refine l_q (by exact y_slice_loT (r := r.length) rfl rfl hqad (by decide) (by omega) rfl) ?_
          refine l_w (w_call rfl (clone_c (ws := r) (m := r.length) hs hzl hzs hrl) rfl (fun _ w h => ?_))
          obtain ⟨os', rfl, ok', hg', hs⟩ := h; have hs := after_clone hs
          refine l_q (by first | exact y_nil rfl | exact y_nilf rfl) ?_
          refine l_q (by exact y_field rfl) ?_
          refine l_w (w_storeF (xs' := flat (pre ++ ⟨qw, dd - sx.size, os', r⟩ :: suf)) [_] hs hga rfl rfl rfl (flat_room _ _ _ _ 3 (by omega)) (flat_set _ _ _ _ _ 2 (by omega) _ rfl) (fun w hs => ?_))
          refine l_end ?_
          refine e_then ?_
          refine s_seq ?_
          refine s_seq ?_
          refine s_reg ?_
          refine l_q (by exact y_mv_ptr rfl) ?_
          refine l_q (by first | exact y_nil rfl | exact y_nilf rfl) ?_
          refine l_q (by exact y_field rfl) ?_
          refine l_q (by exact y_ld (v := .slice os'.ad r.length os'.cap) hs rfl (flat_get _ _ _ _ 2 (by omega))) ?_
          refine l_q (by exact y_len_slice rfl) ?_
          refine l_q (by first | exact y_eql rfl rfl (decide_eq_true (by omega)) | exact y_eql rfl rfl (decide_eq_false (by omega)) | exact y_eql rfl rfl rfl) ?_
          refine l_end ?_
          refine e_then ?_
          refine cond_t rfl ?_
          refine s_seq ?_
          refine s_reg ?_
          refine l_q (by exact y_mv_ptr rfl) ?_
          refine l_q (by first | exact y_nil rfl | exact y_nilf rfl) ?_
          refine l_q (by exact y_field rfl) ?_
          refine l_w (w_storeF (xs' := flat (pre ++ ⟨qw, 0, os', r⟩ :: suf)) [_] hs hga rfl rfl rfl (flat_room _ _ _ _ 2 (by omega)) (flat_set _ _ _ _ _ 1 (by omega) _ rfl) (fun w hs => ?_))
          refine l_end ?_
          refine e_then ?_
          refine s_reg ?_
          refine l_q (by exact y_mv_ptr rfl) ?_
          refine l_w (w_call rfl (leave_l (up_ok (q' := ⟨qw, 0, os', r⟩) (p := true) hok hq ok') (unfoc hq hs)) rfl (fun _ w h => ?_))
          obtain ⟨rfl, hs⟩ := h
          refine l_end ?_
          refine e_then ?_
          refine s_seq ?_
          refine s_reg ?_
          refine l_q (by exact y_mv_int rfl) ?_
          refine l_q (by exact y_mv_str rfl) ?_
          refine l_q (by exact y_as_int rfl) ?_
          refine l_q (by exact y_as_str rfl) ?_
          refine l_q (by exact y_as_bool rfl) ?_
          refine l_end ?_
          refine e_then ?_
          refine s_ret ?_
          refine e_blk_r ?_
          refine e_then_r ?_
          refine e_blk_r ?_
          exact ret_ [.int .i64 _, .string _, .bool _] rfl ⟨rfl, rfl, rfl, trivial⟩ ⟨rfl, (y.up pre ⟨qw, 0, os', r⟩ suf true).lv, rfl, lv_ok (up_ok (q' := ⟨qw, 0, os', r⟩) (p := true) hok hq ok'), by rw [lv_abs, up_abs hq hi]; subst hr1; rfl, hs⟩
        · rw [takeF_more hg rfl (fun h => hr0 (by rw [h]; rfl)) (by rw [hpay]; exact hd), hpay] at hr
          simp only [Option.some.injEq, Prod.mk.injEq] at hr
          obtain ⟨rfl, rfl, rfl⟩ := hr
          refine s_block ?_
          refine s_seq ?_
          refine r_dr (.q 0 (.q 1 (.q 2 (.q 3 (.q 4 (.q 5 (.q 6 (.q 7 (.q 8 (.q 9 (.nil))))))))))) 9 hs mixed (by kernel_rfl) (fun hs => ?_)
          refine c_q rfl (by first | exact hs | exact hs.subl | exact hs.cellAt rfl | trivial) (fun _ _ _ h => h) (fun w hs => by exact y_mv_ptr rfl) ?_
          refine c_q rfl (by first | exact hs | exact hs.subl | exact hs.cellAt rfl | trivial) (fun _ _ _ h => h) (fun w hs => by first | exact y_nil rfl | exact y_nilf rfl) ?_
          refine c_q rfl (by first | exact hs | exact hs.subl | exact hs.cellAt rfl | trivial) (fun _ _ _ h => h) (fun w hs => by exact y_field rfl) ?_
          refine c_q rfl (by first | exact hs | exact hs.subl | exact hs.cellAt rfl | trivial) (fun _ _ _ h => h) (fun w hs => by exact y_ld hs rfl rfl) ?_
          refine c_q rfl (by first | exact hs | exact hs.subl | exact hs.cellAt rfl | trivial) (fun _ _ _ h => h) (fun w hs => by exact y_mv_ptr rfl) ?_
          refine c_q rfl (by first | exact hs | exact hs.subl | exact hs.cellAt rfl | trivial) (fun _ _ _ h => h) (fun w hs => by first | exact y_nil rfl | exact y_nilf rfl) ?_
          refine c_q rfl (by first | exact hs | exact hs.subl | exact hs.cellAt rfl | trivial) (fun _ _ _ h => h) (fun w hs => by exact y_field rfl) ?_
          refine c_q rfl (by first | exact hs | exact hs.subl | exact hs.cellAt rfl | trivial) (fun _ _ _ h => h) (fun w hs => by exact y_ld hs rfl rfl) ?_
          refine c_q rfl (by first | exact hs | exact hs.subl | exact hs.cellAt rfl | trivial) (fun _ _ _ h => h) (fun w hs => by exact y_indexT (off := 3 * pre.length) rfl rfl (by omega) (by omega) had (by omega)) ?_
          refine c_q rfl (by first | exact hs | exact hs.subl | exact hs.cellAt rfl | trivial) (fun _ _ _ h => h) (fun w hs => by exact y_as_ptr rfl) ?_
          refine c_end ?_
          refine e_then ?_
          refine s_seq ?_
          refine s_seq ?_
          refine s_reg ?_
          refine l_q (by exact y_mv_ptr rfl) ?_
          refine l_q (by first | exact y_nil rfl | exact y_nilf rfl) ?_
          refine l_q (by exact y_field rfl) ?_
          refine l_q (by exact y_ld hs rfl (flat_get _ _ _ _ 2 (by omega))) ?_
          refine l_q (by exact y_len_slice rfl) ?_
          refine l_q (by first | exact y_eql rfl rfl (decide_eq_true (by omega)) | exact y_eql rfl rfl (decide_eq_false (by omega)) | exact y_eql rfl rfl rfl) ?_
          refine l_end ?_
          refine e_then ?_
          refine cond_f rfl ?_
          refine s_skip ?_
          refine e_then ?_
          refine s_seq ?_
          refine s_seq ?_
          refine s_reg ?_
          refine l_q (by exact y_mv_ptr rfl) ?_
          refine l_q (by first | exact y_nil rfl | exact y_nilf rfl) ?_
          refine l_q (by exact y_field rfl) ?_
          refine l_q (by exact y_ld hs rfl rfl) ?_
          refine l_q (by first | exact y_not_t rfl | exact y_not_f rfl | exact y_notd rfl) ?_
          refine l_end ?_
          refine e_then ?_
          refine cond_f rfl ?_
          refine s_skip ?_
          refine e_then ?_
          refine s_seq ?_
          refine s_reg ?_
          refine l_q (by exact y_mv_ptr rfl) ?_
          refine l_q (by first | exact y_nil rfl | exact y_nilf rfl) ?_
          refine l_q (by exact y_field rfl) ?_
          refine l_q (by exact y_ld (v := .slice qo.ad (sx :: r).length qo.cap) hs rfl (flat_get _ _ _ _ 2 (by omega))) ?_
          refine l_q (by exact y_indexT (off := 0) rfl rfl (by omega) (by omega) hqad (by omega)) ?_
          refine l_q (by exact y_ld (v := .string sx) hs rfl rfl) ?_
          refine l_q (by exact y_as_str rfl) ?_
          refine l_end ?_
          refine e_then ?_
          refine s_seq ?_
          refine s_seq ?_
          refine s_reg ?_
          refine l_q (by exact y_mv_str rfl) ?_
          refine l_q (by exact y_len_str rfl) ?_
          refine l_q (by exact y_mv_ptr rfl) ?_
          refine l_q (by first | exact y_nil rfl | exact y_nilf rfl) ?_
          refine l_q (by exact y_field rfl) ?_
          refine l_q (by exact y_ld (v := .int .i64 dd) hs rfl (flat_get _ _ _ _ 1 (by omega))) ?_
          refine l_q (by first | exact y_gtr rfl rfl (decide_eq_true (by omega)) | exact y_gtr rfl rfl (decide_eq_false (by omega)) | exact y_gtr rfl rfl rfl) ?_
          refine l_end ?_
          refine e_then ?_
          refine cond_f rfl ?_
          refine s_skip ?_
          refine e_then ?_
          refine s_seq ?_
          refine s_reg ?_
          refine l_q (by exact y_mv_ptr rfl) ?_
          refine l_q (by first | exact y_nil rfl | exact y_nilf rfl) ?_
          refine l_q (by exact y_field rfl) ?_
          refine l_q (by exact y_ld hs rfl rfl) ?_
          refine l_q (by exact y_as_int rfl) ?_
          refine l_end ?_
          refine e_then ?_
          refine s_seq ?_
          refine s_reg ?_
          refine l_q (by exact y_mv_ptr rfl) ?_
          refine l_q (by first | exact y_nil rfl | exact y_nilf rfl) ?_
          refine l_q (by exact y_field rfl) ?_
          refine l_q (by exact y_ld (v := .int .i64 dd) hs rfl (flat_get _ _ _ _ 1 (by omega))) ?_
          refine l_q (by exact y_mv_str rfl) ?_
          refine l_q (by exact y_len_str rfl) ?_
          refine l_q (by first | exact y_subn rfl rfl (by omega) | exact y_sub rfl rfl rfl) ?_
          refine l_q (by first | exact y_nil rfl | exact y_nilf rfl) ?_
          refine l_q (by exact y_field rfl) ?_
          refine l_w (w_storeF (xs' := flat (pre ++ ⟨qw, dd - sx.size, qo, sx :: r⟩ :: suf)) [_] hs hga rfl rfl rfl (flat_room _ _ _ _ 2 (by omega)) (flat_set _ _ _ _ _ 1 (by omega) _ rfl) (fun w hs => ?_))
          refine l_end ?_
          refine e_then ?_
          refine s_seq ?_
          refine s_reg ?_
          refine l_q (by exact y_mv_ptr rfl) ?_
          refine l_q (by exact y_mv_ptr rfl) ?_
          refine l_q (by first | exact y_nil rfl | exact y_nilf rfl) ?_
          refine l_q (by exact y_field rfl) ?_
          refine l_q (by exact y_ld (v := .slice qo.ad (sx :: r).length qo.cap) hs rfl (flat_get _ _ _ _ 2 (by omega))) ?_
          refine l_q (by exact y_slice_loT (r := r.length) rfl rfl hqad (by decide) (by omega) rfl) ?_
          refine l_w (w_call rfl (clone_c (ws := r) (m := r.length) hs hzl hzs hrl) rfl (fun _ w h => ?_))
          obtain ⟨os', rfl, ok', hg', hs⟩ := h; have hs := after_clone hs
          refine l_q (by first | exact y_nil rfl | exact y_nilf rfl) ?_
          refine l_q (by exact y_field rfl) ?_
          refine l_w (w_storeF (xs' := flat (pre ++ ⟨qw, dd - sx.size, os', r⟩ :: suf)) [_] hs hga rfl rfl rfl (flat_room _ _ _ _ 3 (by omega)) (flat_set _ _ _ _ _ 2 (by omega) _ rfl) (fun w hs => ?_))
          refine l_end ?_
          refine e_then ?_
          refine s_seq ?_
          refine s_seq ?_
          refine s_reg ?_
          refine l_q (by exact y_mv_ptr rfl) ?_
          refine l_q (by first | exact y_nil rfl | exact y_nilf rfl) ?_
          refine l_q (by exact y_field rfl) ?_
          refine l_q (by exact y_ld (v := .slice os'.ad r.length os'.cap) hs rfl (flat_get _ _ _ _ 2 (by omega))) ?_
          refine l_q (by exact y_len_slice rfl) ?_
          refine l_q (by first | exact y_eql rfl rfl (decide_eq_true (by omega)) | exact y_eql rfl rfl (decide_eq_false (by omega)) | exact y_eql rfl rfl rfl) ?_
          refine l_end ?_
          refine e_then ?_
          refine cond_f rfl ?_
          refine s_skip ?_
          refine e_then ?_
          refine s_seq ?_
          refine s_reg ?_
          refine l_q (by exact y_mv_int rfl) ?_
          refine l_q (by exact y_mv_str rfl) ?_
          refine l_q (by exact y_as_int rfl) ?_
          refine l_q (by exact y_as_str rfl) ?_
          refine l_q (by exact y_as_bool rfl) ?_
          refine l_end ?_
          refine e_then ?_
          refine s_ret ?_
          refine e_blk_r ?_
          refine e_then_r ?_
          refine e_blk_r ?_
          exact ret_ [.int .i64 _, .string _, .bool _] rfl ⟨rfl, rfl, rfl, trivial⟩ ⟨rfl, y.up pre ⟨qw, dd - sx.size, os', r⟩ suf true, rfl, up_ok (q' := ⟨qw, dd - sx.size, os', r⟩) (p := true) hok hq ok', by rw [up_abs hq hi]; rfl, unfoc hq hs⟩
    | false =>
      rw [hp] at hs
      obtain ⟨dd, hdd⟩ : ∃ dd, dd = qd + qw * y.quantum := ⟨_, rfl⟩
      have hqd2 : 0 ≤ qd := hqd0
      have hpay : y.abs.pay (⟨qw, qd, qo, sx :: r⟩ : QE).abs = dd := by rw [hdd]; simp [Ab.pay, QI.abs, hp, QE.abs]
      by_cases hd : dd < sx.size
      · rw [takeF_short hg rfl (by rw [hpay]; exact hd), hpay] at hr
        refine s_block ?_
        refine s_seq ?_
        refine r_dr (.q 0 (.q 1 (.q 2 (.q 3 (.q 4 (.q 5 (.q 6 (.q 7 (.q 8 (.q 9 (.nil))))))))))) 9 hs mixed (by kernel_rfl) (fun hs => ?_)
        refine c_q rfl (by first | exact hs | exact hs.subl | exact hs.cellAt rfl | trivial) (fun _ _ _ h => h) (fun w hs => by exact y_mv_ptr rfl) ?_
        refine c_q rfl (by first | exact hs | exact hs.subl | exact hs.cellAt rfl | trivial) (fun _ _ _ h => h) (fun w hs => by first | exact y_nil rfl | exact y_nilf rfl) ?_
        refine c_q rfl (by first | exact hs | exact hs.subl | exact hs.cellAt rfl | trivial) (fun _ _ _ h => h) (fun w hs => by exact y_field rfl) ?_
        refine c_q rfl (by first | exact hs | exact hs.subl | exact hs.cellAt rfl | trivial) (fun _ _ _ h => h) (fun w hs => by exact y_ld hs rfl rfl) ?_
        refine c_q rfl (by first | exact hs | exact hs.subl | exact hs.cellAt rfl | trivial) (fun _ _ _ h => h) (fun w hs => by exact y_mv_ptr rfl) ?_
        refine c_q rfl (by first | exact hs | exact hs.subl | exact hs.cellAt rfl | trivial) (fun _ _ _ h => h) (fun w hs => by first | exact y_nil rfl | exact y_nilf rfl) ?_
        refine c_q rfl (by first | exact hs | exact hs.subl | exact hs.cellAt rfl | trivial) (fun _ _ _ h => h) (fun w hs => by exact y_field rfl) ?_
        refine c_q rfl (by first | exact hs | exact hs.subl | exact hs.cellAt rfl | trivial) (fun _ _ _ h => h) (fun w hs => by exact y_ld hs rfl rfl) ?_
        refine c_q rfl (by first | exact hs | exact hs.subl | exact hs.cellAt rfl | trivial) (fun _ _ _ h => h) (fun w hs => by exact y_indexT (off := 3 * pre.length) rfl rfl (by omega) (by omega) had (by omega)) ?_
        refine c_q rfl (by first | exact hs | exact hs.subl | exact hs.cellAt rfl | trivial) (fun _ _ _ h => h) (fun w hs => by exact y_as_ptr rfl) ?_
        refine c_end ?_
        refine e_then ?_
        refine s_seq ?_
        refine s_seq ?_
        refine s_reg ?_
        refine l_q (by exact y_mv_ptr rfl) ?_
        refine l_q (by first | exact y_nil rfl | exact y_nilf rfl) ?_
        refine l_q (by exact y_field rfl) ?_
        refine l_q (by exact y_ld hs rfl (flat_get _ _ _ _ 2 (by omega))) ?_
        refine l_q (by exact y_len_slice rfl) ?_
        refine l_q (by first | exact y_eql rfl rfl (decide_eq_true (by omega)) | exact y_eql rfl rfl (decide_eq_false (by omega)) | exact y_eql rfl rfl rfl) ?_
        refine l_end ?_
        refine e_then ?_
        refine cond_f rfl ?_
        refine s_skip ?_
        refine e_then ?_
        refine s_seq ?_
        refine s_seq ?_
        refine s_reg ?_
        refine l_q (by exact y_mv_ptr rfl) ?_
        refine l_q (by first | exact y_nil rfl | exact y_nilf rfl) ?_
        refine l_q (by exact y_field rfl) ?_
        refine l_q (by exact y_ld hs rfl rfl) ?_
        refine l_q (by first | exact y_not_t rfl | exact y_not_f rfl | exact y_notd rfl) ?_
        refine l_end ?_
        refine e_then ?_
        refine cond_t rfl ?_
        refine s_seq ?_
        refine r_dr (.q 0 (.q 1 (.q 2 (.q 3 (.q 4 (.q 5 (.q 6 (.q 7 (.q 8 (.q 9 (.q 10 (.q 11 (.q 12 (.q 13 (.q 14 (.q 15 (.w 16 (.nil)))))))))))))))))) 16 hs mixed (by kernel_rfl) (fun hs => ?_)
        refine c_q rfl (by first | exact hs | exact hs.subl | exact hs.cellAt rfl | trivial) (fun _ _ _ h => h) (fun w hs => by exact y_mv_ptr rfl) ?_
        refine c_q rfl (by first | exact hs | exact hs.subl | exact hs.cellAt rfl | trivial) (fun _ _ _ h => h) (fun w hs => by first | exact y_nil rfl | exact y_nilf rfl) ?_
        refine c_q rfl (by first | exact hs | exact hs.subl | exact hs.cellAt rfl | trivial) (fun _ _ _ h => h) (fun w hs => by exact y_field rfl) ?_
        refine c_q rfl (by first | exact hs | exact hs.subl | exact hs.cellAt rfl | trivial) (fun _ _ _ h => h) (fun w hs => by exact y_ld (v := .int .i64 qd) hs rfl (flat_get _ _ _ _ 1 (by omega))) ?_
        refine c_q rfl (by first | exact hs | exact hs.subl | exact hs.cellAt rfl | trivial) (fun _ _ _ h => h) (fun w hs => by exact y_mv_ptr rfl) ?_
        refine c_q rfl (by first | exact hs | exact hs.subl | exact hs.cellAt rfl | trivial) (fun _ _ _ h => h) (fun w hs => by first | exact y_nil rfl | exact y_nilf rfl) ?_
        refine c_q rfl (by first | exact hs | exact hs.subl | exact hs.cellAt rfl | trivial) (fun _ _ _ h => h) (fun w hs => by exact y_field rfl) ?_
        refine c_q rfl (by first | exact hs | exact hs.subl | exact hs.cellAt rfl | trivial) (fun _ _ _ h => h) (fun w hs => by exact y_ld (v := .int .i64 qw) hs rfl (flat_get _ _ _ _ 0 (by omega))) ?_
        refine c_q rfl (by first | exact hs | exact hs.subl | exact hs.cellAt rfl | trivial) (fun _ _ _ h => h) (fun w hs => by exact y_mv_ptr rfl) ?_
        refine c_q rfl (by first | exact hs | exact hs.subl | exact hs.cellAt rfl | trivial) (fun _ _ _ h => h) (fun w hs => by first | exact y_nil rfl | exact y_nilf rfl) ?_
        refine c_q rfl (by first | exact hs | exact hs.subl | exact hs.cellAt rfl | trivial) (fun _ _ _ h => h) (fun w hs => by exact y_field rfl) ?_
        refine c_q rfl (by first | exact hs | exact hs.subl | exact hs.cellAt rfl | trivial) (fun _ _ _ h => h) (fun w hs => by exact y_ld hs rfl rfl) ?_
        refine c_q rfl (by first | exact hs | exact hs.subl | exact hs.cellAt rfl | trivial) (fun _ _ _ h => h) (fun w hs => by exact y_muln rfl rfl (by omega)) ?_
        refine c_q rfl (by first | exact hs | exact hs.subl | exact hs.cellAt rfl | trivial) (fun _ _ _ h => h) (fun w hs => by first | exact y_addn rfl rfl (by omega) | exact y_add rfl rfl rfl) ?_
        refine c_q rfl (by first | exact hs | exact hs.subl | exact hs.cellAt rfl | trivial) (fun _ _ _ h => h) (fun w hs => by first | exact y_nil rfl | exact y_nilf rfl) ?_
        refine c_q rfl (by first | exact hs | exact hs.subl | exact hs.cellAt rfl | trivial) (fun _ _ _ h => h) (fun w hs => by exact y_field rfl) ?_
        refine c_w rfl (w_storeF (xs' := flat (pre ++ ⟨qw, dd, qo, sx :: r⟩ :: suf)) [_] hs hga rfl rfl rfl (flat_room _ _ _ _ 2 (by omega)) (flat_set _ _ _ _ _ 1 (by omega) _ (by rw [← hdd]; rfl)) (fun w hs => ?_))
        refine ⟨fun h => absurd rfl h, ?_⟩
        refine c_end ?_
        refine e_then ?_
        refine s_reg ?_
        refine l_q (by exact y_mv_ptr rfl) ?_
        refine l_q (by first | exact y_nil rfl | exact y_nilf rfl) ?_
        refine l_q (by exact y_field rfl) ?_
        refine l_w (w_store (v := .bool _) hs rfl rfl rfl rfl (fun w hs => ?_))
        refine l_end ?_
        refine e_then ?_
        refine s_seq ?_
        refine s_reg ?_
        refine l_q (by exact y_mv_ptr rfl) ?_
        refine l_q (by first | exact y_nil rfl | exact y_nilf rfl) ?_
        refine l_q (by exact y_field rfl) ?_
        refine l_q (by exact y_ld (v := .slice qo.ad (sx :: r).length qo.cap) hs rfl (flat_get _ _ _ _ 2 (by omega))) ?_
        refine l_q (by exact y_indexT (off := 0) rfl rfl (by omega) (by omega) hqad (by omega)) ?_
        refine l_q (by exact y_ld (v := .string sx) hs rfl rfl) ?_
        refine l_q (by exact y_as_str rfl) ?_
        refine l_end ?_
        refine e_then ?_
        refine s_seq ?_
        refine s_seq ?_
        refine s_reg ?_
        refine l_q (by exact y_mv_str rfl) ?_
        refine l_q (by exact y_len_str rfl) ?_
        refine l_q (by exact y_mv_ptr rfl) ?_
        refine l_q (by first | exact y_nil rfl | exact y_nilf rfl) ?_
        refine l_q (by exact y_field rfl) ?_
        refine l_q (by exact y_ld (v := .int .i64 dd) hs rfl (flat_get _ _ _ _ 1 (by omega))) ?_
        refine l_q (by first | exact y_gtr rfl rfl (decide_eq_true (by omega)) | exact y_gtr rfl rfl (decide_eq_false (by omega)) | exact y_gtr rfl rfl rfl) ?_
        refine l_end ?_
        refine e_then ?_
        refine cond_t rfl ?_
        refine s_seq ?_
        refine s_reg ?_
        refine l_q (by exact y_mv_ptr rfl) ?_
        refine l_w (w_call rfl (leave_l (up_ok (q' := ⟨qw, dd, qo, sx :: r⟩) (p := true) hok hq hqok) (unfoc hq hs)) rfl (fun _ w h => ?_))
        obtain ⟨rfl, hs⟩ := h
        refine l_end ?_
        refine e_then ?_
        refine s_exit ?_
        refine e_then_x ?_
        refine e_blk_x ?_
        refine e_then ?_
        exact ⟨(k, (y.up pre ⟨qw, dd, qo, sx :: r⟩ suf true).lv), _, nx ⟨rfl, trivial⟩, ⟨hs, rfl, lv_ok (up_ok hok hq hqok), by rw [lv_abs, up_abs hq hi]; have h := wf_short hwf hg rfl (by rw [hpay]; exact hd); rw [hpay] at h; exact h, by rw [lv_abs, up_abs hq hi]; exact hr⟩, by dsimp only; omega⟩
      · by_cases hr0 : r.length = 0
        · have hr1 := List.length_eq_zero_iff.1 hr0
          rw [takeF_last hg (by rw [hr1]; rfl) (by rw [hpay]; exact hd)] at hr
          simp only [Option.some.injEq, Prod.mk.injEq] at hr
          obtain ⟨rfl, rfl, rfl⟩ := hr
          refine s_block ?_
          refine s_seq ?_
          refine r_dr (.q 0 (.q 1 (.q 2 (.q 3 (.q 4 (.q 5 (.q 6 (.q 7 (.q 8 (.q 9 (.nil))))))))))) 9 hs mixed (by kernel_rfl) (fun hs => ?_)
          refine c_q rfl (by first | exact hs | exact hs.subl | exact hs.cellAt rfl | trivial) (fun _ _ _ h => h) (fun w hs => by exact y_mv_ptr rfl) ?_
          refine c_q rfl (by first | exact hs | exact hs.subl | exact hs.cellAt rfl | trivial) (fun _ _ _ h => h) (fun w hs => by first | exact y_nil rfl | exact y_nilf rfl) ?_
          refine c_q rfl (by first | exact hs | exact hs.subl | exact hs.cellAt rfl | trivial) (fun _ _ _ h => h) (fun w hs => by exact y_field rfl) ?_
          refine c_q rfl (by first | exact hs | exact hs.subl | exact hs.cellAt rfl | trivial) (fun _ _ _ h => h) (fun w hs => by exact y_ld hs rfl rfl) ?_
          refine c_q rfl (by first | exact hs | exact hs.subl | exact hs.cellAt rfl | trivial) (fun _ _ _ h => h) (fun w hs => by exact y_mv_ptr rfl) ?_
          refine c_q rfl (by first | exact hs | exact hs.subl | exact hs.cellAt rfl | trivial) (fun _ _ _ h => h) (fun w hs => by first | exact y_nil rfl | exact y_nilf rfl) ?_
          refine c_q rfl (by first | exact hs | exact hs.subl | exact hs.cellAt rfl | trivial) (fun _ _ _ h => h) (fun w hs => by exact y_field rfl) ?_
          refine c_q rfl (by first | exact hs | exact hs.subl | exact hs.cellAt rfl | trivial) (fun _ _ _ h => h) (fun w hs => by exact y_ld hs rfl rfl) ?_
          refine c_q rfl (by first | exact hs | exact hs.subl | exact hs.cellAt rfl | trivial) (fun _ _ _ h => h) (fun w hs => by exact y_indexT (off := 3 * pre.length) rfl rfl (by omega) (by omega) had (by omega)) ?_
          refine c_q rfl (by first | exact hs | exact hs.subl | exact hs.cellAt rfl | trivial) (fun _ _ _ h => h) (fun w hs => by exact y_as_ptr rfl) ?_
          refine c_end ?_
          refine e_then ?_
          refine s_seq ?_
          refine s_seq ?_
          refine s_reg ?_
          refine l_q (by exact y_mv_ptr rfl) ?_
          refine l_q (by first | exact y_nil rfl | exact y_nilf rfl) ?_
          refine l_q (by exact y_field rfl) ?_
          refine l_q (by exact y_ld hs rfl (flat_get _ _ _ _ 2 (by omega))) ?_
          refine l_q (by exact y_len_slice rfl) ?_
          refine l_q (by first | exact y_eql rfl rfl (decide_eq_true (by omega)) | exact y_eql rfl rfl (decide_eq_false (by omega)) | exact y_eql rfl rfl rfl) ?_
          refine l_end ?_
          refine e_then ?_
          refine cond_f rfl ?_
          refine s_skip ?_
          refine e_then ?_
          refine s_seq ?_
          refine s_seq ?_
          refine s_reg ?_
          refine l_q (by exact y_mv_ptr rfl) ?_
          refine l_q (by first | exact y_nil rfl | exact y_nilf rfl) ?_
          refine l_q (by exact y_field rfl) ?_
          refine l_q (by exact y_ld hs rfl rfl) ?_
          refine l_q (by first | exact y_not_t rfl | exact y_not_f rfl | exact y_notd rfl) ?_
          refine l_end ?_
          refine e_then ?_
          refine cond_t rfl ?_
          refine s_seq ?_
          refine r_dr (.q 0 (.q 1 (.q 2 (.q 3 (.q 4 (.q 5 (.q 6 (.q 7 (.q 8 (.q 9 (.q 10 (.q 11 (.q 12 (.q 13 (.q 14 (.q 15 (.w 16 (.nil)))))))))))))))))) 16 hs mixed (by kernel_rfl) (fun hs => ?_)
          refine c_q rfl (by first | exact hs | exact hs.subl | exact hs.cellAt rfl | trivial) (fun _ _ _ h => h) (fun w hs => by exact y_mv_ptr rfl) ?_
          refine c_q rfl (by first | exact hs | exact hs.subl | exact hs.cellAt rfl | trivial) (fun _ _ _ h => h) (fun w hs => by first | exact y_nil rfl | exact y_nilf rfl) ?_
          refine c_q rfl (by first | exact hs | exact hs.subl | exact hs.cellAt rfl | trivial) (fun _ _ _ h => h) (fun w hs => by exact y_field rfl) ?_
          refine c_q rfl (by first | exact hs | exact hs.subl | exact hs.cellAt rfl | trivial) (fun _ _ _ h => h) (fun w hs => by exact y_ld (v := .int .i64 qd) hs rfl (flat_get _ _ _ _ 1 (by omega))) ?_
          refine c_q rfl (by first | exact hs | exact hs.subl | exact hs.cellAt rfl | trivial) (fun _ _ _ h => h) (fun w hs => by exact y_mv_ptr rfl) ?_
          refine c_q rfl (by first | exact hs | exact hs.subl | exact hs.cellAt rfl | trivial) (fun _ _ _ h => h) (fun w hs => by first | exact y_nil rfl | exact y_nilf rfl) ?_
          refine c_q rfl (by first | exact hs | exact hs.subl | exact hs.cellAt rfl | trivial) (fun _ _ _ h => h) (fun w hs => by exact y_field rfl) ?_
          refine c_q rfl (by first | exact hs | exact hs.subl | exact hs.cellAt rfl | trivial) (fun _ _ _ h => h) (fun w hs => by exact y_ld (v := .int .i64 qw) hs rfl (flat_get _ _ _ _ 0 (by omega))) ?_
          refine c_q rfl (by first | exact hs | exact hs.subl | exact hs.cellAt rfl | trivial) (fun _ _ _ h => h) (fun w hs => by exact y_mv_ptr rfl) ?_
          refine c_q rfl (by first | exact hs | exact hs.subl | exact hs.cellAt rfl | trivial) (fun _ _ _ h => h) (fun w hs => by first | exact y_nil rfl | exact y_nilf rfl) ?_
          refine c_q rfl (by first | exact hs | exact hs.subl | exact hs.cellAt rfl | trivial) (fun _ _ _ h => h) (fun w hs => by exact y_field rfl) ?_
          refine c_q rfl (by first | exact hs | exact hs.subl | exact hs.cellAt rfl | trivial) (fun _ _ _ h => h) (fun w hs => by exact y_ld hs rfl rfl) ?_
          refine c_q rfl (by first | exact hs | exact hs.subl | exact hs.cellAt rfl | trivial) (fun _ _ _ h => h) (fun w hs => by exact y_muln rfl rfl (by omega)) ?_
          refine c_q rfl (by first | exact hs | exact hs.subl | exact hs.cellAt rfl | trivial) (fun _ _ _ h => h) (fun w hs => by first | exact y_addn rfl rfl (by omega) | exact y_add rfl rfl rfl) ?_
          refine c_q rfl (by first | exact hs | exact hs.subl | exact hs.cellAt rfl | trivial) (fun _ _ _ h => h) (fun w hs => by first | exact y_nil rfl | exact y_nilf rfl) ?_
          refine c_q rfl (by first | exact hs | exact hs.subl | exact hs.cellAt rfl | trivial) (fun _ _ _ h => h) (fun w hs => by exact y_field rfl) ?_
          refine c_w rfl (w_storeF (xs' := flat (pre ++ ⟨qw, dd, qo, sx :: r⟩ :: suf)) [_] hs hga rfl rfl rfl (flat_room _ _ _ _ 2 (by omega)) (flat_set _ _ _ _ _ 1 (by omega) _ (by rw [← hdd]; rfl)) (fun w hs => ?_))
          refine ⟨fun h => absurd rfl h, ?_⟩
          refine c_end ?_
          refine e_then ?_
          refine s_reg ?_
          refine l_q (by exact y_mv_ptr rfl) ?_
          refine l_q (by first | exact y_nil rfl | exact y_nilf rfl) ?_
          refine l_q (by exact y_field rfl) ?_
          refine l_w (w_store (v := .bool _) hs rfl rfl rfl rfl (fun w hs => ?_))
          refine l_end ?_
          refine e_then ?_
          refine s_seq ?_
          refine s_reg ?_
          refine l_q (by exact y_mv_ptr rfl) ?_
          refine l_q (by first | exact y_nil rfl | exact y_nilf rfl) ?_
          refine l_q (by exact y_field rfl) ?_
          refine l_q (by exact y_ld (v := .slice qo.ad (sx :: r).length qo.cap) hs rfl (flat_get _ _ _ _ 2 (by omega))) ?_
          refine l_q (by exact y_indexT (off := 0) rfl rfl (by omega) (by omega) hqad (by omega)) ?_
          refine l_q (by exact y_ld (v := .string sx) hs rfl rfl) ?_
          refine l_q (by exact y_as_str rfl) ?_
          refine l_end ?_
          refine e_then ?_
          refine s_seq ?_
          refine s_seq ?_
          refine s_reg ?_
          refine l_q (by exact y_mv_str rfl) ?_
          refine l_q (by exact y_len_str rfl) ?_
          refine l_q (by exact y_mv_ptr rfl) ?_
          refine l_q (by first | exact y_nil rfl | exact y_nilf rfl) ?_
          refine l_q (by exact y_field rfl) ?_
          refine l_q (by exact y_ld (v := .int .i64 dd) hs rfl (flat_get _ _ _ _ 1 (by omega))) ?_
          refine l_q (by first | exact y_gtr rfl rfl (decide_eq_true (by omega)) | exact y_gtr rfl rfl (decide_eq_false (by omega)) | exact y_gtr rfl rfl rfl) ?_
          refine l_end ?_
          refine e_then ?_
          refine cond_f rfl ?_
          refine s_skip ?_
          refine e_then ?_
          refine s_seq ?_
          refine s_reg ?_
          refine l_q (by exact y_mv_ptr rfl) ?_
          refine l_q (by first | exact y_nil rfl | exact y_nilf rfl) ?_
          refine l_q (by exact y_field rfl) ?_
          refine l_q (by exact y_ld hs rfl rfl) ?_
          refine l_q (by exact y_as_int rfl) ?_
          refine l_end ?_
          refine e_then ?_
          refine s_seq ?_
          refine s_reg ?_
          refine l_q (by exact y_mv_ptr rfl) ?_
          refine l_q (by first | exact y_nil rfl | exact y_nilf rfl) ?_
          refine l_q (by exact y_field rfl) ?_
          refine l_q (by exact y_ld (v := .int .i64 dd) hs rfl (flat_get _ _ _ _ 1 (by omega))) ?_
          refine l_q (by exact y_mv_str rfl) ?_
          refine l_q (by exact y_len_str rfl) ?_
          refine l_q (by first | exact y_subn rfl rfl (by omega) | exact y_sub rfl rfl rfl) ?_
          refine l_q (by first | exact y_nil rfl | exact y_nilf rfl) ?_
          refine l_q (by exact y_field rfl) ?_
          refine l_w (w_storeF (xs' := flat (pre ++ ⟨qw, dd - sx.size, qo, sx :: r⟩ :: suf)) [_] hs hga rfl rfl rfl (flat_room _ _ _ _ 2 (by omega)) (flat_set _ _ _ _ _ 1 (by omega) _ rfl) (fun w hs => ?_))
          refine l_end ?_
          refine e_then ?_
          refine s_seq ?_
          refine s_reg ?_
          refine l_q (by exact y_mv_ptr rfl) ?_
          refine l_q (by exact y_mv_ptr rfl) ?_
          refine l_q (by first | exact y_nil rfl | exact y_nilf rfl) ?_
          refine l_q (by exact y_field rfl) ?_
          refine l_q (by exact y_ld (v := .slice qo.ad (sx :: r).length qo.cap) hs rfl (flat_get _ _ _ _ 2 (by omega))) ?_
          refine l_q (by exact y_slice_loT (r := r.length) rfl rfl hqad (by decide) (by omega) rfl) ?_
          refine l_w (w_call rfl (clone_c (ws := r) (m := r.length) hs hzl hzs hrl) rfl (fun _ w h => ?_))
          obtain ⟨os', rfl, ok', hg', hs⟩ := h; have hs := after_clone hs
          refine l_q (by first | exact y_nil rfl | exact y_nilf rfl) ?_
          refine l_q (by exact y_field rfl) ?_
          refine l_w (w_storeF (xs' := flat (pre ++ ⟨qw, dd - sx.size, os', r⟩ :: suf)) [_] hs hga rfl rfl rfl (flat_room _ _ _ _ 3 (by omega)) (flat_set _ _ _ _ _ 2 (by omega) _ rfl) (fun w hs => ?_))
          refine l_end ?_
          refine e_then ?_
          refine s_seq ?_
          refine s_seq ?_
          refine s_reg ?_
          refine l_q (by exact y_mv_ptr rfl) ?_
          refine l_q (by first | exact y_nil rfl | exact y_nilf rfl) ?_
          refine l_q (by exact y_field rfl) ?_
          refine l_q (by exact y_ld (v := .slice os'.ad r.length os'.cap) hs rfl (flat_get _ _ _ _ 2 (by omega))) ?_
          refine l_q (by exact y_len_slice rfl) ?_
          refine l_q (by first | exact y_eql rfl rfl (decide_eq_true (by omega)) | exact y_eql rfl rfl (decide_eq_false (by omega)) | exact y_eql rfl rfl rfl) ?_
          refine l_end ?_
          refine e_then ?_
          refine cond_t rfl ?_
          refine s_seq ?_
          refine s_reg ?_
          refine l_q (by exact y_mv_ptr rfl) ?_
          refine l_q (by first | exact y_nil rfl | exact y_nilf rfl) ?_
          refine l_q (by exact y_field rfl) ?_
          refine l_w (w_storeF (xs' := flat (pre ++ ⟨qw, 0, os', r⟩ :: suf)) [_] hs hga rfl rfl rfl (flat_room _ _ _ _ 2 (by omega)) (flat_set _ _ _ _ _ 1 (by omega) _ rfl) (fun w hs => ?_))
          refine l_end ?_
          refine e_then ?_
          refine s_reg ?_
          refine l_q (by exact y_mv_ptr rfl) ?_
          refine l_w (w_call rfl (leave_l (up_ok (q' := ⟨qw, 0, os', r⟩) (p := true) hok hq ok') (unfoc hq hs)) rfl (fun _ w h => ?_))
          obtain ⟨rfl, hs⟩ := h
          refine l_end ?_
          refine e_then ?_
          refine s_seq ?_
          refine s_reg ?_
          refine l_q (by exact y_mv_int rfl) ?_
          refine l_q (by exact y_mv_str rfl) ?_
          refine l_q (by exact y_as_int rfl) ?_
          refine l_q (by exact y_as_str rfl) ?_
          refine l_q (by exact y_as_bool rfl) ?_
          refine l_end ?_
          refine e_then ?_
          refine s_ret ?_
          refine e_blk_r ?_
          refine e_then_r ?_
          refine e_blk_r ?_
          exact ret_ [.int .i64 _, .string _, .bool _] rfl ⟨rfl, rfl, rfl, trivial⟩ ⟨rfl, (y.up pre ⟨qw, 0, os', r⟩ suf true).lv, rfl, lv_ok (up_ok (q' := ⟨qw, 0, os', r⟩) (p := true) hok hq ok'), by rw [lv_abs, up_abs hq hi]; subst hr1; rfl, hs⟩
        · rw [takeF_more hg rfl (fun h => hr0 (by rw [h]; rfl)) (by rw [hpay]; exact hd), hpay] at hr
          simp only [Option.some.injEq, Prod.mk.injEq] at hr
          obtain ⟨rfl, rfl, rfl⟩ := hr
          refine s_block ?_
          refine s_seq ?_
          refine r_dr (.q 0 (.q 1 (.q 2 (.q 3 (.q 4 (.q 5 (.q 6 (.q 7 (.q 8 (.q 9 (.nil))))))))))) 9 hs mixed (by kernel_rfl) (fun hs => ?_)
          refine c_q rfl (by first | exact hs | exact hs.subl | exact hs.cellAt rfl | trivial) (fun _ _ _ h => h) (fun w hs => by exact y_mv_ptr rfl) ?_
          refine c_q rfl (by first | exact hs | exact hs.subl | exact hs.cellAt rfl | trivial) (fun _ _ _ h => h) (fun w hs => by first | exact y_nil rfl | exact y_nilf rfl) ?_
          refine c_q rfl (by first | exact hs | exact hs.subl | exact hs.cellAt rfl | trivial) (fun _ _ _ h => h) (fun w hs => by exact y_field rfl) ?_
          refine c_q rfl (by first | exact hs | exact hs.subl | exact hs.cellAt rfl | trivial) (fun _ _ _ h => h) (fun w hs => by exact y_ld hs rfl rfl) ?_
          refine c_q rfl (by first | exact hs | exact hs.subl | exact hs.cellAt rfl | trivial) (fun _ _ _ h => h) (fun w hs => by exact y_mv_ptr rfl) ?_
          refine c_q rfl (by first | exact hs | exact hs.subl | exact hs.cellAt rfl | trivial) (fun _ _ _ h => h) (fun w hs => by first | exact y_nil rfl | exact y_nilf rfl) ?_
          refine c_q rfl (by first | exact hs | exact hs.subl | exact hs.cellAt rfl | trivial) (fun _ _ _ h => h) (fun w hs => by exact y_field rfl) ?_
          refine c_q rfl (by first | exact hs | exact hs.subl | exact hs.cellAt rfl | trivial) (fun _ _ _ h => h) (fun w hs => by exact y_ld hs rfl rfl) ?_
          refine c_q rfl (by first | exact hs | exact hs.subl | exact hs.cellAt rfl | trivial) (fun _ _ _ h => h) (fun w hs => by exact y_indexT (off := 3 * pre.length) rfl rfl (by omega) (by omega) had (by omega)) ?_
          refine c_q rfl (by first | exact hs | exact hs.subl | exact hs.cellAt rfl | trivial) (fun _ _ _ h => h) (fun w hs => by exact y_as_ptr rfl) ?_
          refine c_end ?_
          refine e_then ?_
          refine s_seq ?_
          refine s_seq ?_
          refine s_reg ?_
          refine l_q (by exact y_mv_ptr rfl) ?_
          refine l_q (by first | exact y_nil rfl | exact y_nilf rfl) ?_
          refine l_q (by exact y_field rfl) ?_
          refine l_q (by exact y_ld hs rfl (flat_get _ _ _ _ 2 (by omega))) ?_
          refine l_q (by exact y_len_slice rfl) ?_
          refine l_q (by first | exact y_eql rfl rfl (decide_eq_true (by omega)) | exact y_eql rfl rfl (decide_eq_false (by omega)) | exact y_eql rfl rfl rfl) ?_
          refine l_end ?_
          refine e_then ?_
          refine cond_f rfl ?_
          refine s_skip ?_
          refine e_then ?_
          refine s_seq ?_
          refine s_seq ?_
          refine s_reg ?_
          refine l_q (by exact y_mv_ptr rfl) ?_
          refine l_q (by first | exact y_nil rfl | exact y_nilf rfl) ?_
          refine l_q (by exact y_field rfl) ?_
          refine l_q (by exact y_ld hs rfl rfl) ?_
          refine l_q (by first | exact y_not_t rfl | exact y_not_f rfl | exact y_notd rfl) ?_
          refine l_end ?_
          refine e_then ?_
          refine cond_t rfl ?_
          refine s_seq ?_
          refine r_dr (.q 0 (.q 1 (.q 2 (.q 3 (.q 4 (.q 5 (.q 6 (.q 7 (.q 8 (.q 9 (.q 10 (.q 11 (.q 12 (.q 13 (.q 14 (.q 15 (.w 16 (.nil)))))))))))))))))) 16 hs mixed (by kernel_rfl) (fun hs => ?_)
          refine c_q rfl (by first | exact hs | exact hs.subl | exact hs.cellAt rfl | trivial) (fun _ _ _ h => h) (fun w hs => by exact y_mv_ptr rfl) ?_
          refine c_q rfl (by first | exact hs | exact hs.subl | exact hs.cellAt rfl | trivial) (fun _ _ _ h => h) (fun w hs => by first | exact y_nil rfl | exact y_nilf rfl) ?_
          refine c_q rfl (by first | exact hs | exact hs.subl | exact hs.cellAt rfl | trivial) (fun _ _ _ h => h) (fun w hs => by exact y_field rfl) ?_
          refine c_q rfl (by first | exact hs | exact hs.subl | exact hs.cellAt rfl | trivial) (fun _ _ _ h => h) (fun w hs => by exact y_ld (v := .int .i64 qd) hs rfl (flat_get _ _ _ _ 1 (by omega))) ?_
          refine c_q rfl (by first | exact hs | exact hs.subl | exact hs.cellAt rfl | trivial) (fun _ _ _ h => h) (fun w hs => by exact y_mv_ptr rfl) ?_
          refine c_q rfl (by first | exact hs | exact hs.subl | exact hs.cellAt rfl | trivial) (fun _ _ _ h => h) (fun w hs => by first | exact y_nil rfl | exact y_nilf rfl) ?_
          refine c_q rfl (by first | exact hs | exact hs.subl | exact hs.cellAt rfl | trivial) (fun _ _ _ h => h) (fun w hs => by exact y_field rfl) ?_
          refine c_q rfl (by first | exact hs | exact hs.subl | exact hs.cellAt rfl | trivial) (fun _ _ _ h => h) (fun w hs => by exact y_ld (v := .int .i64 qw) hs rfl (flat_get _ _ _ _ 0 (by omega))) ?_
          refine c_q rfl (by first | exact hs | exact hs.subl | exact hs.cellAt rfl | trivial) (fun _ _ _ h => h) (fun w hs => by exact y_mv_ptr rfl) ?_
          refine c_q rfl (by first | exact hs | exact hs.subl | exact hs.cellAt rfl | trivial) (fun _ _ _ h => h) (fun w hs => by first | exact y_nil rfl | exact y_nilf rfl) ?_
          refine c_q rfl (by first | exact hs | exact hs.subl | exact hs.cellAt rfl | trivial) (fun _ _ _ h => h) (fun w hs => by exact y_field rfl) ?_
          refine c_q rfl (by first | exact hs | exact hs.subl | exact hs.cellAt rfl | trivial) (fun _ _ _ h => h) (fun w hs => by exact y_ld hs rfl rfl) ?_
          refine c_q rfl (by first | exact hs | exact hs.subl | exact hs.cellAt rfl | trivial) (fun _ _ _ h => h) (fun w hs => by exact y_muln rfl rfl (by omega)) ?_
          refine c_q rfl (by first | exact hs | exact hs.subl | exact hs.cellAt rfl | trivial) (fun _ _ _ h => h) (fun w hs => by first | exact y_addn rfl rfl (by omega) | exact y_add rfl rfl rfl) ?_
          refine c_q rfl (by first | exact hs | exact hs.subl | exact hs.cellAt rfl | trivial) (fun _ _ _ h => h) (fun w hs => by first | exact y_nil rfl | exact y_nilf rfl) ?_
          refine c_q rfl (by first | exact hs | exact hs.subl | exact hs.cellAt rfl | trivial) (fun _ _ _ h => h) (fun w hs => by exact y_field rfl) ?_
          refine c_w rfl (w_storeF (xs' := flat (pre ++ ⟨qw, dd, qo, sx :: r⟩ :: suf)) [_] hs hga rfl rfl rfl (flat_room _ _ _ _ 2 (by omega)) (flat_set _ _ _ _ _ 1 (by omega) _ (by rw [← hdd]; rfl)) (fun w hs => ?_))
          refine ⟨fun h => absurd rfl h, ?_⟩
          refine c_end ?_
          refine e_then ?_
          refine s_reg ?_
          refine l_q (by exact y_mv_ptr rfl) ?_
          refine l_q (by first | exact y_nil rfl | exact y_nilf rfl) ?_
          refine l_q (by exact y_field rfl) ?_
          refine l_w (w_store (v := .bool _) hs rfl rfl rfl rfl (fun w hs => ?_))
          refine l_end ?_
          refine e_then ?_
          refine s_seq ?_
          refine s_reg ?_
          refine l_q (by exact y_mv_ptr rfl) ?_
          refine l_q (by first | exact y_nil rfl | exact y_nilf rfl) ?_
          refine l_q (by exact y_field rfl) ?_
          refine l_q (by exact y_ld (v := .slice qo.ad (sx :: r).length qo.cap) hs rfl (flat_get _ _ _ _ 2 (by omega))) ?_
          refine l_q (by exact y_indexT (off := 0) rfl rfl (by omega) (by omega) hqad (by omega)) ?_
          refine l_q (by exact y_ld (v := .string sx) hs rfl rfl) ?_
          refine l_q (by exact y_as_str rfl) ?_
          refine l_end ?_
          refine e_then ?_
          refine s_seq ?_
          refine s_seq ?_
          refine s_reg ?_
          refine l_q (by exact y_mv_str rfl) ?_
          refine l_q (by exact y_len_str rfl) ?_
          refine l_q (by exact y_mv_ptr rfl) ?_
          refine l_q (by first | exact y_nil rfl | exact y_nilf rfl) ?_
          refine l_q (by exact y_field rfl) ?_
          refine l_q (by exact y_ld (v := .int .i64 dd) hs rfl (flat_get _ _ _ _ 1 (by omega))) ?_
          refine l_q (by first | exact y_gtr rfl rfl (decide_eq_true (by omega)) | exact y_gtr rfl rfl (decide_eq_false (by omega)) | exact y_gtr rfl rfl rfl) ?_
          refine l_end ?_
          refine e_then ?_
          refine cond_f rfl ?_
          refine s_skip ?_
          refine e_then ?_
          refine s_seq ?_
          refine s_reg ?_
          refine l_q (by exact y_mv_ptr rfl) ?_
          refine l_q (by first | exact y_nil rfl | exact y_nilf rfl) ?_
          refine l_q (by exact y_field rfl) ?_
          refine l_q (by exact y_ld hs rfl rfl) ?_
          refine l_q (by exact y_as_int rfl) ?_
          refine l_end ?_
          refine e_then ?_
          refine s_seq ?_
          refine s_reg ?_
          refine l_q (by exact y_mv_ptr rfl) ?_
          refine l_q (by first | exact y_nil rfl | exact y_nilf rfl) ?_
          refine l_q (by exact y_field rfl) ?_
          refine l_q (by exact y_ld (v := .int .i64 dd) hs rfl (flat_get _ _ _ _ 1 (by omega))) ?_
          refine l_q (by exact y_mv_str rfl) ?_
          refine l_q (by exact y_len_str rfl) ?_
          refine l_q (by first | exact y_subn rfl rfl (by omega) | exact y_sub rfl rfl rfl) ?_
          refine l_q (by first | exact y_nil rfl | exact y_nilf rfl) ?_
          refine l_q (by exact y_field rfl) ?_
          refine l_w (w_storeF (xs' := flat (pre ++ ⟨qw, dd - sx.size, qo, sx :: r⟩ :: suf)) [_] hs hga rfl rfl rfl (flat_room _ _ _ _ 2 (by omega)) (flat_set _ _ _ _ _ 1 (by omega) _ rfl) (fun w hs => ?_))
          refine l_end ?_
          refine e_then ?_
          refine s_seq ?_
          refine s_reg ?_
          refine l_q (by exact y_mv_ptr rfl) ?_
          refine l_q (by exact y_mv_ptr rfl) ?_
          refine l_q (by first | exact y_nil rfl | exact y_nilf rfl) ?_
          refine l_q (by exact y_field rfl) ?_
          refine l_q (by exact y_ld (v := .slice qo.ad (sx :: r).length qo.cap) hs rfl (flat_get _ _ _ _ 2 (by omega))) ?_
          refine l_q (by exact y_slice_loT (r := r.length) rfl rfl hqad (by decide) (by omega) rfl) ?_
          refine l_w (w_call rfl (clone_c (ws := r) (m := r.length) hs hzl hzs hrl) rfl (fun _ w h => ?_))
          obtain ⟨os', rfl, ok', hg', hs⟩ := h; have hs := after_clone hs
          refine l_q (by first | exact y_nil rfl | exact y_nilf rfl) ?_
          refine l_q (by exact y_field rfl) ?_
          refine l_w (w_storeF (xs' := flat (pre ++ ⟨qw, dd - sx.size, os', r⟩ :: suf)) [_] hs hga rfl rfl rfl (flat_room _ _ _ _ 3 (by omega)) (flat_set _ _ _ _ _ 2 (by omega) _ rfl) (fun w hs => ?_))
          refine l_end ?_
          refine e_then ?_
          refine s_seq ?_
          refine s_seq ?_
          refine s_reg ?_
          refine l_q (by exact y_mv_ptr rfl) ?_
          refine l_q (by first | exact y_nil rfl | exact y_nilf rfl) ?_
          refine l_q (by exact y_field rfl) ?_
          refine l_q (by exact y_ld (v := .slice os'.ad r.length os'.cap) hs rfl (flat_get _ _ _ _ 2 (by omega))) ?_
          refine l_q (by exact y_len_slice rfl) ?_
          refine l_q (by first | exact y_eql rfl rfl (decide_eq_true (by omega)) | exact y_eql rfl rfl (decide_eq_false (by omega)) | exact y_eql rfl rfl rfl) ?_
          refine l_end ?_
          refine e_then ?_
          refine cond_f rfl ?_
          refine s_skip ?_
          refine e_then ?_
          refine s_seq ?_
          refine s_reg ?_
          refine l_q (by exact y_mv_int rfl) ?_
          refine l_q (by exact y_mv_str rfl) ?_
          refine l_q (by exact y_as_int rfl) ?_
          refine l_q (by exact y_as_str rfl) ?_
          refine l_q (by exact y_as_bool rfl) ?_
          refine l_end ?_
          refine e_then ?_
          refine s_ret ?_
          refine e_blk_r ?_
          refine e_then_r ?_
          refine e_blk_r ?_
          exact ret_ [.int .i64 _, .string _, .bool _] rfl ⟨rfl, rfl, rfl, trivial⟩ ⟨rfl, y.up pre ⟨qw, dd - sx.size, os', r⟩ suf true, rfl, up_ok (q' := ⟨qw, dd - sx.size, os', r⟩) (p := true) hok hq ok', by rw [up_abs hq hi]; rfl, unfoc hq hs⟩
end Go.Proofs.Ytohomijijipfdaa
