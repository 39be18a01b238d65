/- Facts on the functions and types of this seat that its laws are proved from: contracts under the premises that each theorem names. -/
import Derived.Test.YtohomijijipfdaaFtn
set_option linter.unusedSimpArgs false
set_option linter.unusedVariables false
set_option linter.unnecessarySimpa false
namespace Go.Proofs.Ytohomijijipfdaa
open Go Go.RowKit PB
set_option linter.unusedVariables false

/-- A queue as the law keeps it. -/
structure WE where
  ot : OT
  ws : List ByteArray
def WE.val (e : WE) : Value := .slice e.ot.ad e.ws.length e.ot.cap
def WE.blk (e : WE) : List (Nat × MObj) := e.ot.blk (e.ws.map Str) 9
def valsW (wes : List WE) : List Value := wes.map WE.val
def blksW (wes : List WE) : List (Nat × MObj) := wes.flatMap WE.blk

/-- The law's variables. -/
structure Fx where
  b13 : Nat
  b12 : Nat
  b41 : Nat
  b10 : Nat
  b9 : Nat
  n : Nat
  sad : Option Addr
  scap : Nat
  qb : Nat
abbrev Fx.bx (F : Fx) (many : Nat) (vals : List Value) (T : List (Nat × MObj)) : List (Nat × MObj) :=
  (F.b13, .cells [I64 many] 3) :: (F.b12, .cells [.slice (some ⟨F.b41, 0, none⟩) F.n F.n] 31) :: (F.b41, .cells vals 23) :: (F.b10, .cells [.pointer (some ⟨F.qb, 0, none⟩)] 25) :: (F.b9, .cells [.slice F.sad F.n F.scap] 22) :: T

structure Inv (F : Fx) (x : QI) (wes : List WE) (many : Nat) : Prop where
  qb : x.qb = F.qb
  ok : x.ok
  wf : x.abs.wf
  nE : wes.length = F.n
  n1 : 1 ≤ F.n
  n8 : F.n ≤ 8
  same : wss x.abs = wes.map WE.ws
  each : ∀ e ∈ wes, e.ot.ok (e.ws.map Str) e.ws.length 1
  manyE : many = (wes.map fun e => e.ws.length).sum
  m60 : many ≤ 60

theorem valsW_get (pre suf : List WE) (e : WE) : (valsW (pre ++ e :: suf))[pre.length]? = some e.val := by simp [valsW]
theorem valsW_set (pre suf : List WE) (e e' : WE) : (valsW (pre ++ e :: suf)).set pre.length e'.val = valsW (pre ++ e' :: suf) := by
  simp only [valsW, List.map_append, List.map_cons]
  rw [List.set_append_right _ _ (by simp)]
  simp
theorem valsW_len (l : List WE) : (valsW l).length = l.length := by simp [valsW]
theorem blksW_mem {pre suf : List WE} {e : WE} {g : Nat} (h : e.ot.a = some g) : InL g (.cells (e.ot.pre ++ (e.ws.map Str ++ e.ot.sp)) 9) (blksW (pre ++ e :: suf)) := by
  constructor
  simp only [blksW, List.flatMap_append, List.flatMap_cons, List.mem_append]
  exact .inr (.inl (by simp [WE.blk, OT.blk, h]))
theorem blksW_perm (pre suf : List WE) (e : WE) (T : List (Nat × MObj)) : (blksW (pre ++ e :: suf) ++ T).Perm (e.blk ++ (blksW (pre ++ suf) ++ T)) := by
  simp only [blksW, List.flatMap_append, List.flatMap_cons, List.append_assoc]
  exact List.perm_append_comm_assoc _ _ _
theorem L_out (x : QI) (A T : List (Nat × MObj)) : (x.L (A ++ T)).Perm (A ++ x.L T) := by
  unfold QI.L
  refine List.Perm.trans (List.Perm.cons _ ?_) List.perm_middle.symm
  refine List.Perm.trans (List.Perm.append_left _ (List.perm_append_comm_assoc _ _ _)) ?_
  exact List.perm_append_comm_assoc _ _ _
theorem L_perm {x : QI} {R R' : List (Nat × MObj)} (h : R.Perm R') : (x.L R).Perm (x.L R') := by
  unfold QI.L
  exact List.Perm.cons _ (List.Perm.append_left _ (List.Perm.append_left _ h))

section
variable {F : Fx} {x : QI} {pre suf : List WE} {e : WE} {T : List (Nat × MObj)} {W0 w : World} {m : Nat} {v : List Value}
theorem toFront (hs : St W0 w (x.L (F.bx m v (blksW (pre ++ e :: suf) ++ T)))) : St W0 w (F.bx m v (e.ot.blk (e.ws.map Str) 9 ++ (blksW (pre ++ suf) ++ x.L T))) := by
  have h1 := hs.perm (L_perm (x := x) (List.Perm.append_left [_, _, _, _, _] (blksW_perm pre suf e T)))
  have h2 := h1.perm (L_out x ([_, _, _, _, _] ++ (e.blk ++ blksW (pre ++ suf))) T |> fun h => by simpa using h)
  simpa [WE.blk] using h2
theorem fromFront (hs : St W0 w (F.bx m v (e.ot.blk (e.ws.map Str) 9 ++ (blksW (pre ++ suf) ++ x.L T)))) : St W0 w (x.L (F.bx m v (blksW (pre ++ e :: suf) ++ T))) := by
  refine hs.perm ?_
  refine List.Perm.trans ?_ (L_perm (x := x) (List.Perm.append_left [_, _, _, _, _] (blksW_perm pre suf e T).symm))
  refine List.Perm.trans ?_ (L_out x ([_, _, _, _, _] ++ (e.blk ++ blksW (pre ++ suf))) T |> fun h => by simpa using h.symm)
  simp [WE.blk]
end

theorem sum_mid (pre suf : List WE) (e : WE) : ((pre ++ e :: suf).map fun e => e.ws.length).sum = e.ws.length + ((pre ++ suf).map fun e => e.ws.length).sum := by simp; omega

theorem sum0 : ∀ (wes : List WE), (∀ e ∈ wes, e.ws.length = 0) → (wes.map fun e => e.ws.length).sum = 0
  | [], _ => rfl
  | e :: wes, h => by
    have h1 := h e (by simp)
    have h2 := sum0 wes (fun e he => h e (by simp [he]))
    simp only [List.map_cons, List.sum_cons]
    omega
theorem sum0' : ∀ (wes : List WE), (wes.map fun e => e.ws.length).sum = 0 → ∀ e ∈ wes, e.ws = []
  | e :: wes, h, z, hz => by
    simp only [List.map_cons, List.sum_cons] at h
    rcases List.mem_cons.1 hz with rfl | hz
    · exact List.length_eq_zero_iff.1 (by omega)
    · exact sum0' wes (by omega) z hz

theorem split_at' {α : Type} {l : List α} {i : Nat} (h : i < l.length) : ∃ pre q suf, l = pre ++ q :: suf ∧ pre.length = i :=
  ⟨l.take i, l[i], l.drop (i + 1), by simp, by simp; omega⟩

theorem inv_split {F : Fx} {x : QI} {wes : List WE} {many : Nat} (h : Inv F x wes many) {i : Nat} {l : List ByteArray} (hi : (wss x.abs)[i]? = some l) : ∃ pre e suf, wes = pre ++ e :: suf ∧ pre.length = i ∧ e.ws = l := by
  rw [h.same] at hi
  have hl : i < wes.length := by
    have := (List.getElem?_eq_some_iff.1 hi).1
    simpa using this
  obtain ⟨pre, e, suf, rfl, rfl⟩ := split_at' hl
  simp at hi
  exact ⟨pre, e, suf, rfl, rfl, hi⟩

theorem inv_set {F : Fx} {x x' : QI} {pre suf : List WE} {e e' : WE} {many m' : Nat} (h : Inv F x (pre ++ e :: suf) many) (hqb : x'.qb = F.qb) (hok : x'.ok) (hwf : x'.abs.wf) (hw : wss x'.abs = (wss x.abs).set pre.length e'.ws) (he : e'.ot.ok (e'.ws.map Str) e'.ws.length 1)
    (hm : m' + e.ws.length = many + e'.ws.length) (h60 : m' ≤ 60) : Inv F x' (pre ++ e' :: suf) m' := by
  refine ⟨hqb, hok, hwf, by have := h.nE; simpa using this, h.n1, h.n8, ?_, ?_, ?_, h60⟩
  · rw [hw, h.same]
    simp only [List.map_append, List.map_cons]
    rw [List.set_append_right _ _ (by simp)]
    simp
  · intro z hz
    have h2 := h.each
    simp only [List.mem_append, List.mem_cons] at hz h2
    rcases hz with hz | rfl | hz
    · exact h2 z (.inl hz)
    · exact he
    · exact h2 z (.inr (.inr hz))
  · have h1 := h.manyE
    rw [sum_mid] at h1 ⊢
    omega


theorem closure_take {W0 w : World} {T : List (Nat × MObj)} {F : Fx} {x : QI} {wes : List WE} {many : Nat} (hi : Inv F x wes (many + 1)) (hs : St W0 w (x.L (F.bx (many + 1) (valsW wes) (blksW wes ++ T)))) :
    FnC Try.prog 11 [.pointer (some ⟨F.b10, 0, none⟩), .pointer (some ⟨F.b13, 0, none⟩), .pointer (some ⟨F.b9, 0, none⟩), .pointer (some ⟨F.b12, 0, none⟩)] w
      (fun v w' => v = .bool true ∧ ∃ x' wes', Inv F x' wes' many ∧ St W0 w' (x'.L (F.bx many (valsW wes') (blksW wes' ++ T)))) := by
  have hne : ∃ q ∈ x.abs.qs, q.ws ≠ [] := by
    refine Classical.byContradiction fun hc => ?_
    have h0 : ∀ e ∈ wes, e.ws.length = 0 := by
      intro e he
      have h1 : e.ws ∈ wss x.abs := by rw [hi.same]; exact List.mem_map_of_mem he
      simp only [wss, List.mem_map] at h1
      obtain ⟨q, hq, hqe⟩ := h1
      rw [← hqe]
      have : ¬ q.ws ≠ [] := fun h => hc ⟨q, hq, h⟩
      simp at this
      rw [this]; rfl
    have h1 := sum0 wes h0
    have := hi.manyE
    omega
  obtain ⟨k, i, sx, a', htk⟩ := take_found hi.wf hne
  obtain ⟨r, hr1, hr2⟩ := takeF_ws k htk
  obtain ⟨pre, e, suf, rfl, rfl, hew⟩ := inv_split hi hr1
  obtain ⟨ot, ws⟩ := e
  dsimp only at hew
  subst hew
  have hoe : ot.ok ((sx :: r).map Str) (r.length + 1) 1 := hi.each ⟨ot, sx :: r⟩ (by simp)
  obtain ⟨g, hg⟩ : ∃ g, ot.a = some g := by
    cases h : ot.a with
    | none => have := hoe.nil_ h; omega
    | some g => exact ⟨g, rfl⟩
  have had : ot.ad = some ⟨g, ot.pre.length, none⟩ := by simp [OT.ad, hg]
  haveI : InL g (.cells (ot.pre ++ ((sx :: r).map Str ++ ot.sp)) 9) (blksW (pre ++ ⟨ot, sx :: r⟩ :: suf)) := blksW_mem (e := ⟨ot, sx :: r⟩) hg
  have hn := hi.nE
  have hn' : pre.length < F.n := by rw [← hn]; simp
  have hnl : pre.length < (pre ++ (⟨ot, sx :: r⟩ : WE) :: suf).length := by simp
  have hm60 := hi.m60
  have h8 := hi.n8
  refine FnC.enter Try.func11 rfl Try.ntmps11 rfl fun ρ => ?_
  refine s_seq ?_
  refine s_reg ?_
  refine l_q (by exact y_as_bool rfl) ?_
  refine l_end ?_
  refine e_then ?_
  refine s_seq ?_
  refine s_reg ?_
  refine l_q (by exact y_ld hs rfl rfl) ?_
  refine l_w (w_call rfl (take_b hi.qb hi.ok hi.wf htk hs) rfl (fun _ w h => ?_))
  obtain ⟨rfl, x', hqb', hok', habs', hs⟩ := h
  refine l_q (by exact y_mv_tuple rfl) ?_
  refine l_q (by exact y_extract rfl rfl) ?_
  refine l_q (by exact y_extract rfl rfl) ?_
  refine l_q (by exact y_extract rfl rfl) ?_
  refine l_q (by exact y_as_int rfl) ?_
  refine l_q (by exact y_as_str rfl) ?_
  refine l_q (by exact y_as_bool rfl) ?_
  refine l_end ?_
  refine e_then ?_
  refine s_seq ?_
  refine s_seq ?_
  refine s_reg ?_
  refine l_q (by exact y_mv_bool rfl) ?_
  refine l_q (by exact y_ld hs rfl rfl) ?_
  refine l_q (by first | exact y_gtr rfl rfl (decide_eq_true (by omega)) | exact y_gtr rfl rfl (decide_eq_false (by omega)) | exact y_gtr rfl rfl rfl) ?_
  refine l_q (by exact y_bool_neq rfl rfl rfl) ?_
  refine l_q (by exact y_mv_bool rfl) ?_
  first | refine l_gskip rfl rfl ?_ | refine l_gskip_u rfl rfl ?_ | refine l_gdo rfl rfl (by exact y_mv_bool rfl) ?_
  first | refine l_gskip rfl rfl ?_ | refine l_gskip_u rfl rfl ?_ | refine l_gdo rfl rfl (by first | exact y_not_t rfl | exact y_not_f rfl | exact y_notd rfl) ?_
  refine l_q (by first | exact y_pk_bt rfl rfl | exact y_pk_bf rfl rfl) ?_
  refine l_end ?_
  refine e_then ?_
  refine cond_f rfl ?_
  refine s_skip ?_
  refine e_then ?_
  refine s_seq ?_
  refine s_seq ?_
  refine s_reg ?_
  refine l_q (by exact y_mv_int rfl) ?_
  refine l_q (by first | exact y_lss rfl rfl (decide_eq_true (by omega)) | exact y_lss rfl rfl (decide_eq_false (by omega)) | exact y_lss rfl rfl rfl) ?_
  refine l_q (by exact y_mv_bool rfl) ?_
  first | refine l_gskip rfl rfl ?_ | refine l_gskip_u rfl rfl ?_ | refine l_gdo rfl rfl (by exact y_mv_int rfl) ?_
  first | refine l_gskip rfl rfl ?_ | refine l_gskip_u rfl rfl ?_ | refine l_gdo rfl rfl (by exact y_ld hs rfl rfl) ?_
  first | refine l_gskip rfl rfl ?_ | refine l_gskip_u rfl rfl ?_ | refine l_gdo rfl rfl (by exact y_len_slice rfl) ?_
  first | refine l_gskip rfl rfl ?_ | refine l_gskip_u rfl rfl ?_ | refine l_gdo rfl rfl (by first | exact y_geq rfl rfl (decide_eq_true (by omega)) | exact y_geq rfl rfl (decide_eq_false (by omega)) | exact y_geq rfl rfl rfl) ?_
  refine l_q (by first | exact y_pk_bt rfl rfl | exact y_pk_bf rfl rfl) ?_
  refine l_q (by exact y_mv_bool rfl) ?_
  first | refine l_gskip rfl rfl ?_ | refine l_gskip_u rfl rfl ?_ | refine l_gdo rfl rfl (by exact y_ld hs rfl rfl) ?_
  first | refine l_gskip rfl rfl ?_ | refine l_gskip_u rfl rfl ?_ | refine l_gdo rfl rfl (by exact y_mv_int rfl) ?_
  first | refine l_gskip rfl rfl ?_ | refine l_gskip_u rfl rfl ?_ | refine l_gdo rfl rfl (by exact y_indexT (off := pre.length) rfl rfl (by omega) (by omega) rfl (by omega)) ?_
  first | refine l_gskip rfl rfl ?_ | refine l_gskip_u rfl rfl ?_ | refine l_gdo rfl rfl (by exact y_ld (v := .slice ot.ad (r.length + 1) ot.cap) hs rfl (valsW_get _ _ _)) ?_
  first | refine l_gskip rfl rfl ?_ | refine l_gskip_u rfl rfl ?_ | refine l_gdo rfl rfl (by exact y_len_slice rfl) ?_
  first | refine l_gskip rfl rfl ?_ | refine l_gskip_u rfl rfl ?_ | refine l_gdo rfl rfl (by first | exact y_eql rfl rfl (decide_eq_true (by omega)) | exact y_eql rfl rfl (decide_eq_false (by omega)) | exact y_eql rfl rfl rfl) ?_
  refine l_q (by first | exact y_pk_bt rfl rfl | exact y_pk_bf rfl rfl) ?_
  refine l_q (by exact y_mv_bool rfl) ?_
  first | refine l_gskip rfl rfl ?_ | refine l_gskip_u rfl rfl ?_ | refine l_gdo rfl rfl (by exact y_ld hs rfl rfl) ?_
  first | refine l_gskip rfl rfl ?_ | refine l_gskip_u rfl rfl ?_ | refine l_gdo rfl rfl (by exact y_mv_int rfl) ?_
  first | refine l_gskip rfl rfl ?_ | refine l_gskip_u rfl rfl ?_ | refine l_gdo rfl rfl (by exact y_indexT (off := pre.length) rfl rfl (by omega) (by omega) rfl (by omega)) ?_
  first | refine l_gskip rfl rfl ?_ | refine l_gskip_u rfl rfl ?_ | refine l_gdo rfl rfl (by exact y_ld (v := .slice ot.ad (r.length + 1) ot.cap) hs rfl (valsW_get _ _ _)) ?_
  first | refine l_gskip rfl rfl ?_ | refine l_gskip_u rfl rfl ?_ | refine l_gdo rfl rfl (by exact y_indexT (off := ot.pre.length) rfl rfl (by omega) (by omega) had (by omega)) ?_
  first | refine l_gskip rfl rfl ?_ | refine l_gskip_u rfl rfl ?_ | refine l_gdo rfl rfl (by exact y_ld (v := .string sx) hs rfl (by simp)) ?_
  first | refine l_gskip rfl rfl ?_ | refine l_gskip_u rfl rfl ?_ | refine l_gdo rfl rfl (by exact y_mv_str rfl) ?_
  first | refine l_gskip rfl rfl ?_ | refine l_gskip_u rfl rfl ?_ | refine l_gdo rfl rfl (by exact y_str_ne (r := false) rfl rfl (by simp)) ?_
  refine l_q (by first | exact y_pk_bt rfl rfl | exact y_pk_bf rfl rfl) ?_
  refine l_end ?_
  refine e_then ?_
  refine cond_f rfl ?_
  refine s_skip ?_
  refine e_then ?_
  refine s_seq ?_
  refine r_dr (.q 0 (.q 1 (.q 2 (.q 3 (.q 4 (.q 5 (.q 6 (.q 7 (.w 8 (.nil)))))))))) 8 hs mixed (by kernel_rfl) (fun hs => ?_)
  refine c_q rfl (by first | exact hs | exact hs.subl | exact hs.cellAt rfl | trivial) (fun _ _ _ h => h) (fun w hs => by exact y_ld hs rfl rfl) ?_
  refine c_q rfl (by first | exact hs | exact hs.subl | exact hs.cellAt rfl | trivial) (fun _ _ _ h => h) (fun w hs => by exact y_mv_int rfl) ?_
  refine c_q rfl (by first | exact hs | exact hs.subl | exact hs.cellAt rfl | trivial) (fun _ _ _ h => h) (fun w hs => by exact y_ld hs rfl rfl) ?_
  refine c_q rfl (by first | exact hs | exact hs.subl | exact hs.cellAt rfl | trivial) (fun _ _ _ h => h) (fun w hs => by exact y_mv_int rfl) ?_
  refine c_q rfl (by first | exact hs | exact hs.subl | exact hs.cellAt rfl | trivial) (fun _ _ _ h => h) (fun w hs => by exact y_indexT (off := pre.length) rfl rfl (by omega) (by omega) rfl (by omega)) ?_
  refine c_q rfl (by first | exact hs | exact hs.subl | exact hs.cellAt rfl | trivial) (fun _ _ _ h => h) (fun w hs => by exact y_ld (v := .slice ot.ad (r.length + 1) ot.cap) hs rfl (valsW_get _ _ _)) ?_
  refine c_q rfl (by first | exact hs | exact hs.subl | exact hs.cellAt rfl | trivial) (fun _ _ _ h => h) (fun w hs => by exact y_sliceT (s := ot) (m := r.length) (x0 := Str sx) rfl rfl ⟨g, hg⟩) ?_
  refine c_q rfl (by first | exact hs | exact hs.subl | exact hs.cellAt rfl | trivial) (fun _ _ _ h => h) (fun w hs => by exact y_indexT (off := pre.length) rfl rfl (by omega) (by omega) rfl (by omega)) ?_
  refine c_w rfl (w_store (v := .slice (ot.tl (Str sx)).ad r.length (ot.tl (Str sx)).cap) (off := pre.length) hs rfl rfl rfl (by rw [Nat.blt_eq, valsW_len]; omega) (fun w hs => ?_))
  refine ⟨fun h => absurd rfl h, ?_⟩
  refine c_end ?_
  refine e_then ?_
  refine s_seq ?_
  refine s_reg ?_
  refine l_q (by exact y_ld hs rfl rfl) ?_
  refine l_q (by exact y_toI (b := ((many : Nat) : Int)) (y_subn rfl rfl (by omega)) (by omega)) ?_
  refine l_w (w_store (v := .int .i64 _) hs rfl rfl rfl rfl (fun w hs => ?_))
  refine l_end ?_
  refine e_then ?_
  refine s_seq ?_
  refine s_reg ?_
  refine l_q (by exact y_as_bool rfl) ?_
  refine l_end ?_
  refine e_then ?_
  refine s_ret ?_
  have hwf' : x'.abs.wf := by rw [habs']; exact takeF_wf k hi.wf htk
  have hok2 := OT.tl_ok (x := Str sx) (xs := r.map Str) (len := r.length) hoe
  refine ret_ [.bool _] rfl ⟨rfl, trivial⟩ ⟨rfl, x', pre ++ ⟨ot.tl (Str sx), r⟩ :: suf, inv_set (e' := ⟨ot.tl (Str sx), r⟩) hi hqb' hok' hwf' (by rw [habs']; exact hr2) hok2 (by simp only [List.length_cons]; omega) (by omega), ?_⟩
  have e1 := valsW_set pre suf ⟨ot, sx :: r⟩ ⟨ot.tl (Str sx), r⟩
  have e2 : blksW (pre ++ ⟨ot.tl (Str sx), r⟩ :: suf) = blksW (pre ++ ⟨ot, sx :: r⟩ :: suf) := by
    simp only [blksW, List.flatMap_append, List.flatMap_cons]
    congr 2
    simp only [WE.blk]
    refine OT.tl_blk ot (Str sx) (r.map Str) (fun hc => ?_) 9
    have := hoe.cap_
    rw [List.length_eq_zero_iff.1 (show r.length = 0 by omega)]; rfl
  rw [e2, ← e1]
  exact hs


theorem closure_none {W0 w : World} {T : List (Nat × MObj)} {F : Fx} {x : QI} {wes : List WE} (hi : Inv F x wes 0) (hs : St W0 w (x.L (F.bx 0 (valsW wes) (blksW wes ++ T)))) :
    FnC Try.prog 11 [.pointer (some ⟨F.b10, 0, none⟩), .pointer (some ⟨F.b13, 0, none⟩), .pointer (some ⟨F.b9, 0, none⟩), .pointer (some ⟨F.b12, 0, none⟩)] w
      (fun v w' => v = .bool true ∧ St W0 w' (x.L (F.bx 0 (valsW wes) (blksW wes ++ T)))) := by
  have hnn : ∀ q ∈ x.abs.qs, q.ws = [] := by
    intro q hq
    have h1 : q.ws ∈ wss x.abs := List.mem_map_of_mem hq
    rw [hi.same, List.mem_map] at h1
    obtain ⟨e, he, hee⟩ := h1
    rw [← hee]
    exact sum0' wes hi.manyE.symm e he
  refine FnC.enter Try.func11 rfl Try.ntmps11 rfl fun ρ => ?_
  refine s_seq ?_
  refine s_reg ?_
  refine l_q (by exact y_as_bool rfl) ?_
  refine l_end ?_
  refine e_then ?_
  refine s_seq ?_
  refine s_reg ?_
  refine l_q (by exact y_ld hs rfl rfl) ?_
  refine l_w (w_call rfl (takeNone_b hi.qb hi.ok hnn hs) rfl (fun _ w h => ?_))
  obtain ⟨rfl, hs⟩ := h
  refine l_q (by exact y_mv_tuple rfl) ?_
  refine l_q (by exact y_extract rfl rfl) ?_
  refine l_q (by exact y_extract rfl rfl) ?_
  refine l_q (by exact y_extract rfl rfl) ?_
  refine l_q (by exact y_as_int rfl) ?_
  refine l_q (by exact y_as_str rfl) ?_
  refine l_q (by exact y_as_bool rfl) ?_
  refine l_end ?_
  refine e_then ?_
  refine s_seq ?_
  refine s_seq ?_
  refine s_reg ?_
  refine l_q (by exact y_mv_bool rfl) ?_
  refine l_q (by exact y_ld hs rfl rfl) ?_
  refine l_q (by first | exact y_gtr rfl rfl (decide_eq_true (by omega)) | exact y_gtr rfl rfl (decide_eq_false (by omega)) | exact y_gtr rfl rfl rfl) ?_
  refine l_q (by exact y_bool_neq rfl rfl rfl) ?_
  refine l_q (by exact y_mv_bool rfl) ?_
  first | refine l_gskip rfl rfl ?_ | refine l_gskip_u rfl rfl ?_ | refine l_gdo rfl rfl (by exact y_mv_bool rfl) ?_
  first | refine l_gskip rfl rfl ?_ | refine l_gskip_u rfl rfl ?_ | refine l_gdo rfl rfl (by first | exact y_not_t rfl | exact y_not_f rfl | exact y_notd rfl) ?_
  refine l_q (by first | exact y_pk_bt rfl rfl | exact y_pk_bf rfl rfl) ?_
  refine l_end ?_
  refine e_then ?_
  refine cond_t rfl ?_
  refine s_seq ?_
  refine s_reg ?_
  refine l_q (by exact y_mv_bool rfl) ?_
  refine l_q (by first | exact y_not_t rfl | exact y_not_f rfl | exact y_notd rfl) ?_
  refine l_q (by exact y_mv_bool rfl) ?_
  first | refine l_gskip rfl rfl ?_ | refine l_gskip_u rfl rfl ?_ | refine l_gdo rfl rfl (by exact y_ld hs rfl rfl) ?_
  first | refine l_gskip rfl rfl ?_ | refine l_gskip_u rfl rfl ?_ | refine l_gdo rfl rfl (by first | exact y_eql rfl rfl (decide_eq_true (by omega)) | exact y_eql rfl rfl (decide_eq_false (by omega)) | exact y_eql rfl rfl rfl) ?_
  refine l_q (by first | exact y_pk_bt rfl rfl | exact y_pk_bf rfl rfl) ?_
  refine l_q (by exact y_as_bool rfl) ?_
  refine l_end ?_
  refine e_then ?_
  refine s_ret ?_
  refine e_then_r ?_
  exact ret_ [.bool _] rfl ⟨rfl, trivial⟩ ⟨rfl, hs⟩

theorem closure_c {W0 w : World} {T : List (Nat × MObj)} {F : Fx} {x : QI} {wes : List WE} {many : Nat} (hi : Inv F x wes many) (hs : St W0 w (x.L (F.bx many (valsW wes) (blksW wes ++ T)))) :
    FnC Try.prog 11 [.pointer (some ⟨F.b10, 0, none⟩), .pointer (some ⟨F.b13, 0, none⟩), .pointer (some ⟨F.b9, 0, none⟩), .pointer (some ⟨F.b12, 0, none⟩)] w
      (fun v w' => v = .bool true ∧ ∃ x' wes', Inv F x' wes' (many - 1) ∧ St W0 w' (x'.L (F.bx (many - 1) (valsW wes') (blksW wes' ++ T)))) := by
  cases many with
  | zero => exact (closure_none hi hs).mono fun v w' ⟨h1, h2⟩ => ⟨h1, x, wes, hi, h2⟩
  | succ m => exact closure_take hi hs
end Go.Proofs.Ytohomijijipfdaa
