/- Facts on the functions and types of this seat that its laws are proved from: contracts under the premises that each theorem names. -/
import Derived.Test.YtfjniocobcoepaaG45
set_option linter.unusedSimpArgs false
set_option linter.unusedVariables false
set_option linter.unnecessarySimpa false
namespace Go.Proofs.Ytfjniocobcoepaa
open Go Go.RowKit PB
set_option linter.unusedVariables false
set_option linter.unusedSimpArgs false

/-! ### Parts of lists -/
theorem y_slice_loA {P : Program} {t ty : TypeId} {w : World} {x : Operand} {a : Option Addr} {m c e sz : Nat} {j : Int} {k : IntKind} {lo : Operand} {ρ : Operand → Value} [hT : SliceT P t e sz] (hx : ρ x = .slice a m c) (hi : ρ lo = .int k j) (h0 : 0 ≤ j) (h1 : j ≤ m) :
    Yld P ρ (.slice t x (some lo) none none) ty w (.slice (a.map fun b => if c = j.toNat then b else b.add (j.toNat * sz)) (m - j.toNat) (c - j.toNat)) := by
  constructor; intro _ _ _ _
  have hTo := hT.out
  unfold sliceElem at hTo
  split at hTo
  · rename_i e' hu
    cases hinf : P.info? e' with
    | none => simp [hinf] at hTo
    | some i =>
      simp only [hinf, Option.map_some, Option.some.injEq, Prod.mk.injEq] at hTo
      obtain ⟨rfl, rfl⟩ := hTo
      simp only [execOp, Option.map_some, Option.map_none, hx, hi, Instr.sliceAt, Sem.run_bind, run_underlying hu, Result.andThen_ok, Instr.slice, Instr.sliceBounds, Sem.run_pure, Instr.sliceBound, asIntOf, h0, h1, and_self, if_true, Go.sizeOf, typeInfo, run_program, hinf]
      split <;> cases a <;> simp_all [addr_zero]
  · cases hTo
theorem RdR.drop {W0 : World} {L : List (Nat × MObj)} {a : Option Addr} {l : List RuleV} (h : RdR W0 L a l) (n : Nat) {c : Nat} (hc : l.length ≤ c) : RdR W0 L (a.map fun b => if c = n then b else b.add (n * 10)) (l.drop n) := ⟨fun i r hi => by
  rw [List.getElem?_drop] at hi
  obtain ⟨x, h1, h2⟩ := h.at_ (n + i) r hi
  have hlt : n + i < l.length := by
    rcases Nat.lt_or_ge (n + i) l.length with q | q
    · exact q
    · rw [List.getElem?_eq_none q] at hi; cases hi
  refine ⟨x.add (n * 10), by rw [h1]; simp; omega, fun w hs k hk => ?_⟩
  rw [← h2 w hs k hk, addr_addadd, addr_addadd, addr_addadd, show n * 10 + (i * 10 + k) = (n + i) * 10 + k by omega]⟩
theorem w_appR2 {W0 w : World} {R : List (Nat × MObj)} {Q : Exit → Act → World → Prop} {K : Act → World → Prop} {n : Nat} {Γ : Fr} {ρ : Nat → Value} {ds : List Deferred} {ty t : TypeId} {pos : String} {after : Array Edge} {g : Option (Nat × Bool)} {d : Nat} {x y : Operand} {s : OS} {c m0 : Nat} {a : Option Addr} {t2 : TypeId} (A : List (Nat × MObj)) (l m : List RuleV)
    (hs : St W0 w (A ++ (s.blk (flatR l) 65 ++ R))) (hok : s.ok (flatR l) l.length 10) [hT : SliceT Try.prog t 65 10] [hT2 : Under Try.prog t2 (.slice 65)]
    (hx : PB.ev n Γ ρ x = .slice s.ad l.length s.cap) (hm : m.length = m0) (hy : PB.ev n Γ ρ y = .slice a m0 c) (hr : RdR W0 (A ++ (s.blk (flatR l) 65 ++ R)) a m) (hg0 : ∃ g, s.a = some g) (hroom : l.length + m.length ≤ 1000000)
    (hk : ∀ (s' : OS) w', s'.ok (flatR (l ++ m)) (l ++ m).length 10 → (∃ g, s'.a = some g) → St W0 w' (A ++ (s'.blk (flatR (l ++ m)) 65 ++ R)) → K (act n ((d, .slice s'.ad (l ++ m).length s'.cap) :: Γ) ρ ds) w') :
    OW Try.prog ⟨some d, .call ⟨.builtin .append, #[x, y], #[t, t2]⟩, ty, pos, after, g⟩ (act n Γ ρ ds) w K Q := by
  subst hm
  obtain ⟨g, hg⟩ := hg0
  refine w_appendG (sz := 10) (bs := 80) A hs hok hx hy rfl (fun w1 h1 => rdR_first hr h1 c) (flatR_len m) (flatR_one m) (.inr (by rw [hg]; simp)) (by decide) (by omega) (fun s' w' h1 h2 h3 => ?_)
  have e1 : (l ++ m).length = l.length + m.length := List.length_append
  have e2 := flatR_append l m
  have := hk s' w' (by rw [e1, e2]; exact h1) h2 (by rw [e2]; exact h3)
  rw [e1] at this
  exact this
theorem pick_n (z : Int) {n : Nat} (h : 1 ≤ n) : ∃ k : Nat, z % (n : Int) = k ∧ k < n := by
  have h1 := Int.emod_nonneg z (show (n : Int) ≠ 0 by omega)
  have h2 := Int.emod_lt_of_pos z (show (0 : Int) < n by omega)
  exact ⟨(z % n).toNat, by omega, by omega⟩
theorem okE0 {b : Nat} : (⟨some b, 0, []⟩ : OS).ok (flatR []) ([] : List RuleV).length 10 := ⟨rfl, rfl, Nat.le_refl _, fun h => by cases h⟩

/-! ### RuledAgrees -/
theorem agree_perm {l k : List RuleV} {p q : PktV} (hl : ∀ r ∈ l, RuleOk r) (hk : ∀ r ∈ k, RuleOk r) (F : FirstR (fun e => xor (allF l e) (allF k e)) q false) (hf : p.fits) (hc : pChk p = 0) : permP p l = permP p k := by
  obtain ⟨e, h1, hr⟩ := bits_of hf hc
  have := (F.no rfl).2 e hr
  rw [permP_all h1 l hl, permP_all h1 k hk]
  cases ha : allF l e <;> cases hb : allF k e <;> simp [ha, hb] at this ⊢
theorem rdR_in {W0 : World} {L : List (Nat × MObj)} {b : Nat} {l : List RuleV} {e : TypeId} {cs : List Value} (hcs : cs = flatR l) (h : (b, MObj.cells cs e) ∈ L) : RdR W0 L (some ⟨b, 0, none⟩) l :=
  rdR_mem (sp := []) (by rw [List.append_nil, ← hcs]; exact h)
theorem St.sinkB {W0 w : World} {s : OS} {xs : List Value} {e : TypeId} {q : Nat × MObj} {R : List (Nat × MObj)} (h : St W0 w (q :: (s.blk xs e ++ R))) : St W0 w (s.blk xs e ++ q :: R) := h.perm List.perm_middle.symm
theorem agrees_walk (W : World) (a0 : Option Addr) (cap0 : Nat) (z0 : List RuleV) (w0 : RulesIn W a0 z0) (c0 : z0.length ≤ cap0) (at_ : Int) (r : RuleV) (hrf : r.fits) (p : PktV) (hpf : p.fits) :
    FnC Try.prog 9 [.slice a0 z0.length cap0, I64 at_, .agg r.cells.toArray, .agg p.cells.toArray] W (fun v w' => v = .bool true ∧ St W w' []) := by
  have hs := St.start W
  have hl0 : ∀ L, RdR W L a0 (z0.take 4) := fun L => (w0.rd L).take 4
  have hfl : ∀ r ∈ z0.take 4, r.fits := fun r hr => w0.fits r (List.mem_of_mem_take hr)
  have hll : (z0.take 4).length = min 4 z0.length := List.length_take
  have hz0 := w0.len
  generalize z0.take 4 = l at *
  have hmin0 : Value.int .i64 ((l.length : Nat) : Int) = .int .i64 (if (4 : Int) < (z0.length : Nat) then 4 else (z0.length : Nat)) := by
    have : ((l.length : Nat) : Int) = if (4 : Int) < (z0.length : Nat) then 4 else ((z0.length : Nat) : Int) := by split <;> omega
    exact congrArg _ this
  obtain ⟨n, hn0, hn⟩ := pick_n at_ (n := l.length + 1) (by omega)
  replace hn0 : at_ % ((l.length : Int) + 1) = n := hn0
  have htk : (l.take n).length = n := by rw [List.length_take]; omega
  have hdk : (l.drop n).length = l.length - n := List.length_drop
  have hkl : (l.take n ++ [r] ++ l.drop n).length = l.length + 1 := by rw [List.length_append, List.length_append, htk, hdk]; simp; omega
  have hfk : ∀ x ∈ l.take n ++ [r] ++ l.drop n, x.fits := fun x hx => by
    rcases List.mem_append.1 hx with hx | hx
    · rcases List.mem_append.1 hx with hx | hx
      · exact hfl x (List.mem_of_mem_take hx)
      · rw [List.mem_singleton.1 hx]; exact hrf
    · exact hfl x (List.mem_of_mem_drop hx)
  obtain ⟨z, hj⟩ : ∃ z, lChk l = z := ⟨_, rfl⟩
  obtain ⟨z2, hj2⟩ : ∃ z, lChk (l.take n ++ [r] ++ l.drop n) = z := ⟨_, rfl⟩
  refine FnC.enter Try.func9 rfl Try.ntmps9 rfl fun ρ => ?_
  refine s_seq ?_
  refine s_reg ?_
  refine l_w (w_boxA (vs := r.cells) hs rfl (fun b6 w hs hb6 => ?_))
  refine l_w (w_boxA (vs := p.cells) hs rfl (fun b7 w hs hb7 => ?_))
  refine l_q (by exact y_as_bool rfl) ?_
  refine l_end ?_
  refine e_then ?_
  refine s_seq ?_
  refine s_seq ?_
  refine s_reg ?_
  refine l_w (w_call rfl (fact26_c hs) rfl (fun _ w h => ?_))
  obtain ⟨rfl, hs⟩ := h
  refine l_q (by first | exact y_not_t rfl | exact y_not_f rfl | exact y_notd rfl) ?_
  refine l_end ?_
  refine e_then ?_
  refine cond_f rfl ?_
  refine s_skip ?_
  refine e_then ?_
  refine s_seq ?_
  refine s_reg ?_
  refine l_q (by exact y_mv_slice rfl) ?_
  refine l_q (by exact y_mv_slice rfl) ?_
  refine l_q (by exact y_len_slice rfl) ?_
  refine l_q (by exact y_min (v := .int .i64 ((l.length : Nat) : Int)) rfl rfl hmin0) ?_
  refine l_q (by exact y_slice_hi rfl rfl (by omega) (by omega)) ?_
  refine l_q (by exact y_as_slice rfl) ?_
  refine l_end ?_
  refine e_then ?_
  refine s_seq ?_
  refine s_reg ?_
  refine l_q (by exact y_mv_int rfl) ?_
  refine l_q (by exact y_mv_slice rfl) ?_
  refine l_q (by exact y_len_slice rfl) ?_
  refine l_q (by first | exact y_addn rfl rfl (by omega) | exact y_add rfl rfl rfl) ?_
  refine l_w (w_call rfl (rest_e hn0 _ (by omega) (by omega)) rfl (fun _ w h => ?_))
  obtain ⟨rfl, rfl⟩ := h
  refine l_q (by exact y_as_int rfl) ?_
  refine l_end ?_
  refine e_then ?_
  refine cut (Y := OS × Nat) (fun u => [(0, .slice a0 l.length cap0), (7, .pointer (some ⟨b7, 0, none⟩)), (10, .slice u.1.ad (l.take n ++ [r] ++ l.drop n).length u.1.cap)]) (fun u w => St W w (u.1.blk (flatR (l.take n ++ [r] ++ l.drop n)) 65 ++ [(u.2, .cells r.cells 65), (b7, .cells p.cells 51), (b6, .cells r.cells 65)]) ∧ ∃ g, u.1.a = some g) (fun K hK => ?_) (fun u ρ w hI => ?_)
  · refine r_draw (.q 1 (.q 2 (.q 3 (.q 5 (.q 8 (.q 9 (.q 10 (.w2 0 (.w2 4 (.w 6 (.w 7 (.w 11 (.q 12 (.nil))))) 6 (.w 4 (.w 7 (.w 11 (.q 12 (.nil)))))) 6 (.w 0 (.w 4 (.w 7 (.w 11 (.q 12 (.nil)))))))))))))) 12 (fun w => St W w [(b7, .cells p.cells 51), (b6, .cells r.cells 65)]) mixed (by kernel_rfl) ?_
    have hs := hs.drew
    refine c_q rfl (by first | exact hs | exact hs.subl | exact hs.cellAt rfl | trivial) (fun _ _ _ h => h) (fun w hs => by exact y_mv_slice rfl) ?_
    refine c_q rfl (by first | exact hs | exact hs.subl | exact hs.cellAt rfl | trivial) (fun _ _ _ h => h) (fun w hs => by exact y_mv_int rfl) ?_
    refine c_q rfl (by first | exact hs | exact hs.subl | exact hs.cellAt rfl | trivial) (fun _ _ _ h => h) (fun w hs => by exact y_slice_hi rfl rfl (by omega) (by omega)) ?_
    refine c_q rfl (by first | exact hs | exact hs.subl | exact hs.cellAt rfl | trivial) (fun _ _ _ h => h) (fun w hs => by exact y_ldA (vs := r.cells) hs rfl rfl rfl) ?_
    refine c_q rfl (by first | exact hs | exact hs.subl | exact hs.cellAt rfl | trivial) (fun _ _ _ h => h) (fun w hs => by exact y_mv_slice rfl) ?_
    refine c_q rfl (by first | exact hs | exact hs.subl | exact hs.cellAt rfl | trivial) (fun _ _ _ h => h) (fun w hs => by exact y_mv_int rfl) ?_
    refine c_q rfl (by first | exact hs | exact hs.subl | exact hs.cellAt rfl | trivial) (fun _ _ _ h => h) (fun w hs => by exact y_slice_loA rfl rfl (by omega) (by omega)) ?_
    refine c_w2 rfl rfl rfl rfl (w_slice0 hs (fun b26 w hs hb26 => ?_)) (w_buildSliceV (pv := [.agg r.cells.toArray]) (cs := r.cells) hs rfl rfl rfl rfl rfl rfl (fun b32 w hs hb32 => ?_))
    · refine ⟨fun _ => by first | exact hs | exact hs.subl | exact hs.cellAt rfl | trivial, ?_⟩
      refine c_w2 rfl rfl rfl rfl (w_appR2 (s := ⟨some b26, 0, []⟩) [] [] (l.take n) hs okE0 rfl htk rfl ((hl0 _).take n) ⟨_, rfl⟩ (by simp; omega) (fun s1 w ok1 hg1 hs => ?_)) (w_buildSliceV (pv := [.agg r.cells.toArray]) (cs := r.cells) hs rfl rfl rfl rfl rfl rfl (fun b32 w hs hb32 => ?_))
      · refine ⟨fun _ => by first | exact hs | exact hs.subl | exact hs.cellAt rfl | trivial, ?_⟩
        refine c_w rfl (w_buildSliceV (pv := [.agg r.cells.toArray]) (cs := r.cells) hs rfl rfl rfl rfl rfl rfl (fun b32 w hs hb32 => ?_))
        first | replace hs := hs.front b26 | replace hs := St.sinkB (s := s1) hs | skip
        refine ⟨fun _ => by first | exact hs | exact hs.subl | exact hs.cellAt rfl | trivial, ?_⟩
        refine c_w rfl (w_appR2 [] (l.take n) [r] hs ok1 rfl rfl rfl (rdR_in (l := [r]) (cs := r.cells) (e := 65) (show r.cells = flatR [r] by simp [flatR]) (by simp)) hg1 (by simp; omega) (fun s2 w ok2 hg2 hs => ?_))
        refine ⟨fun _ => by first | exact hs | exact hs.subl | exact hs.cellAt rfl | trivial, ?_⟩
        refine c_w rfl (w_appR2 [] (l.take n ++ [r]) (l.drop n) hs ok2 rfl hdk rfl ((hl0 _).drop n (by omega)) hg2 (by simp; omega) (fun s3 w ok3 hg3 hs => ?_))
        refine ⟨fun _ => by first | exact hs | exact hs.subl | exact hs.cellAt rfl | trivial, ?_⟩
        refine c_q rfl (by first | exact hs | exact hs.subl | exact hs.cellAt rfl | trivial) (fun _ _ _ h => h) (fun w hs => by exact y_as_slice rfl) ?_
        refine c_end ?_
        exact e_then (meet hK (s3, b32) ⟨rfl, rfl, rfl, trivial⟩ ⟨hs, hg3⟩)
      · first | replace hs := hs.front b26 | replace hs := St.sinkB (s := s1) hs | skip
        refine ⟨fun _ => by first | exact hs | exact hs.subl | exact hs.cellAt rfl | trivial, ?_⟩
        refine c_w rfl (w_appR2 (s := ⟨some b26, 0, []⟩) [] [] (l.take n) hs okE0 rfl htk rfl ((hl0 _).take n) ⟨_, rfl⟩ (by simp; omega) (fun s1 w ok1 hg1 hs => ?_))
        refine ⟨fun _ => by first | exact hs | exact hs.subl | exact hs.cellAt rfl | trivial, ?_⟩
        refine c_w rfl (w_appR2 [] (l.take n) [r] hs ok1 rfl rfl rfl (rdR_in (l := [r]) (cs := r.cells) (e := 65) (show r.cells = flatR [r] by simp [flatR]) (by simp)) hg1 (by simp; omega) (fun s2 w ok2 hg2 hs => ?_))
        refine ⟨fun _ => by first | exact hs | exact hs.subl | exact hs.cellAt rfl | trivial, ?_⟩
        refine c_w rfl (w_appR2 [] (l.take n ++ [r]) (l.drop n) hs ok2 rfl hdk rfl ((hl0 _).drop n (by omega)) hg2 (by simp; omega) (fun s3 w ok3 hg3 hs => ?_))
        refine ⟨fun _ => by first | exact hs | exact hs.subl | exact hs.cellAt rfl | trivial, ?_⟩
        refine c_q rfl (by first | exact hs | exact hs.subl | exact hs.cellAt rfl | trivial) (fun _ _ _ h => h) (fun w hs => by exact y_as_slice rfl) ?_
        refine c_end ?_
        exact e_then (meet hK (s3, b32) ⟨rfl, rfl, rfl, trivial⟩ ⟨hs, hg3⟩)
    · first | replace hs := hs.front b26 | replace hs := St.sinkB (s := s1) hs | skip
      refine ⟨fun _ => by first | exact hs | exact hs.subl | exact hs.cellAt rfl | trivial, ?_⟩
      refine c_w rfl (w_slice0 hs (fun b26 w hs hb26 => ?_))
      refine ⟨fun _ => by first | exact hs | exact hs.subl | exact hs.cellAt rfl | trivial, ?_⟩
      refine c_w rfl (w_appR2 (s := ⟨some b26, 0, []⟩) [] [] (l.take n) hs okE0 rfl htk rfl ((hl0 _).take n) ⟨_, rfl⟩ (by simp; omega) (fun s1 w ok1 hg1 hs => ?_))
      refine ⟨fun _ => by first | exact hs | exact hs.subl | exact hs.cellAt rfl | trivial, ?_⟩
      refine c_w rfl (w_appR2 [] (l.take n) [r] hs ok1 rfl rfl rfl (rdR_in (l := [r]) (cs := r.cells) (e := 65) (show r.cells = flatR [r] by simp [flatR]) (by simp)) hg1 (by simp; omega) (fun s2 w ok2 hg2 hs => ?_))
      refine ⟨fun _ => by first | exact hs | exact hs.subl | exact hs.cellAt rfl | trivial, ?_⟩
      refine c_w rfl (w_appR2 [] (l.take n ++ [r]) (l.drop n) hs ok2 rfl hdk rfl ((hl0 _).drop n (by omega)) hg2 (by simp; omega) (fun s3 w ok3 hg3 hs => ?_))
      refine ⟨fun _ => by first | exact hs | exact hs.subl | exact hs.cellAt rfl | trivial, ?_⟩
      refine c_q rfl (by first | exact hs | exact hs.subl | exact hs.cellAt rfl | trivial) (fun _ _ _ h => h) (fun w hs => by exact y_as_slice rfl) ?_
      refine c_end ?_
      exact e_then (meet hK (s3, b32) ⟨rfl, rfl, rfl, trivial⟩ ⟨hs, hg3⟩)
  obtain ⟨s3, b32⟩ := u
  obtain ⟨hs, g3, hg3⟩ := hI
  dsimp only at hs hg3 ⊢
  by_cases hz : z ≠ 0
  · refine s_seq ?_
    refine s_reg ?_
    refine l_q (by exact y_mv_slice rfl) ?_
    refine l_q (by exact y_mv_slice rfl) ?_
    refine l_w (w_call rfl (same_a _ hj hz (hl0 _) hfl (by omega) hs) rfl (fun _ w h => ?_))
    obtain ⟨rfl, hs⟩ := h
    refine l_q (by exact y_mv_tuple rfl) ?_
    refine l_q (by exact y_extract rfl rfl) ?_
    refine l_q (by exact y_extract rfl rfl) ?_
    refine l_q (by exact y_extract rfl rfl) ?_
    refine l_w (w_alloc (cs := [_, _, _, _, _, _, _, _, _]) hs rfl (fun b12 w hs hb12 => ?_))
    refine l_q (by exact y_as_bool rfl) ?_
    refine l_w (w_storeA (vs := [_, _, _, _, _, _, _, _, _]) hs rfl rfl rfl rfl rfl (fun w hs => ?_))
    refine l_q (by exact y_as_int rfl) ?_
    refine l_end ?_
    refine e_then ?_
    refine s_seq ?_
    refine s_seq ?_
    refine s_reg ?_
    refine l_q (by exact y_mv_int rfl) ?_
    refine l_q (by first | exact y_neq rfl rfl (decide_eq_true (by omega)) | exact y_neq rfl rfl (decide_eq_false (by omega)) | exact y_neq rfl rfl rfl) ?_
    refine l_q (by exact y_mv_bool rfl) ?_
    first | refine l_gskip rfl rfl ?_ | refine l_gskip_u rfl rfl ?_ | refine l_gdo rfl rfl (by exact y_mv_bool rfl) ?_
    first | refine l_gskip rfl rfl ?_ | refine l_gskip_u rfl rfl ?_ | refine l_gdo rfl rfl (by first | exact y_not_t rfl | exact y_not_f rfl | exact y_notd rfl) ?_
    refine l_q (by first | exact y_pk_bt rfl rfl | exact y_pk_bf rfl rfl) ?_
    refine l_end ?_
    refine e_then ?_
    refine cond_t rfl ?_
    refine s_seq ?_
    refine s_reg ?_
    refine l_q (by exact y_mv_bool rfl) ?_
    refine l_q (by first | exact y_not_t rfl | exact y_not_f rfl | exact y_notd rfl) ?_
    refine l_q (by exact y_as_bool rfl) ?_
    refine l_end ?_
    refine e_then ?_
    refine s_ret ?_
    refine e_then_r ?_
    exact ret_ [.bool _] rfl ⟨rfl, trivial⟩ ⟨rfl, hs.nil⟩
  replace hz := Classical.not_not.1 hz
  subst hz
  by_cases hz2 : z2 ≠ 0
  · refine s_seq ?_
    refine s_reg ?_
    refine l_q (by exact y_mv_slice rfl) ?_
    refine l_q (by exact y_mv_slice rfl) ?_
    refine l_w (w_call rfl (same_b (k := l.take n ++ [r] ++ l.drop n) hj hj2 hz2 (hl0 _) (rdR_os hg3) hfl hfk (by omega) (by omega) hs) rfl (fun _ w h => ?_))
    obtain ⟨rfl, hs⟩ := h
    refine l_q (by exact y_mv_tuple rfl) ?_
    refine l_q (by exact y_extract rfl rfl) ?_
    refine l_q (by exact y_extract rfl rfl) ?_
    refine l_q (by exact y_extract rfl rfl) ?_
    refine l_w (w_alloc (cs := [_, _, _, _, _, _, _, _, _]) hs rfl (fun b12 w hs hb12 => ?_))
    refine l_q (by exact y_as_bool rfl) ?_
    refine l_w (w_storeA (vs := [_, _, _, _, _, _, _, _, _]) hs rfl rfl rfl rfl rfl (fun w hs => ?_))
    refine l_q (by exact y_as_int rfl) ?_
    refine l_end ?_
    refine e_then ?_
    refine s_seq ?_
    refine s_seq ?_
    refine s_reg ?_
    refine l_q (by exact y_mv_int rfl) ?_
    refine l_q (by first | exact y_neq rfl rfl (decide_eq_true (by omega)) | exact y_neq rfl rfl (decide_eq_false (by omega)) | exact y_neq rfl rfl rfl) ?_
    refine l_q (by exact y_mv_bool rfl) ?_
    first | refine l_gskip rfl rfl ?_ | refine l_gskip_u rfl rfl ?_ | refine l_gdo rfl rfl (by exact y_mv_bool rfl) ?_
    first | refine l_gskip rfl rfl ?_ | refine l_gskip_u rfl rfl ?_ | refine l_gdo rfl rfl (by first | exact y_not_t rfl | exact y_not_f rfl | exact y_notd rfl) ?_
    refine l_q (by first | exact y_pk_bt rfl rfl | exact y_pk_bf rfl rfl) ?_
    refine l_end ?_
    refine e_then ?_
    refine cond_t rfl ?_
    refine s_seq ?_
    refine s_reg ?_
    refine l_q (by exact y_mv_bool rfl) ?_
    refine l_q (by first | exact y_not_t rfl | exact y_not_f rfl | exact y_notd rfl) ?_
    refine l_q (by exact y_as_bool rfl) ?_
    refine l_end ?_
    refine e_then ?_
    refine s_ret ?_
    refine e_then_r ?_
    exact ret_ [.bool _] rfl ⟨rfl, trivial⟩ ⟨rfl, hs.nil⟩
  replace hz2 := Classical.not_not.1 hz2
  subst hz2
  have hokl := lChk_ok hfl hj
  have hokk := lChk_ok hfk hj2
  have hsub : ∀ x ∈ l, x ∈ l.take n ++ [r] ++ l.drop n := fun x hx => by
    rw [← List.take_append_drop n l] at hx
    rcases List.mem_append.1 hx with hx | hx
    · exact List.mem_append_left _ (List.mem_append_left _ hx)
    · exact List.mem_append_right _ hx
  have n1 := allN_mono (show l.length ≤ 4 by omega)
  have n2 := allN_mono (show (l.take n ++ [r] ++ l.drop n).length ≤ 5 by omega)
  have a4 : allN 4 = 9922 := rfl
  have a5 : allN 5 = 17081 := rfl
  have bdm5 : ∀ j, j ≤ 5 → bd j ≤ 6326 := by decide
  have d1 := bdm5 (l.take n ++ [r] ++ l.drop n).length (by omega)
  refine s_seq ?_
  refine s_reg ?_
  refine l_q (by exact y_mv_slice rfl) ?_
  refine l_q (by exact y_mv_slice rfl) ?_
  refine l_w (w_call rfl (same_k (k := l.take n ++ [r] ++ l.drop n) (m := l.take n ++ [r] ++ l.drop n) hj hj2 (hl0 _) (rdR_os hg3) hfl hfk (by omega) (by omega) (by omega) hsub (fun r hr => hr) hokk (by omega) hs) rfl (fun _ w h => ?_))
  obtain ⟨q, x, rfl, F, hs⟩ := h
  refine l_q (by exact y_mv_tuple rfl) ?_
  refine l_q (by exact y_extract rfl rfl) ?_
  refine l_q (by exact y_extract rfl rfl) ?_
  refine l_q (by exact y_extract rfl rfl) ?_
  refine l_w (w_alloc (cs := [_, _, _, _, _, _, _, _, _]) hs rfl (fun b12 w hs hb12 => ?_))
  refine l_q (by exact y_as_bool rfl) ?_
  refine l_w (w_storeA (vs := q.cells) hs rfl rfl rfl rfl rfl (fun w hs => ?_))
  refine l_q (by exact y_as_int rfl) ?_
  refine l_end ?_
  refine e_then ?_
  refine s_seq ?_
  refine s_seq ?_
  refine s_reg ?_
  refine l_q (by exact y_mv_int rfl) ?_
  refine l_q (by first | exact y_neq rfl rfl (decide_eq_true (by omega)) | exact y_neq rfl rfl (decide_eq_false (by omega)) | exact y_neq rfl rfl rfl) ?_
  refine l_q (by exact y_mv_bool rfl) ?_
  first | refine l_gskip rfl rfl ?_ | refine l_gskip_u rfl rfl ?_ | refine l_gdo rfl rfl (by exact y_mv_bool rfl) ?_
  first | refine l_gskip rfl rfl ?_ | refine l_gskip_u rfl rfl ?_ | refine l_gdo rfl rfl (by exact y_not (c := !x) (r := x) rfl (by cases x <;> rfl)) ?_
  refine l_q (by first | exact y_pk_bt rfl rfl | exact y_pk_bf rfl rfl) ?_
  refine l_end ?_
  refine e_then ?_
  cases x with
  | true =>
    refine cond_t rfl ?_
    refine s_seq ?_
    refine s_reg ?_
    refine l_q (by exact y_mv_bool rfl) ?_
    refine l_q (by first | exact y_not_t rfl | exact y_not_f rfl | exact y_notd rfl) ?_
    refine l_q (by exact y_as_bool rfl) ?_
    refine l_end ?_
    refine e_then ?_
    refine s_ret ?_
    refine e_then_r ?_
    exact ret_ [.bool _] rfl ⟨rfl, trivial⟩ ⟨rfl, hs.nil⟩
  | false =>
    refine cond_f rfl ?_
    replace hs : St W w ((b12, .cells q.cells 51) :: (s3.blk (flatR (l.take n ++ [r] ++ l.drop n)) 65 ++ [(b32, .cells r.cells 65), (b7, .cells p.cells 51), (b6, .cells r.cells 65)])) := hs
    by_cases hpc : pChk p = 0
    · refine s_skip ?_
      refine e_then ?_
      refine s_seq ?_
      refine r_draw (.q 0 (.w 1 (.q 2 (.q 3 (.q 4 (.q 5 (.q 7 (.q 8 (.w 6 (.w 9 (.q 10 (.q 11 (.q 12 (.nil)))))))))))))) 12 (fun w => St W w ((b12, .cells q.cells 51) :: (s3.blk (flatR (l.take n ++ [r] ++ l.drop n)) 65 ++ [(b32, .cells r.cells 65), (b7, .cells p.cells 51), (b6, .cells r.cells 65)]))) mixed (by kernel_rfl) ?_
      have hs := hs.drew
      refine c_q rfl (by first | exact hs | exact hs.subl | exact hs.cellAt rfl | trivial) (fun _ _ _ h => h) (fun w hs => by exact y_ldA (vs := p.cells) hs rfl rfl rfl) ?_
      refine c_w rfl (w_call rfl (pcheck_c p hpf hs) rfl (fun _ w h => ?_))
      obtain ⟨rfl, hs⟩ := h
      refine ⟨fun _ => by first | exact hs | exact hs.subl | exact hs.cellAt rfl | trivial, ?_⟩
      refine c_q rfl (by first | exact hs | exact hs.subl | exact hs.cellAt rfl | trivial) (fun _ _ _ h => h) (fun w hs => by first | exact y_neq rfl rfl (decide_eq_true (by omega)) | exact y_neq rfl rfl (decide_eq_false (by omega)) | exact y_neq rfl rfl rfl) ?_
      refine c_q rfl (by first | exact hs | exact hs.subl | exact hs.cellAt rfl | trivial) (fun _ _ _ h => h) (fun w hs => by exact y_mv_bool rfl) ?_
      first | refine c_gskip rfl (by first | exact hs | exact hs.subl | exact hs.cellAt rfl | trivial) (fun _ _ _ h => h) rfl rfl ?_ | refine c_gskip_u rfl (by first | exact hs | exact hs.subl | exact hs.cellAt rfl | trivial) (fun _ _ _ h => h) rfl rfl ?_ | refine c_gdo rfl (by first | exact hs | exact hs.subl | exact hs.cellAt rfl | trivial) (fun _ _ _ h => h) rfl rfl (fun w hs => by exact y_mv_slice rfl) ?_
      first | refine c_gskip rfl (by first | exact hs | exact hs.subl | exact hs.cellAt rfl | trivial) (fun _ _ _ h => h) rfl rfl ?_ | refine c_gskip_u rfl (by first | exact hs | exact hs.subl | exact hs.cellAt rfl | trivial) (fun _ _ _ h => h) rfl rfl ?_ | refine c_gdo rfl (by first | exact hs | exact hs.subl | exact hs.cellAt rfl | trivial) (fun _ _ _ h => h) rfl rfl (fun w hs => by exact y_ldA (vs := p.cells) hs rfl rfl rfl) ?_
      first | refine c_gskip rfl (by first | exact hs | exact hs.subl | exact hs.cellAt rfl | trivial) (fun _ _ _ h => h) rfl rfl ?_ | refine c_gskip_u rfl (by first | exact hs | exact hs.subl | exact hs.cellAt rfl | trivial) (fun _ _ _ h => h) rfl rfl ?_ | refine c_gdo rfl (by first | exact hs | exact hs.subl | exact hs.cellAt rfl | trivial) (fun _ _ _ h => h) rfl rfl (fun w hs => by exact y_mv_slice rfl) ?_
      first | refine c_gskip rfl (by first | exact hs | exact hs.subl | exact hs.cellAt rfl | trivial) (fun _ _ _ h => h) rfl rfl ?_ | refine c_gskip_u rfl (by first | exact hs | exact hs.subl | exact hs.cellAt rfl | trivial) (fun _ _ _ h => h) rfl rfl ?_ | refine c_gdo rfl (by first | exact hs | exact hs.subl | exact hs.cellAt rfl | trivial) (fun _ _ _ h => h) rfl rfl (fun w hs => by exact y_ldA (vs := p.cells) hs rfl rfl rfl) ?_
      first | refine c_gws rfl rfl rfl ?_ | refine c_gwsu rfl rfl rfl ?_ | (refine c_gw rfl rfl rfl (w_call rfl (permits_k hj hpc (hl0 _) hfl hpf (by omega) hs) rfl (fun _ w h => ?_)); obtain ⟨rfl, hs⟩ := h)
      refine ⟨fun _ => by first | exact hs | exact hs.subl | exact hs.cellAt rfl | trivial, ?_⟩
      first | refine c_gws rfl rfl rfl ?_ | refine c_gwsu rfl rfl rfl ?_ | (refine c_gw rfl rfl rfl (w_call rfl (permits_k (l := l.take n ++ [r] ++ l.drop n) hj2 hpc ((rdR_os hg3).mono fun w h => h.tail) hfk hpf (by omega) hs) rfl (fun _ w h => ?_)); obtain ⟨rfl, hs⟩ := h)
      refine ⟨fun _ => by first | exact hs | exact hs.subl | exact hs.cellAt rfl | trivial, ?_⟩
      first | refine c_gskip rfl (by first | exact hs | exact hs.subl | exact hs.cellAt rfl | trivial) (fun _ _ _ h => h) rfl rfl ?_ | refine c_gskip_u rfl (by first | exact hs | exact hs.subl | exact hs.cellAt rfl | trivial) (fun _ _ _ h => h) rfl rfl ?_ | refine c_gdo rfl (by first | exact hs | exact hs.subl | exact hs.cellAt rfl | trivial) (fun _ _ _ h => h) rfl rfl (fun w hs => by exact y_bool_eql rfl rfl (v := .bool true) (by rw [agree_perm hokl hokk F hpf hpc]; simp)) ?_
      refine c_q rfl (by first | exact hs | exact hs.subl | exact hs.cellAt rfl | trivial) (fun _ _ _ h => h) (fun w hs => by first | exact y_pk_bt rfl rfl | exact y_pk_bf rfl rfl) ?_
      refine c_q rfl (by first | exact hs | exact hs.subl | exact hs.cellAt rfl | trivial) (fun _ _ _ h => h) (fun w hs => by exact y_as_bool rfl) ?_
      refine c_end ?_
      refine e_then ?_
      refine s_ret ?_
      exact ret_ [.bool _] rfl ⟨rfl, trivial⟩ ⟨rfl, hs.nil⟩
    · refine s_skip ?_
      refine e_then ?_
      refine s_seq ?_
      refine r_draw (.q 0 (.w 1 (.q 2 (.q 3 (.q 4 (.q 5 (.q 7 (.q 8 (.w 6 (.w 9 (.q 10 (.q 11 (.q 12 (.nil)))))))))))))) 12 (fun w => St W w ((b12, .cells q.cells 51) :: (s3.blk (flatR (l.take n ++ [r] ++ l.drop n)) 65 ++ [(b32, .cells r.cells 65), (b7, .cells p.cells 51), (b6, .cells r.cells 65)]))) mixed (by kernel_rfl) ?_
      have hs := hs.drew
      refine c_q rfl (by first | exact hs | exact hs.subl | exact hs.cellAt rfl | trivial) (fun _ _ _ h => h) (fun w hs => by exact y_ldA (vs := p.cells) hs rfl rfl rfl) ?_
      refine c_w rfl (w_call rfl (pcheck_c p hpf hs) rfl (fun _ w h => ?_))
      obtain ⟨rfl, hs⟩ := h
      refine ⟨fun _ => by first | exact hs | exact hs.subl | exact hs.cellAt rfl | trivial, ?_⟩
      refine c_q rfl (by first | exact hs | exact hs.subl | exact hs.cellAt rfl | trivial) (fun _ _ _ h => h) (fun w hs => by first | exact y_neq rfl rfl (decide_eq_true (by omega)) | exact y_neq rfl rfl (decide_eq_false (by omega)) | exact y_neq rfl rfl rfl) ?_
      refine c_q rfl (by first | exact hs | exact hs.subl | exact hs.cellAt rfl | trivial) (fun _ _ _ h => h) (fun w hs => by exact y_mv_bool rfl) ?_
      first | refine c_gskip rfl (by first | exact hs | exact hs.subl | exact hs.cellAt rfl | trivial) (fun _ _ _ h => h) rfl rfl ?_ | refine c_gskip_u rfl (by first | exact hs | exact hs.subl | exact hs.cellAt rfl | trivial) (fun _ _ _ h => h) rfl rfl ?_ | refine c_gdo rfl (by first | exact hs | exact hs.subl | exact hs.cellAt rfl | trivial) (fun _ _ _ h => h) rfl rfl (fun w hs => by exact y_mv_slice rfl) ?_
      first | refine c_gskip rfl (by first | exact hs | exact hs.subl | exact hs.cellAt rfl | trivial) (fun _ _ _ h => h) rfl rfl ?_ | refine c_gskip_u rfl (by first | exact hs | exact hs.subl | exact hs.cellAt rfl | trivial) (fun _ _ _ h => h) rfl rfl ?_ | refine c_gdo rfl (by first | exact hs | exact hs.subl | exact hs.cellAt rfl | trivial) (fun _ _ _ h => h) rfl rfl (fun w hs => by exact y_ldA (vs := p.cells) hs rfl rfl rfl) ?_
      first | refine c_gskip rfl (by first | exact hs | exact hs.subl | exact hs.cellAt rfl | trivial) (fun _ _ _ h => h) rfl rfl ?_ | refine c_gskip_u rfl (by first | exact hs | exact hs.subl | exact hs.cellAt rfl | trivial) (fun _ _ _ h => h) rfl rfl ?_ | refine c_gdo rfl (by first | exact hs | exact hs.subl | exact hs.cellAt rfl | trivial) (fun _ _ _ h => h) rfl rfl (fun w hs => by exact y_mv_slice rfl) ?_
      first | refine c_gskip rfl (by first | exact hs | exact hs.subl | exact hs.cellAt rfl | trivial) (fun _ _ _ h => h) rfl rfl ?_ | refine c_gskip_u rfl (by first | exact hs | exact hs.subl | exact hs.cellAt rfl | trivial) (fun _ _ _ h => h) rfl rfl ?_ | refine c_gdo rfl (by first | exact hs | exact hs.subl | exact hs.cellAt rfl | trivial) (fun _ _ _ h => h) rfl rfl (fun w hs => by exact y_ldA (vs := p.cells) hs rfl rfl rfl) ?_
      first | refine c_gws rfl rfl rfl ?_ | refine c_gwsu rfl rfl rfl ?_ | (refine c_gw rfl rfl rfl (w_call rfl (permits_k hj hpc (hl0 _) hfl hpf (by omega) hs) rfl (fun _ w h => ?_)); obtain ⟨rfl, hs⟩ := h)
      refine ⟨fun _ => by first | exact hs | exact hs.subl | exact hs.cellAt rfl | trivial, ?_⟩
      first | refine c_gws rfl rfl rfl ?_ | refine c_gwsu rfl rfl rfl ?_ | (refine c_gw rfl rfl rfl (w_call rfl (permits_k (l := l.take n ++ [r] ++ l.drop n) hj2 hpc ((rdR_os hg3).mono fun w h => h.tail) hfk hpf (by omega) hs) rfl (fun _ w h => ?_)); obtain ⟨rfl, hs⟩ := h)
      refine ⟨fun _ => by first | exact hs | exact hs.subl | exact hs.cellAt rfl | trivial, ?_⟩
      first | refine c_gskip rfl (by first | exact hs | exact hs.subl | exact hs.cellAt rfl | trivial) (fun _ _ _ h => h) rfl rfl ?_ | refine c_gskip_u rfl (by first | exact hs | exact hs.subl | exact hs.cellAt rfl | trivial) (fun _ _ _ h => h) rfl rfl ?_ | refine c_gdo rfl (by first | exact hs | exact hs.subl | exact hs.cellAt rfl | trivial) (fun _ _ _ h => h) rfl rfl (fun w hs => by exact y_bool_eql rfl rfl (v := .bool true) (by rw [agree_perm hokl hokk F hpf hpc]; simp)) ?_
      refine c_q rfl (by first | exact hs | exact hs.subl | exact hs.cellAt rfl | trivial) (fun _ _ _ h => h) (fun w hs => by first | exact y_pk_bt rfl rfl | exact y_pk_bf rfl rfl) ?_
      refine c_q rfl (by first | exact hs | exact hs.subl | exact hs.cellAt rfl | trivial) (fun _ _ _ h => h) (fun w hs => by exact y_as_bool rfl) ?_
      refine c_end ?_
      refine e_then ?_
      refine s_ret ?_
      exact ret_ [.bool _] rfl ⟨rfl, trivial⟩ ⟨rfl, hs.nil⟩
end Go.Proofs.Ytfjniocobcoepaa
